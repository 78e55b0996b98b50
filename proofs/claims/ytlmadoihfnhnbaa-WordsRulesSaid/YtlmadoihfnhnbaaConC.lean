/- The contracts of package words, third part: the document's quotients without a sign, and its shifts. Conditions: words are from 0 to 2^32 - 1, whole numbers of 64 bits. -/
import Derived.Test.YtlmadoihfnhnbaaConB
namespace Go.Proofs.Ytlmadoihfnhnbaa.Con
open Go.RowKit Go.Proofs.Ytlmadoihfnhnbaa.Fun Go.Proofs.Ytlmadoihfnhnbaa.Num Go.Proofs.YtlmadoihfnhnbaaW.PrintWords Go.Proofs.YtlmadoihfnhnbaaW.PrintLast Go.Proofs.YtlmadoihfnhnbaaW.PrintMore
set_option linter.unusedVariables false
set_option linter.unusedSimpArgs false

set_option maxRecDepth 100000 in
set_option maxHeartbeats 4000000 in
theorem rdiv_u {a b : Int} (a0 : 0 ≤ a) (a1 : a ≤ 4294967295) (b0 : 0 ≤ b) (b1 : b ≤ 4294967295) (hb : b ≠ 0) (w : World) : Calls Try.prog 16 #[.int .u32 a, .int .u32 b, .bool false] w fun e w' => e = .returned (.tuple #[.int .u32 (Int.tdiv a b % 4294967296), .int .u32 (Int.tmod a b % 4294967296), .int .i64 0]) ∧ Drawn0 w w' := by
  have hb0 : (b == 0) = false := by rw [beq_eq_false_iff_ne]; exact hb
  have hq := tdiv_bound (x := a) (y := b) (by omega)
  have hr := tmod_bound (x := a) (y := b) (by omega)
  have a64 : a ≤ 9223372036854775807 := by omega
  have b64 : b ≤ 9223372036854775807 := by omega
  have e1 : Int.tdiv a b = a / b := Int.tdiv_eq_ediv_of_nonneg (by omega)
  have e2 : Int.tmod a b = a % b := Int.tmod_eq_emod_of_nonneg (by omega)
  rw [e1] at hq ⊢
  rw [e2] at hr ⊢
  have wq : wrap64 (a / b) = a / b := wrap64_in (by omega) (by omega)
  have wr : wrap64 (a % b) = a % b := wrap64_in (by omega) (by omega)
  have da : decide (a < 0) = false := by simp; omega
  have db : decide (b < 0) = false := by simp; omega
  go_enter Try.func16, Try.ntmps16
  go_wp2_with (first
    | (go_at_call 30; (with_reducible refine (word_c _ (by omega) (by omega) _).mono ?_); rintro e w' ⟨rfl, ⟨nd, rfl⟩⟩))
  go_ret3
  exact ⟨by first | rfl | simp, by repeat (first | exact Drawn0.refl _ | apply Drawn0.step)⟩
set_option maxRecDepth 100000 in
theorem rdiv_zero (a : Int) (s : Bool) (w : World) : Calls Try.prog 16 #[.int .u32 a, .int .u32 0, .bool s] w fun e w' => e = .returned (.tuple #[.int .u32 0, .int .u32 0, .int .i64 10]) ∧ Drawn0 w w' := by
  go_enter Try.func16, Try.ntmps16
  go_wp2
  go_ret3
  exact ⟨rfl, Drawn0.refl _⟩
theorem rdiv_c {a b : Int} (a0 : 0 ≤ a) (a1 : a ≤ 4294967295) (b0 : 0 ≤ b) (b1 : b ≤ 4294967295) (s : Bool) (hb : b ≠ 0) (w : World) : Calls Try.prog 16 #[.int .u32 a, .int .u32 b, .bool s] w fun e w' => e = .returned (.tuple #[.int .u32 (Int.tdiv (val s a) (val s b) % 4294967296), .int .u32 (Int.tmod (val s a) (val s b) % 4294967296), .int .i64 0]) ∧ Drawn0 w w' := by
  cases s with
  | true => exact rdiv_s a0 a1 b0 b1 hb w
  | false => exact rdiv_u a0 a1 b0 b1 hb w

set_option maxRecDepth 100000 in
set_option maxHeartbeats 8000000 in
theorem rshift_m {a : Int} (a0 : 0 ≤ a) (a1 : a ≤ 4294967295) (kind n : Int) (m : Nat) (hm : m ≤ 31) (C34 : ∀ w, Calls Try.prog 34 #[.int .i64 n] w fun e w' => e = .returned (.int .i64 (m : Int)) ∧ Drawn0 w w') (w : World) :
    Calls Try.prog 28 #[.int .i64 kind, .int .u32 a, .int .i64 n] w fun e w' => e = .returned (.int .u32 (if kind = 0 then a * 2 ^ m % 4294967296 else if kind = 1 then a / 2 ^ m else if kind = 2 then sg a / 2 ^ m % 4294967296 else a)) ∧ Drawn0 w w' := by
  have ra := sg_range a0 a1
  have C := Aside0.mk C34
  have Cm := Aside0.mk (mean_c a0 a1)
  clear C34
  have a64 : a ≤ 9223372036854775807 := by omega
  have hle : ∀ i : Nat, i ≤ 31 → (2 : Int) ^ i ≤ 2147483648 := fun i hi => by
    have := Nat.pow_le_pow_right (show 0 < 2 by omega) hi
    have e : ((2 ^ i : Nat) : Int) = 2 ^ i := by push_cast; rfl
    rw [← e]; omega
  have HLE := Aside0.mk hle
  clear hle
  have hd0 : Aside0 (Drawn0 w w) := ⟨Drawn0.refl w⟩
  go_enter Try.func28, Try.ntmps28
  go_wp2
  go_loopw [7, 8] (fun p i wr => ∃ k : Nat, k ≤ m ∧ i = .int .i64 k ∧ p = .int .i64 (2 ^ k) ∧ Aside0 (Drawn0 w wr)) (fun _ i _ => m - (intOf i).toNat)
  case atStart => exact ⟨0, Nat.zero_le _, rfl, rfl, hd0⟩
  case round =>
    clear hd0
    obtain ⟨k, hk, rfl, rfl, HD⟩ := hrel
    by_cases hlt : k < m
    · have ml : (m : Int) ≤ 31 := by omega
      have p0 := pow_pos k
      have p1 := HLE.out k (by omega)
      go_wp2_with (first | (go_at_call 34; (with_reducible refine (C.out _).mono ?_); rintro e w' ⟨rfl, ⟨nd, rfl⟩⟩))
      go_roundw
      case rel => exact ⟨k + 1, by omega, by go_num, by rw [Int.pow_succ], ⟨by obtain ⟨⟨q, rfl⟩⟩ := HD.out; exact ⟨⟨q + nd, by rw [World.drewN_drewN]⟩⟩⟩⟩
      case measure => simp [intOf]; omega
    · obtain rfl : k = m := by omega
      clear HLE
      have hl := left_is a0 a1 hm
      have p0 := pow_pos k
      obtain ⟨P, hP⟩ : ∃ P : Int, P = 2 ^ k := ⟨_, rfl⟩
      obtain ⟨Q, hQ⟩ : ∃ Q : Int, Q = 2 ^ (32 - k) := ⟨_, rfl⟩
      rw [← hP] at hl p0 ⊢
      rw [← hQ] at hl
      obtain ⟨V, hV⟩ : ∃ V : Int, V = a % Q * P := ⟨_, rfl⟩
      rw [← hV] at hl
      obtain ⟨h1, h2, h3, h4, h5, h6, h7, h8⟩ := hl
      rw [hP] at h3
      have hdv : a / P = a / 2 ^ k ∧ sg a / P = sg a / 2 ^ k := ⟨by rw [hP], by rw [hP]⟩
      have HDV := Aside0.mk hdv
      have H3 := Aside0.mk h3
      have hd0 : 0 ≤ a / P ∧ a / P ≤ a := ⟨Int.ediv_nonneg a0 (by omega), Int.ediv_le_self _ a0⟩
      have hp0 : (P == 0) = false := by rw [beq_eq_false_iff_ne]; exact h1
      have hq0 : (Q == 0) = false := by rw [beq_eq_false_iff_ne]; omega
      clear h3 hdv hP hQ
      by_cases k0 : kind = 0
      · subst k0
        have Cw := Aside0.mk (word_c V (by omega) (by omega))
        rw [Int.emod_eq_of_lt h4 (by omega)] at Cw
        have hw2 : wrap64 (4294967296 / P) = Q := by rw [h2]; exact wrap64_in (by omega) (by omega)
        have hw1 : wrap64 (a % Q * P) = V := by rw [← hV]; exact wrap64_in (by omega) (by omega)
        have hv2 : a % Q * P = V := hV.symm
        clear h1 h6 h7 ra hm hk Cm hd0 hV
        go_wp2_with (first | (go_at_call 34; (with_reducible refine (C.out _).mono ?_); rintro e w' ⟨rfl, ⟨nd, rfl⟩⟩) | (go_at_call 29; (with_reducible refine (Cm.out _).mono ?_); rintro e w' ⟨rfl, ⟨nd, rfl⟩⟩) | (go_at_call 35; (with_reducible refine (Cd.out _).mono ?_); rintro e w' ⟨rfl, ⟨nd, rfl⟩⟩) | (go_at_call 30; (with_reducible refine (Cw.out _).mono ?_); rintro e w' ⟨rfl, ⟨nd, rfl⟩⟩))
        go_ret
        exact ⟨congrArg (fun x => Ending.returned (Value.int IntKind.u32 x)) (by exact H3.out), by obtain ⟨⟨q, rfl⟩⟩ := HD.out; exact ⟨⟨_, by simp only [World.drewN_drewN]; rfl⟩⟩⟩
      · have f0 : (kind == 0) = false := by rw [beq_eq_false_iff_ne]; exact k0
        clear h2 h4 h5 h7 h8 hV hq0
        by_cases k1 : kind = 1
        · have f1 : (kind == 1) = true := by rw [k1]; rfl
          have Cw := Aside0.mk (word_c (a / P) (by omega) (by omega))
          have hw : wrap64 (a / P) = a / P := wrap64_in (by omega) (by omega)
          rw [Int.emod_eq_of_lt hd0.1 (by omega)] at Cw
          clear h1 hm hk ra Cm
          go_wp2_with (first | (go_at_call 34; (with_reducible refine (C.out _).mono ?_); rintro e w' ⟨rfl, ⟨nd, rfl⟩⟩) | (go_at_call 29; (with_reducible refine (Cm.out _).mono ?_); rintro e w' ⟨rfl, ⟨nd, rfl⟩⟩) | (go_at_call 35; (with_reducible refine (Cd.out _).mono ?_); rintro e w' ⟨rfl, ⟨nd, rfl⟩⟩) | (go_at_call 30; (with_reducible refine (Cw.out _).mono ?_); rintro e w' ⟨rfl, ⟨nd, rfl⟩⟩))
          go_ret
          exact ⟨congrArg (fun x => Ending.returned (Value.int IntKind.u32 x)) (by first | exact HDV.out.1 | (rw [if_neg k0, if_pos k1]; exact HDV.out.1)), by obtain ⟨⟨q, rfl⟩⟩ := HD.out; exact ⟨⟨_, by simp only [World.drewN_drewN]; rfl⟩⟩⟩
        · have f1 : (kind == 1) = false := by rw [beq_eq_false_iff_ne]; exact k1
          by_cases k2 : kind = 2
          · have f2 : (kind == 2) = true := by rw [k2]; rfl
            have hs : -2147483648 ≤ sg a / P ∧ sg a / P ≤ 2147483647 := by
              have e1 := Int.ediv_le_ediv p0 ra.2.1
              have e2 := Int.ediv_le_ediv p0 ra.1
              have e3 : (2147483647 : Int) / P ≤ 2147483647 := Int.ediv_le_self _ (by omega)
              have e4 : (-2147483648 : Int) ≤ -2147483648 / P := by
                rw [Int.le_ediv_iff_mul_le p0]
                omega
              omega
            have Cd := Aside0.mk (down_c (n := sg a) (p := P) (by omega) p0 (by omega))
            have Cw := Aside0.mk (word_c (sg a / P) (by omega) (by omega))
            clear h1 hm hk ra hd0 hs
            go_wp2_with (first | (go_at_call 34; (with_reducible refine (C.out _).mono ?_); rintro e w' ⟨rfl, ⟨nd, rfl⟩⟩) | (go_at_call 29; (with_reducible refine (Cm.out _).mono ?_); rintro e w' ⟨rfl, ⟨nd, rfl⟩⟩) | (go_at_call 35; (with_reducible refine (Cd.out _).mono ?_); rintro e w' ⟨rfl, ⟨nd, rfl⟩⟩) | (go_at_call 30; (with_reducible refine (Cw.out _).mono ?_); rintro e w' ⟨rfl, ⟨nd, rfl⟩⟩))
            go_ret
            exact ⟨congrArg (fun x => Ending.returned (Value.int IntKind.u32 x)) (by first | exact congrArg (· % 4294967296) HDV.out.2 | (rw [if_neg k0, if_neg k1, if_pos k2]; exact congrArg (· % 4294967296) HDV.out.2)), by obtain ⟨⟨q, rfl⟩⟩ := HD.out; exact ⟨⟨_, by simp only [World.drewN_drewN]; rfl⟩⟩⟩
          · have f2 : (kind == 2) = false := by rw [beq_eq_false_iff_ne]; exact k2
            clear h1 hm hk ra hd0
            go_wp2_with (first | (go_at_call 34; (with_reducible refine (C.out _).mono ?_); rintro e w' ⟨rfl, ⟨nd, rfl⟩⟩))
            go_ret
            exact ⟨congrArg (fun x => Ending.returned (Value.int IntKind.u32 x)) (by first | rfl | rw [if_neg k0, if_neg k1, if_neg k2]), by obtain ⟨⟨q, rfl⟩⟩ := HD.out; exact ⟨⟨_, by simp only [World.drewN_drewN]; rfl⟩⟩⟩

theorem rshift_c {a : Int} (a0 : 0 ≤ a) (a1 : a ≤ 4294967295) (kind n : Int) (hn : -9223372036854775808 ≤ n ∧ n ≤ 9223372036854775807) (w : World) :
    Calls Try.prog 28 #[.int .i64 kind, .int .u32 a, .int .i64 n] w fun e w' => e = .returned (.int .u32 (shiftV kind a n)) ∧ Drawn0 w w' := by
  have h : (((n % 32).toNat : Nat) : Int) = n % 32 := by omega
  exact rshift_m a0 a1 kind n (n % 32).toNat (by omega) (fun w => by rw [h]; exact mod_c n hn w) w
end Go.Proofs.Ytlmadoihfnhnbaa.Con
