/- The walk of WordsRules: the call answers true and leaves what lay in memory. Conditions: words are from 0 to 2^32 - 1, whole numbers of 64 bits. -/
import Derived.Test.YtlmadoihfnhnbaaLawsB
namespace Go.Proofs.Ytlmadoihfnhnbaa.Laws
open Go.RowKit Go.Proofs.Ytlmadoihfnhnbaa.Fun Go.Proofs.Ytlmadoihfnhnbaa.Num Go.Proofs.Ytlmadoihfnhnbaa.Con Go.Proofs.YtlmadoihfnhnbaaW.PrintWords Go.Proofs.YtlmadoihfnhnbaaW.PrintLast Go.Proofs.YtlmadoihfnhnbaaW.PrintMore
set_option linter.unusedVariables false
set_option linter.unusedSimpArgs false

/-- What a round asks of quotient, product and sum, by name. -/
theorem round_c {a b : Int} (a0 : 0 ≤ a) (a1 : a ≤ 4294967295) (b0 : 0 ≤ b) (b1 : b ≤ 4294967295) (hb : b ≠ 0) (s : Bool) : ∃ q r h p : Int, ∃ o : Bool,
    (∀ w, Calls Try.prog 15 #[.int .u32 a, .int .u32 b, .bool s] w fun e w' => e = .returned (.tuple #[.int .u32 q, .int .u32 r, .int .i64 0]) ∧ Drawn0 w w') ∧
    (∀ w, Calls Try.prog 12 #[.int .u32 q, .int .u32 b, .bool s] w fun e w' => e = .returned (.tuple #[.int .u32 h, .int .u32 p]) ∧ Drawn0 w w') ∧
    (∀ w, Calls Try.prog 23 #[.int .u32 p, .int .u32 r] w fun e w' => e = .returned (.tuple #[.int .u32 a, .bool o]) ∧ Drawn0 w w') ∧
    (s = false → ∀ w, Calls Try.prog 17 #[.int .u32 r, .int .u32 b, .bool false] w fun e w' => e = .returned (.bool true) ∧ Drawn0 w w') := by
  have d := div_law s a0 a1 b0 b1
  have h := add_c (a := (val s (Int.tdiv (val s a) (val s b) % 4294967296) * val s b) % 4294967296) (b := Int.tmod (val s a) (val s b) % 4294967296) (by omega) (by omega) (by omega) (by omega)
  rw [d] at h
  refine ⟨Int.tdiv (val s a) (val s b) % 4294967296, Int.tmod (val s a) (val s b) % 4294967296, _, (val s (Int.tdiv (val s a) (val s b) % 4294967296) * val s b) % 4294967296, _, div_c a0 a1 b0 b1 s hb, mul_c (by omega) (by omega) b0 b1 s, h, ?_⟩
  rintro rfl
  have h := less_c (a := Int.tmod (val false a) (val false b) % 4294967296) (b := b) (by omega) (by omega) b0 b1 false
  have l := rem_law a0 b0 hb a1
  rw [show decide (val false (Int.tmod (val false a) (val false b) % 4294967296) < val false b) = true from decide_eq_true l] at h
  exact h
theorem round_z {a : Int} (a0 : 0 ≤ a) (a1 : a ≤ 4294967295) (s : Bool) : ∃ h p t : Int, ∃ o : Bool,
    (∀ w, Calls Try.prog 15 #[.int .u32 a, .int .u32 0, .bool s] w fun e w' => e = .returned (.tuple #[.int .u32 0, .int .u32 0, .int .i64 10]) ∧ Drawn0 w w') ∧
    (∀ w, Calls Try.prog 12 #[.int .u32 0, .int .u32 0, .bool s] w fun e w' => e = .returned (.tuple #[.int .u32 h, .int .u32 p]) ∧ Drawn0 w w') ∧
    (∀ w, Calls Try.prog 23 #[.int .u32 p, .int .u32 0] w fun e w' => e = .returned (.tuple #[.int .u32 t, .bool o]) ∧ Drawn0 w w') := by
  refine ⟨_, (val s 0 * val s 0) % 4294967296, _, _, div_zero a0 a1 s, mul_c (by omega) (by omega) (by omega) (by omega) s, add_c (by omega) (by omega) (by omega) (by omega)⟩

set_option maxRecDepth 100000 in
set_option maxHeartbeats 8000000 in
theorem rules_w {a b : Int} (a0 : 0 ≤ a) (a1 : a ≤ 4294967295) (b0 : 0 ≤ b) (b1 : b ≤ 4294967295) (n : Int) (w : World) :
    Calls Try.prog 11 #[.int .u32 a, .int .u32 b, .int .i64 n] w fun e w' => e = .returned (.bool true) ∧ Below w.heap.size w w' := by
  have c23 := add_c a0 a1 b0 b1
  have c25 := sub_c (a := (a + b) % 4294967296) (b := b) (by omega) (by omega) b0 b1
  rw [back_law a0 a1] at c25
  have c12 := mul_c a0 a1 b0 b1 true
  have c12b := mul_c b0 b1 a0 a1 true
  rw [Int.mul_comm (val true b)] at c12b
  obtain ⟨k, hk⟩ : ∃ k, Go.bits .and .i64 n 31 = k := ⟨_, rfl⟩
  have hk' := and31 n
  have k0 : 0 ≤ k := by omega
  have k1 : k ≤ 31 := by omega
  clear hk'
  obtain ⟨x1, x2⟩ := shift_ext a0 a1 k ⟨k0, k1⟩
  have r1 := shift_range a0 a1 0 k
  have s0 := shift_c a0 a1 0 k
  have s1 := shift_c r1.1 r1.2 1 k
  have s2 := shift_c r1.1 r1.2 2 k
  have e1 := ext_c a0 a1 (32 - k) (by omega) false
  have e2 := ext_c a0 a1 (32 - k) (by omega) true
  rw [← x1] at e1
  rw [← x2] at e2
  generalize shiftV 1 (shiftV 0 a k) k = v1 at *
  generalize shiftV 2 (shiftV 0 a k) k = v2 at *
  generalize shiftV 0 a k = v0 at *
  generalize (val true a * val true b) / 4294967296 % 4294967296 = ph at *
  generalize (val true a * val true b) % 4294967296 = pl at *
  generalize outB (sg a + sg b) = o1 at *
  generalize outB (sg ((a + b) % 4294967296) - sg b) = o2 at *
  generalize (a + b) % 4294967296 = d at *
  have C23 := Aside0.mk c23
  have C25 := Aside0.mk c25
  have C12 := Aside0.mk c12
  have C12b := Aside0.mk c12b
  have S0 := Aside0.mk s0
  have S1 := Aside0.mk s1
  have S2 := Aside0.mk s2
  have E1 := Aside0.mk e1
  have E2 := Aside0.mk e2
  clear c23 c25 c12 c12b s0 s1 s2 e1 e2 x1 x2 r1
  have hd0 : Aside0 (Drawn0 w w) := ⟨Drawn0.refl w⟩
  go_enter Try.func11, Try.ntmps11
  go_wp2_with (first | (go_at_call 14; (with_reducible refine (fixed_c _).mono ?_); rintro e w' ⟨rfl, ⟨nd, rfl⟩⟩) | (go_at_call 23; (with_reducible refine (C23.out _).mono ?_); rintro e w' ⟨rfl, ⟨nd, rfl⟩⟩) | (go_at_call 25; (with_reducible refine (C25.out _).mono ?_); rintro e w' ⟨rfl, ⟨nd, rfl⟩⟩) | (go_at_call 12; (with_reducible refine (C12.out _).mono ?_); rintro e w' ⟨rfl, ⟨nd, rfl⟩⟩) | (go_at_call 12; (with_reducible refine (C12b.out _).mono ?_); rintro e w' ⟨rfl, ⟨nd, rfl⟩⟩) | (go_at_call 27; (with_reducible refine (S0.out _).mono ?_); rintro e w' ⟨rfl, ⟨nd, rfl⟩⟩) | (go_at_call 27; (with_reducible refine (S1.out _).mono ?_); rintro e w' ⟨rfl, ⟨nd, rfl⟩⟩) | (go_at_call 27; (with_reducible refine (S2.out _).mono ?_); rintro e w' ⟨rfl, ⟨nd, rfl⟩⟩) | (go_at_call 19; (with_reducible refine (E1.out _).mono ?_); rintro e w' ⟨rfl, ⟨nd, rfl⟩⟩) | (go_at_call 19; (with_reducible refine (E2.out _).mono ?_); rintro e w' ⟨rfl, ⟨nd, rfl⟩⟩))
  clear C23 C25 C12 C12b S0 S1 S2 E1 E2 hd0
  go_loopw [16] (fun i wr => ∃ k : Nat, k ≤ 2 ∧ i = .int .i64 k ∧ Aside0 (Drawn0 w wr)) (fun i _ => 2 - (intOf i).toNat)
  case atStart => exact ⟨0, Nat.zero_le _, rfl, ⟨by repeat (first | exact Drawn0.refl _ | apply Drawn0.step)⟩⟩
  case round =>
    obtain ⟨j, hj, rfl, HD⟩ := hrel
    by_cases hlt : j < 2
    · obtain ⟨s, hs⟩ : ∃ s : Bool, ((j : Int) == 1) = s := ⟨_, rfl⟩
      have hs0 : ((j : Int) == 0) = !s := by
        rw [← hs]
        have : j = 0 ∨ j = 1 := by omega
        rcases this with rfl | rfl <;> rfl
      by_cases hb : b = 0
      · subst hb
        obtain ⟨h, p, t, o, D, M, A⟩ := round_z a0 a1 s
        have D' := Aside0.mk D
        have M' := Aside0.mk M
        have A' := Aside0.mk A
        clear D M A
        go_wp2_with (first | (go_at_call 15; (with_reducible refine (D'.out _).mono ?_); rintro e w' ⟨rfl, ⟨nd, rfl⟩⟩) | (go_at_call 12; (with_reducible refine (M'.out _).mono ?_); rintro e w' ⟨rfl, ⟨nd, rfl⟩⟩) | (go_at_call 23; (with_reducible refine (A'.out _).mono ?_); rintro e w' ⟨rfl, ⟨nd, rfl⟩⟩))
        go_roundw
        case rel => exact ⟨j + 1, by omega, by go_num, ⟨by obtain ⟨⟨q, rfl⟩⟩ := HD.out; exact ⟨⟨_, by simp only [World.drewN_drewN]; rfl⟩⟩⟩⟩
        case measure => simp [intOf]; omega
      · have hbn : (b != 0) = true := bne_iff_ne.mpr hb
        have hbe : (b == 0) = false := by rw [beq_eq_false_iff_ne]; exact hb
        obtain ⟨q, r, h, p, o, D, M, A, L⟩ := round_c a0 a1 b0 b1 hb s
        have D' := Aside0.mk D
        have M' := Aside0.mk M
        have A' := Aside0.mk A
        clear D M A
        cases s with
        | true =>
          clear L
          go_wp2_with (first | (go_at_call 15; (with_reducible refine (D'.out _).mono ?_); rintro e w' ⟨rfl, ⟨nd, rfl⟩⟩) | (go_at_call 12; (with_reducible refine (M'.out _).mono ?_); rintro e w' ⟨rfl, ⟨nd, rfl⟩⟩) | (go_at_call 23; (with_reducible refine (A'.out _).mono ?_); rintro e w' ⟨rfl, ⟨nd, rfl⟩⟩))
          go_roundw
          case rel => exact ⟨j + 1, by omega, by go_num, ⟨by obtain ⟨⟨q, rfl⟩⟩ := HD.out; exact ⟨⟨_, by simp only [World.drewN_drewN]; rfl⟩⟩⟩⟩
          case measure => simp [intOf]; omega
        | false =>
          have L' := Aside0.mk (L rfl)
          clear L
          go_wp2_with (first | (go_at_call 15; (with_reducible refine (D'.out _).mono ?_); rintro e w' ⟨rfl, ⟨nd, rfl⟩⟩) | (go_at_call 12; (with_reducible refine (M'.out _).mono ?_); rintro e w' ⟨rfl, ⟨nd, rfl⟩⟩) | (go_at_call 23; (with_reducible refine (A'.out _).mono ?_); rintro e w' ⟨rfl, ⟨nd, rfl⟩⟩) | (go_at_call 17; (with_reducible refine (L'.out _).mono ?_); rintro e w' ⟨rfl, ⟨nd, rfl⟩⟩))
          go_roundw
          case rel => exact ⟨j + 1, by omega, by go_num, ⟨by obtain ⟨⟨q, rfl⟩⟩ := HD.out; exact ⟨⟨_, by simp only [World.drewN_drewN]; rfl⟩⟩⟩⟩
          case measure => simp [intOf]; omega
    · have k3 : (j : Int) = 2 := by omega
      go_wp2
      go_ret
      exact ⟨rfl, by obtain ⟨⟨q, rfl⟩⟩ := HD.out; repeat (first | exact Below.refl _ _ | apply pw_below_drewN)⟩
end Go.Proofs.Ytlmadoihfnhnbaa.Laws
