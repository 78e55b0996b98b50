/- The walks of WordsSigns, WordsShiftOn and WordsLead: each call answers true and leaves what lay in memory. Conditions: words are from 0 to 2^32 - 1, whole numbers of 64 bits. -/
import Derived.Test.YtlmadoihfnhnbaaLawsA
import Derived.Test.YtlmadoihfnhnbaaNumD
namespace Go.Proofs.Ytlmadoihfnhnbaa.Laws
open Go.RowKit Go.Proofs.Ytlmadoihfnhnbaa.Fun Go.Proofs.Ytlmadoihfnhnbaa.Num Go.Proofs.Ytlmadoihfnhnbaa.Con Go.Proofs.YtlmadoihfnhnbaaW.PrintWords Go.Proofs.YtlmadoihfnhnbaaW.PrintLast Go.Proofs.YtlmadoihfnhnbaaW.PrintMore
set_option linter.unusedVariables false
set_option linter.unusedSimpArgs false
set_option maxRecDepth 100000 in
set_option maxHeartbeats 4000000 in
theorem signs_w {a b : Int} (a0 : 0 ≤ a) (a1 : a ≤ 4294967295) (b0 : 0 ≤ b) (b1 : b ≤ 4294967295) (n : Int) (hn : -9223372036854775808 ≤ n ∧ n ≤ 9223372036854775807) (w : World) :
    Calls Try.prog 7 #[.int .u32 a, .int .u32 b, .int .i64 n] w fun e w' => e = .returned (.bool true) ∧ Below w.heap.size w w' := by
  have C25 := Aside0.mk (sub_c a0 a1 b0 b1)
  have C17 := Aside0.mk (less_c a0 a1 b0 b1 true)
  have C17d := Aside0.mk (less_c (a := (a - b) % 4294967296) (b := 0) (by omega) (by omega) (by omega) (by omega) true)
  rw [sign_law a0 a1 b0 b1] at C17
  have xr := ext_range a0 a1 n true
  have C19 := Aside0.mk (ext_c a0 a1 n hn true)
  have C19f := Aside0.mk (ext_c a0 a1 n hn false)
  have C19x := Aside0.mk (ext_c xr.1 xr.2 n hn true)
  have C19y := Aside0.mk (ext_c xr.1 xr.2 n hn false)
  rw [ext_ext] at C19x C19y
  generalize extV a n true = x at *
  generalize extV a n false = y at *
  generalize (a - b) % 4294967296 = d at *
  generalize outB (sg a - sg b) = o at *
  generalize decide (val true d < val true 0) = l at *
  have hb : ((l != o) == (l != o)) = true := by simp
  go_enter Try.func7, Try.ntmps7
  go_wp2_with (first | (go_at_call 14; (with_reducible refine (fixed_c _).mono ?_); rintro e w' ⟨rfl, ⟨nd, rfl⟩⟩) | (go_at_call 25; (with_reducible refine (C25.out _).mono ?_); rintro e w' ⟨rfl, ⟨nd, rfl⟩⟩) | (go_at_call 17; (with_reducible refine (C17.out _).mono ?_); rintro e w' ⟨rfl, ⟨nd, rfl⟩⟩) | (go_at_call 17; (with_reducible refine (C17d.out _).mono ?_); rintro e w' ⟨rfl, ⟨nd, rfl⟩⟩) | (go_at_call 19; (with_reducible refine (C19.out _).mono ?_); rintro e w' ⟨rfl, ⟨nd, rfl⟩⟩) | (go_at_call 19; (with_reducible refine (C19f.out _).mono ?_); rintro e w' ⟨rfl, ⟨nd, rfl⟩⟩) | (go_at_call 19; (with_reducible refine (C19x.out _).mono ?_); rintro e w' ⟨rfl, ⟨nd, rfl⟩⟩) | (go_at_call 19; (with_reducible refine (C19y.out _).mono ?_); rintro e w' ⟨rfl, ⟨nd, rfl⟩⟩))
  go_ret
  exact ⟨by first | rfl | simp, by repeat (first | exact Below.refl _ _ | apply pw_below_drewN)⟩

theorem and15 (n : Int) : Go.bits .and .i64 n 15 = n % 16 := by
  simp only [Go.bits]
  have h1 : (BitVec.ofInt 64 n &&& BitVec.ofInt 64 15).toNat = (BitVec.ofInt 64 n).toNat % 16 := by
    rw [BitVec.toNat_and]
    exact Nat.and_two_pow_sub_one_eq_mod _ 4
  show IntKind.i64.wrap ((BitVec.ofInt 64 n &&& BitVec.ofInt 64 15).toNat : Int) = _
  rw [h1, IntKind.wrap_i64, BitVec.toNat_ofInt]
  omega
set_option maxRecDepth 100000 in
set_option maxHeartbeats 4000000 in
theorem shiftOn_w {a : Int} (a0 : 0 ≤ a) (a1 : a ≤ 4294967295) (n m : Int) (w : World) :
    Calls Try.prog 9 #[.int .u32 a, .int .i64 n, .int .i64 m] w fun e w' => e = .returned (.bool true) ∧ Below w.heap.size w w' := by
  obtain ⟨x, hx⟩ : ∃ x, Go.bits .and .i64 n 15 = x := ⟨_, rfl⟩
  obtain ⟨y, hy⟩ : ∃ y, Go.bits .and .i64 m 15 = y := ⟨_, rfl⟩
  have hx' := and15 n
  have hy' := and15 m
  have x0 : 0 ≤ x := by omega
  have x1 : x ≤ 15 := by omega
  have y0 : 0 ≤ y := by omega
  have y1 : y ≤ 15 := by omega
  clear hx' hy'
  have hd0 : Aside0 (Drawn0 w w) := ⟨Drawn0.refl w⟩
  go_enter Try.func9, Try.ntmps9
  go_wp2
  go_loopw [9] (fun i wr => ∃ k : Nat, k ≤ 3 ∧ i = .int .i64 k ∧ Aside0 (Drawn0 w wr)) (fun i _ => 3 - (intOf i).toNat)
  case atStart => exact ⟨0, Nat.zero_le _, rfl, hd0⟩
  case round =>
    clear hd0
    obtain ⟨k, hk, rfl, HD⟩ := hrel
    by_cases hlt : k < 3
    · have c1 := shift_c a0 a1 (k : Int) x
      have r1 := shift_range a0 a1 (k : Int) x
      have c2 := shift_c r1.1 r1.2 (k : Int) y
      rw [shift_on a0 a1 (k : Int) x y (by omega) (by omega) (by omega)] at c2
      have c3 := shift_c a0 a1 (k : Int) (x + y)
      have c4 := shift_c a0 a1 (k : Int) 0
      rw [shift_none a0 a1 (k : Int) 0 (by omega)] at c4
      have c5 := shift_c a0 a1 (k : Int) 32
      rw [shift_none a0 a1 (k : Int) 32 (by omega)] at c5
      clear r1
      generalize shiftV (k : Int) a x = s1 at c1 c2
      generalize shiftV (k : Int) a (x + y) = s2 at c2 c3
      have C1 := Aside0.mk c1
      have C2 := Aside0.mk c2
      have C3 := Aside0.mk c3
      have C4 := Aside0.mk c4
      have C5 := Aside0.mk c5
      clear c1 c2 c3 c4 c5
      go_wp2_with (first | (go_at_call 27; (with_reducible refine (C1.out _).mono ?_); rintro e w' ⟨rfl, ⟨nd, rfl⟩⟩) | (go_at_call 27; (with_reducible refine (C2.out _).mono ?_); rintro e w' ⟨rfl, ⟨nd, rfl⟩⟩) | (go_at_call 27; (with_reducible refine (C3.out _).mono ?_); rintro e w' ⟨rfl, ⟨nd, rfl⟩⟩) | (go_at_call 27; (with_reducible refine (C4.out _).mono ?_); rintro e w' ⟨rfl, ⟨nd, rfl⟩⟩) | (go_at_call 27; (with_reducible refine (C5.out _).mono ?_); rintro e w' ⟨rfl, ⟨nd, rfl⟩⟩))
      go_roundw
      case rel => exact ⟨k + 1, by omega, by go_num, ⟨by obtain ⟨⟨q, rfl⟩⟩ := HD.out; exact ⟨⟨_, by simp only [World.drewN_drewN]; rfl⟩⟩⟩⟩
      case measure => simp [intOf]; omega
    · have k3 : (k : Int) = 3 := by omega
      go_wp2_with (first | (go_at_call 14; (with_reducible refine (fixed_c _).mono ?_); rintro e w' ⟨rfl, ⟨nd, rfl⟩⟩))
      go_ret
      exact ⟨rfl, by obtain ⟨⟨q, rfl⟩⟩ := HD.out; repeat (first | exact Below.refl _ _ | apply pw_below_drewN)⟩

set_option maxRecDepth 100000 in
set_option maxHeartbeats 4000000 in
theorem lead_w {a : Int} (a0 : 0 ≤ a) (a1 : a ≤ 4294967295) (w : World) :
    Calls Try.prog 10 #[.int .u32 a] w fun e w' => e = .returned (.bool true) ∧ Below w.heap.size w w' := by
  obtain ⟨n, e, hn, hz, ho⟩ := lead_shift a0 a1
  have hu := unary32 a a0 a1
  have c1 := lead_c a0 a1 false
  have c2 := lead_c (a := 4294967295 - a) (by omega) (by omega) true
  rw [lead_not a0 a1 true 32 (by omega)] at c2
  change ∀ w, Calls Try.prog 21 #[.int .u32 (4294967295 - a), .bool true] w fun e w' => e = .returned (.int .i64 (leadV 32 a false)) ∧ Drawn0 w w' at c2
  rw [e] at c1 c2
  have C1 := Aside0.mk c1
  have C2 := Aside0.mk c2
  clear c1 c2 e
  have n0 : (0 : Int) ≤ (n : Int) := by omega
  have n32 : (n : Int) ≤ 32 := by omega
  have t0 : decide ((n : Int) < 0) = false := by simp
  have t1 : decide ((n : Int) > 32) = false := by simp; omega
  have t1' : decide (32 < (n : Int)) = false := by simp; omega
  by_cases h : a = 0
  · have n2 : n = 32 := hz.2 h
    have t2 : ((n : Int) == 32) = true := by simp [n2]
    have t3 : (a == 0) = true := by simp [h]
    clear hz ho h n2
    go_enter Try.func10, Try.ntmps10
    go_wp2_with (first | (go_at_call 21; (with_reducible refine (C1.out _).mono ?_); rintro e w' ⟨rfl, ⟨nd, rfl⟩⟩) | (go_at_call 21; (with_reducible refine (C2.out _).mono ?_); rintro e w' ⟨rfl, ⟨nd, rfl⟩⟩) | (go_at_call 14; (with_reducible refine (fixed_c _).mono ?_); rintro e w' ⟨rfl, ⟨nd, rfl⟩⟩))
    go_ret
    exact ⟨by first | rfl | simp, by repeat (first | exact Below.refl _ _ | apply pw_below_drewN)⟩
  · have n2 : ¬ n = 32 := fun hh => h (hz.1 hh)
    have t2 : ((n : Int) == 32) = false := by rw [beq_eq_false_iff_ne]; omega
    have t3 : (a == 0) = false := by rw [beq_eq_false_iff_ne]; exact h
    obtain ⟨e1, e2⟩ := ho h
    have c3 := shift_c a0 a1 0 (n : Int)
    have c4 := shift_c a0 a1 1 (31 - (n : Int))
    have r3 := shift_range a0 a1 0 (n : Int)
    rw [e2] at c4
    generalize shiftV 0 a (n : Int) = s at e1 c3 r3
    have C3 := Aside0.mk c3
    have C4 := Aside0.mk c4
    clear c3 c4 hz ho e2 n2 h
    go_enter Try.func10, Try.ntmps10
    go_wp2_with (first | (go_at_call 21; (with_reducible refine (C1.out _).mono ?_); rintro e w' ⟨rfl, ⟨nd, rfl⟩⟩) | (go_at_call 21; (with_reducible refine (C2.out _).mono ?_); rintro e w' ⟨rfl, ⟨nd, rfl⟩⟩) | (go_at_call 27; (with_reducible refine (C3.out _).mono ?_); rintro e w' ⟨rfl, ⟨nd, rfl⟩⟩) | (go_at_call 27; (with_reducible refine (C4.out _).mono ?_); rintro e w' ⟨rfl, ⟨nd, rfl⟩⟩) | (go_at_call 14; (with_reducible refine (fixed_c _).mono ?_); rintro e w' ⟨rfl, ⟨nd, rfl⟩⟩))
    go_ret
    exact ⟨by first | rfl | simp, by repeat (first | exact Below.refl _ _ | apply pw_below_drewN)⟩
end Go.Proofs.Ytlmadoihfnhnbaa.Laws
