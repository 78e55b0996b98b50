/- The contracts of package words, second half: the document's quotients and shifts, and the calls whose answers the document fixes. Conditions: words are from 0 to 2^32 - 1, whole numbers of 64 bits. -/
import Derived.Test.YtlmadoihfnhnbaaCon
namespace Go.Proofs.Ytlmadoihfnhnbaa.Con
open Go.RowKit Go.Proofs.Ytlmadoihfnhnbaa.Fun Go.Proofs.Ytlmadoihfnhnbaa.Num Go.Proofs.YtlmadoihfnhnbaaW.PrintWords Go.Proofs.YtlmadoihfnhnbaaW.PrintLast Go.Proofs.YtlmadoihfnhnbaaW.PrintMore
set_option linter.unusedVariables false
set_option linter.unusedSimpArgs false

theorem fx_add (w : World) : Calls Try.prog 23 #[.int .u32 2147483647, .int .u32 1] w fun e w' => e = .returned (.tuple #[.int .u32 2147483648, .bool true]) ∧ Drawn0 w w' := words_Add.calls _ _ _ _ w (by decide +kernel)
theorem fx_mul (w : World) : Calls Try.prog 12 #[.int .u32 4294967295, .int .u32 2, .bool true] w fun e w' => e = .returned (.tuple #[.int .u32 4294967295, .int .u32 4294967294]) ∧ Drawn0 w w' := words_Mul.calls _ _ _ _ _ w (by decide +kernel)
theorem fx_div (w : World) : Calls Try.prog 15 #[.int .u32 2147483648, .int .u32 4294967295, .bool true] w fun e w' => e = .returned (.tuple #[.int .u32 2147483648, .int .u32 0, .int .i64 0]) ∧ Drawn0 w w' := words_Div.calls _ _ _ _ _ _ w (by decide +kernel)
theorem fx_none (w : World) : Calls Try.prog 15 #[.int .u32 1, .int .u32 0, .bool false] w fun e w' => e = .returned (.tuple #[.int .u32 0, .int .u32 0, .int .i64 10]) ∧ Drawn0 w w' := words_Div.calls _ _ _ _ _ _ w (by decide +kernel)
theorem fx_ext (w : World) : Calls Try.prog 19 #[.int .u32 128, .int .i64 8, .bool true] w fun e w' => e = .returned (.int .u32 4294967168) ∧ Drawn0 w w' := words_Ext.calls 2 _ _ _ _ w (by decide +kernel)
theorem fx_lead (w : World) : Calls Try.prog 21 #[.int .u32 1, .bool false] w fun e w' => e = .returned (.int .i64 31) ∧ Drawn0 w w' := by
  have h := lead_c (a := 1) (by omega) (by omega) false w
  rw [show leadV 32 1 false = 31 by decide +kernel] at h
  exact h
theorem fx_less (w : World) : Calls Try.prog 17 #[.int .u32 2147483648, .int .u32 0, .bool true] w fun e w' => e = .returned (.bool true) ∧ Drawn0 w w' := words_Less.calls _ _ _ _ w (by decide +kernel)

set_option maxRecDepth 100000 in
set_option maxHeartbeats 4000000 in
theorem fixed_c (w : World) : Calls Try.prog 14 #[] w fun e w' => e = .returned (.bool true) ∧ Drawn0 w w' := by
  go_enter Try.func14, Try.ntmps14
  go_wp2_with (first
    | (go_at_call 23; (with_reducible refine (fx_add _).mono ?_); rintro e w' ⟨rfl, ⟨nd, rfl⟩⟩)
    | (go_at_call 12; (with_reducible refine (fx_mul _).mono ?_); rintro e w' ⟨rfl, ⟨nd, rfl⟩⟩)
    | (go_at_call 15; (with_reducible refine (fx_div _).mono ?_); rintro e w' ⟨rfl, ⟨nd, rfl⟩⟩)
    | (go_at_call 15; (with_reducible refine (fx_none _).mono ?_); rintro e w' ⟨rfl, ⟨nd, rfl⟩⟩)
    | (go_at_call 19; (with_reducible refine (fx_ext _).mono ?_); rintro e w' ⟨rfl, ⟨nd, rfl⟩⟩)
    | (go_at_call 21; (with_reducible refine (fx_lead _).mono ?_); rintro e w' ⟨rfl, ⟨nd, rfl⟩⟩)
    | (go_at_call 17; (with_reducible refine (fx_less _).mono ?_); rintro e w' ⟨rfl, ⟨nd, rfl⟩⟩))
  go_ret
  exact ⟨rfl, by repeat (first | exact Drawn0.refl _ | apply Drawn0.step)⟩

theorem tmod_bound {x y : Int} (hx : -4294967296 ≤ x ∧ x ≤ 4294967296) : -4294967296 ≤ Int.tmod x y ∧ Int.tmod x y ≤ 4294967296 := by
  have h := Int.natAbs_tmod x y
  have h2 := Nat.mod_le x.natAbs y.natAbs
  have h3 : (Int.tmod x y).natAbs ≤ x.natAbs := by rw [h]; exact h2
  omega

set_option maxRecDepth 100000 in
set_option maxHeartbeats 8000000 in
theorem rdiv_s {a b : Int} (a0 : 0 ≤ a) (a1 : a ≤ 4294967295) (b0 : 0 ≤ b) (b1 : b ≤ 4294967295) (hb : b ≠ 0) (w : World) : Calls Try.prog 16 #[.int .u32 a, .int .u32 b, .bool true] w fun e w' => e = .returned (.tuple #[.int .u32 (Int.tdiv (sg a) (sg b) % 4294967296), .int .u32 (Int.tmod (sg a) (sg b) % 4294967296), .int .i64 0]) ∧ Drawn0 w w' := by
  have ra := sg_range a0 a1
  have rb := sg_range b0 b1
  have hb0 : (b == 0) = false := by rw [beq_eq_false_iff_ne]; exact hb
  have hy0 : sg b ≠ 0 := by omega
  have Ca := Aside0.mk (mean_c a0 a1)
  have Cb := Aside0.mk (mean_c b0 b1)
  have hq := tdiv_bound (x := sg a) (y := sg b) (by omega)
  have hr := tmod_bound (x := sg a) (y := sg b) (by omega)
  generalize sg a = x at *
  generalize sg b = y at *
  have a64 : a ≤ 9223372036854775807 := by omega
  have b64 : b ≤ 9223372036854775807 := by omega
  have wq : wrap64 (Int.tdiv x y) = Int.tdiv x y := wrap64_in (by omega) (by omega)
  have wq2 : wrap64 (-(Int.tdiv x y)) = -(Int.tdiv x y) := wrap64_in (by omega) (by omega)
  have wr : wrap64 (Int.tmod x y) = Int.tmod x y := wrap64_in (by omega) (by omega)
  have wr2 : wrap64 (-(Int.tmod x y)) = -(Int.tmod x y) := wrap64_in (by omega) (by omega)
  have w1 : wrap64 (-x) = -x := wrap64_in (by omega) (by omega)
  have w2 : wrap64 (-y) = -y := wrap64_in (by omega) (by omega)
  have n0 : (-y == 0) = false := by rw [beq_eq_false_iff_ne]; omega
  have n1 : (y == 0) = false := by rw [beq_eq_false_iff_ne]; omega
  by_cases hx : x < 0
  · have hx' : decide (x < 0) = true := by simp [hx]
    by_cases hy : y < 0
    · have hy' : decide (y < 0) = true := by simp [hy]
      go_enter Try.func16, Try.ntmps16
      go_wp2_with (first
        | (go_at_call 29; (with_reducible refine (Ca.out _).mono ?_); rintro e w' ⟨rfl, ⟨nd, rfl⟩⟩)
        | (go_at_call 29; (with_reducible refine (Cb.out _).mono ?_); rintro e w' ⟨rfl, ⟨nd, rfl⟩⟩)
        | (go_at_call 30; (with_reducible refine (word_c _ (by omega) (by omega) _).mono ?_); rintro e w' ⟨rfl, ⟨nd, rfl⟩⟩))
      go_ret3
      exact ⟨by first | rfl | simp, by repeat (first | exact Drawn0.refl _ | apply Drawn0.step)⟩
    · have hy' : decide (y < 0) = false := by simp [hy]
      go_enter Try.func16, Try.ntmps16
      go_wp2_with (first
        | (go_at_call 29; (with_reducible refine (Ca.out _).mono ?_); rintro e w' ⟨rfl, ⟨nd, rfl⟩⟩)
        | (go_at_call 29; (with_reducible refine (Cb.out _).mono ?_); rintro e w' ⟨rfl, ⟨nd, rfl⟩⟩)
        | (go_at_call 30; (with_reducible refine (word_c _ (by omega) (by omega) _).mono ?_); rintro e w' ⟨rfl, ⟨nd, rfl⟩⟩))
      go_ret3
      exact ⟨by first | rfl | simp, by repeat (first | exact Drawn0.refl _ | apply Drawn0.step)⟩
  · have hx' : decide (x < 0) = false := by simp [hx]
    have e1 : Int.tdiv x y = x / y := Int.tdiv_eq_ediv_of_nonneg (by omega)
    have e2 : Int.tmod x y = x % y := Int.tmod_eq_emod_of_nonneg (by omega)
    rw [e1] at hq wq wq2 ⊢
    rw [e2] at hr wr wr2 ⊢
    by_cases hy : y < 0
    · have hy' : decide (y < 0) = true := by simp [hy]
      go_enter Try.func16, Try.ntmps16
      go_wp2_with (first
        | (go_at_call 29; (with_reducible refine (Ca.out _).mono ?_); rintro e w' ⟨rfl, ⟨nd, rfl⟩⟩)
        | (go_at_call 29; (with_reducible refine (Cb.out _).mono ?_); rintro e w' ⟨rfl, ⟨nd, rfl⟩⟩)
        | (go_at_call 30; (with_reducible refine (word_c _ (by omega) (by omega) _).mono ?_); rintro e w' ⟨rfl, ⟨nd, rfl⟩⟩))
      go_ret3
      exact ⟨by first | rfl | simp, by repeat (first | exact Drawn0.refl _ | apply Drawn0.step)⟩
    · have hy' : decide (y < 0) = false := by simp [hy]
      go_enter Try.func16, Try.ntmps16
      go_wp2_with (first
        | (go_at_call 29; (with_reducible refine (Ca.out _).mono ?_); rintro e w' ⟨rfl, ⟨nd, rfl⟩⟩)
        | (go_at_call 29; (with_reducible refine (Cb.out _).mono ?_); rintro e w' ⟨rfl, ⟨nd, rfl⟩⟩)
        | (go_at_call 30; (with_reducible refine (word_c _ (by omega) (by omega) _).mono ?_); rintro e w' ⟨rfl, ⟨nd, rfl⟩⟩))
      go_ret3
      exact ⟨by first | rfl | simp, by repeat (first | exact Drawn0.refl _ | apply Drawn0.step)⟩
end Go.Proofs.Ytlmadoihfnhnbaa.Con
