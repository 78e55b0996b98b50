/- What the functions of package words and of the document's answer come to, as contracts of the calls. Conditions: words are from 0 to 2^32 - 1, whole numbers of 64 bits. -/
import Derived.Test.YtlmadoihfnhnbaaNumC
import Derived.Test.YtlmadoihfnhnbaaShelf
import Derived.WalkLawsBesides
namespace Go.Proofs.Ytlmadoihfnhnbaa.Con
open Go.RowKit Go.Proofs.Ytlmadoihfnhnbaa.Fun Go.Proofs.Ytlmadoihfnhnbaa.Num Go.Proofs.YtlmadoihfnhnbaaW.PrintWords Go.Proofs.YtlmadoihfnhnbaaW.PrintLast Go.Proofs.YtlmadoihfnhnbaaW.PrintMore
set_option linter.unusedVariables false
set_option linter.unusedSimpArgs false

section
variable {a b : Int} (a0 : 0 ≤ a) (a1 : a ≤ 4294967295) (b0 : 0 ≤ b) (b1 : b ≤ 4294967295)
include a0 a1 b0 b1
theorem add_c (w : World) : Calls Try.prog 23 #[.int .u32 a, .int .u32 b] w fun e w' => e = .returned (.tuple #[.int .u32 ((a + b) % 4294967296), .bool (outB (sg a + sg b))]) ∧ Drawn0 w w' := words_Add.calls _ _ _ _ w (add_is a0 a1 b0 b1)
theorem radd_c (w : World) : Calls Try.prog 24 #[.int .u32 a, .int .u32 b] w fun e w' => e = .returned (.tuple #[.int .u32 ((a + b) % 4294967296), .bool (outB (sg a + sg b))]) ∧ Drawn0 w w' := zoetroperef01_Add.calls _ _ _ _ w (radd_is a0 a1 b0 b1)
theorem sub_c (w : World) : Calls Try.prog 25 #[.int .u32 a, .int .u32 b] w fun e w' => e = .returned (.tuple #[.int .u32 ((a - b) % 4294967296), .bool (outB (sg a - sg b))]) ∧ Drawn0 w w' := words_Sub.calls _ _ _ _ w (sub_is a0 a1 b0 b1)
theorem rsub_c (w : World) : Calls Try.prog 26 #[.int .u32 a, .int .u32 b] w fun e w' => e = .returned (.tuple #[.int .u32 ((a - b) % 4294967296), .bool (outB (sg a - sg b))]) ∧ Drawn0 w w' := zoetroperef01_Sub.calls _ _ _ _ w (rsub_is a0 a1 b0 b1)
theorem less_c (s : Bool) (w : World) : Calls Try.prog 17 #[.int .u32 a, .int .u32 b, .bool s] w fun e w' => e = .returned (.bool (decide (val s a < val s b))) ∧ Drawn0 w w' := words_Less.calls _ _ _ _ w (less_is a0 a1 b0 b1 s)
theorem rless_c (s : Bool) (w : World) : Calls Try.prog 18 #[.int .u32 a, .int .u32 b, .bool s] w fun e w' => e = .returned (.bool (decide (val s a < val s b))) ∧ Drawn0 w w' := zoetroperef01_Less.calls _ _ _ _ w (rless_is a0 a1 b0 b1 s)
theorem mul_c (s : Bool) (w : World) : Calls Try.prog 12 #[.int .u32 a, .int .u32 b, .bool s] w fun e w' => e = .returned (.tuple #[.int .u32 ((val s a * val s b) / 4294967296 % 4294967296), .int .u32 ((val s a * val s b) % 4294967296)]) ∧ Drawn0 w w' := words_Mul.calls _ _ _ _ _ w (mul_is a0 a1 b0 b1 s)
theorem rmul_c (s : Bool) (w : World) : Calls Try.prog 13 #[.int .u32 a, .int .u32 b, .bool s] w fun e w' => e = .returned (.tuple #[.int .u32 ((val s a * val s b) / 4294967296 % 4294967296), .int .u32 ((val s a * val s b) % 4294967296)]) ∧ Drawn0 w w' := zoetroperef01_Mul.calls 2 _ _ _ _ _ w (rmul_is a0 a1 b0 b1 s)
theorem div_c (s : Bool) (hb : b ≠ 0) (w : World) : Calls Try.prog 15 #[.int .u32 a, .int .u32 b, .bool s] w fun e w' => e = .returned (.tuple #[.int .u32 (Int.tdiv (val s a) (val s b) % 4294967296), .int .u32 (Int.tmod (val s a) (val s b) % 4294967296), .int .i64 0]) ∧ Drawn0 w w' :=
  words_Div.calls _ _ _ _ _ _ w (by rw [div_is a0 a1 b0 b1 s, if_neg hb])
omit b0 b1 in
theorem div_zero (s : Bool) (w : World) : Calls Try.prog 15 #[.int .u32 a, .int .u32 0, .bool s] w fun e w' => e = .returned (.tuple #[.int .u32 0, .int .u32 0, .int .i64 10]) ∧ Drawn0 w w' :=
  words_Div.calls _ _ _ _ _ _ w (by rw [div_is a0 a1 (by omega) (by omega) s, if_pos rfl])
end
theorem ext_c {a : Int} (a0 : 0 ≤ a) (a1 : a ≤ 4294967295) (n : Int) (hn : -9223372036854775808 ≤ n ∧ n ≤ 9223372036854775807) (s : Bool) (w : World) : Calls Try.prog 19 #[.int .u32 a, .int .i64 n, .bool s] w fun e w' => e = .returned (.int .u32 (extV a n s)) ∧ Drawn0 w w' := words_Ext.calls 1 _ _ _ _ w (ext_is a0 a1 n s hn)
theorem rext_c {a : Int} (a0 : 0 ≤ a) (a1 : a ≤ 4294967295) (n : Int) (s : Bool) (w : World) : Calls Try.prog 20 #[.int .u32 a, .int .i64 n, .bool s] w fun e w' => e = .returned (.int .u32 (extV a n s)) ∧ Drawn0 w w' := zoetroperef01_Ext.calls 40 _ _ _ _ w (rext_is a0 a1 n s)
theorem shift_c {a : Int} (a0 : 0 ≤ a) (a1 : a ≤ 4294967295) (kind n : Int) (w : World) : Calls Try.prog 27 #[.int .i64 kind, .int .u32 a, .int .i64 n] w fun e w' => e = .returned (.int .u32 (shiftV kind a n)) ∧ Drawn0 w w' := words_Shift.calls 1 _ _ _ _ w (shift_is a0 a1 kind n)
theorem rlead_c {a : Int} (a0 : 0 ≤ a) (a1 : a ≤ 4294967295) (one : Bool) (w : World) : Calls Try.prog 22 #[.int .u32 a, .bool one] w fun e w' => e = .returned (.int .i64 (leadV 32 a one)) ∧ Drawn0 w w' := zoetroperef01_Lead.calls 33 _ _ _ w (rlead_is a0 a1 one)
theorem mean_c {a : Int} (a0 : 0 ≤ a) (a1 : a ≤ 4294967295) (w : World) : Calls Try.prog 29 #[.int .u32 a] w fun e w' => e = .returned (.int .i64 (sg a)) ∧ Drawn0 w w' := zoetroperef01_Mean.calls _ _ w (mean_is a0 a1)
theorem word_c (n : Int) (h0 : -9223372036854775808 ≤ n) (h1 : n ≤ 9223372036854775807) (w : World) : Calls Try.prog 30 #[.int .i64 n] w fun e w' => e = .returned (.int .u32 (n % 4294967296)) ∧ Drawn0 w w' := zoetroperef01_Word.calls _ _ w (word_is h0 h1)
theorem mod_c (n : Int) (h : -9223372036854775808 ≤ n ∧ n ≤ 9223372036854775807) (w : World) : Calls Try.prog 34 #[.int .i64 n] w fun e w' => e = .returned (.int .i64 (n % 32)) ∧ Drawn0 w w' := zoetroperef01_mod.calls _ _ w (mod_is h)
theorem down_c {n p : Int} (hn : -4294967296 ≤ n ∧ n ≤ 4294967296) (hp : 0 < p) (hp2 : p ≤ 4294967296) (w : World) : Calls Try.prog 35 #[.int .i64 n, .int .i64 p] w fun e w' => e = .returned (.int .i64 (n / p)) ∧ Drawn0 w w' := zoetroperef01_down.calls _ _ _ w (down_is hn hp hp2)

/-- Leading bits. -/
theorem not32 (a : Int) (a0 : 0 ≤ a) (a1 : a ≤ 4294967295) : Go.bits .xor .u32 4294967295 a = 4294967295 - a := by
  have h1 : BitVec.ofInt 32 4294967295 = BitVec.allOnes 32 := by decide
  have h2 : (BitVec.allOnes 32 ^^^ BitVec.ofInt 32 a).toNat = 4294967295 - (BitVec.ofInt 32 a).toNat := by
    rw [BitVec.xor_comm, BitVec.xor_allOnes, BitVec.toNat_not]
  simp only [Go.bits]
  show IntKind.u32.wrap ((BitVec.ofInt 32 4294967295 ^^^ BitVec.ofInt 32 a).toNat : Int) = _
  rw [h1, h2, IntKind.wrap_u32, BitVec.toNat_ofInt]
  omega
theorem unary32 (a : Int) (a0 : 0 ≤ a) (a1 : a ≤ 4294967295) : Op.unary .xor (.int .u32 a) = pure (.int .u32 (4294967295 - a)) := by
  have h : Op.unary .xor (.int .u32 a) = Op.intBits .xor .u32 4294967295 a := rfl
  rw [h, intBits_xor, not32 a a0 a1]
set_option maxRecDepth 100000 in
set_option maxHeartbeats 1000000 in
theorem lead_c {a : Int} (a0 : 0 ≤ a) (a1 : a ≤ 4294967295) (one : Bool) (w : World) : Calls Try.prog 21 #[.int .u32 a, .bool one] w fun e w' => e = .returned (.int .i64 (leadV 32 a one)) ∧ Drawn0 w w' := by
  cases one with
  | false =>
    have h := Aside0.mk (lead_is a0 a1)
    go_enter Try.func21, Try.ntmps21
    go_wp2_with (first | (go_at_call 31; refine (Try.bits_LeadingZeros32 a _ a0 a1).mono ?_; rintro e w' ⟨rfl, rfl⟩))
    go_ret
    exact ⟨congrArg (fun x => Ending.returned (.int .i64 x)) h.out, Drawn0.refl _⟩
  | true =>
    have hu := unary32 a a0 a1
    have h := Aside0.mk (lead_is (a := 4294967295 - a) (by omega) (by omega))
    rw [lead_not a0 a1 false 32 (by omega)] at h
    go_enter Try.func21, Try.ntmps21
    go_wp2_with (first | (go_at_call 31; refine (Try.bits_LeadingZeros32 (4294967295 - a) _ (by omega) (by omega)).mono ?_; rintro e w' ⟨rfl, rfl⟩))
    go_ret
    exact ⟨congrArg (fun x => Ending.returned (.int .i64 x)) h.out, Drawn0.refl _⟩
end Go.Proofs.Ytlmadoihfnhnbaa.Con
