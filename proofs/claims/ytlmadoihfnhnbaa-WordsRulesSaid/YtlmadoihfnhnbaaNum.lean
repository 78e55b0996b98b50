/- The plain law of package words, first half: what the functions that add, subtract, multiply, divide and compare answer, in one form for the program and for the document's answer. No memory here. Conditions: words are from 0 to 2^32 - 1. -/
import Derived.Test.YtlmadoihfnhnbaaFun
namespace Go.Proofs.Ytlmadoihfnhnbaa.Num
open Go.RowKit Go.Proofs.Ytlmadoihfnhnbaa.Fun Go.Proofs.YtlmadoihfnhnbaaW.PrintWords Go.Proofs.YtlmadoihfnhnbaaW.PrintLast Go.Proofs.YtlmadoihfnhnbaaW.PrintMore

set_option linter.unusedVariables false
set_option linter.unusedSimpArgs false
/-- What a word means with a sign. -/
def sg (a : Int) : Int := if a ≥ 2147483648 then a - 4294967296 else a
/-- Does a number leave those with a sign? -/
def outB (n : Int) : Bool := decide (n < -2147483648) || decide (n > 2147483647)
/-- A number by a sign or not. -/
def val (s : Bool) (a : Int) : Int := if s = true then sg a else a

theorem sg_range {a : Int} (h0 : 0 ≤ a) (h1 : a ≤ 4294967295) : -2147483648 ≤ sg a ∧ sg a ≤ 2147483647 ∧ (sg a) % 4294967296 = a := by unfold sg; split <;> omega
theorem wrap32_is {a : Int} (h0 : 0 ≤ a) (h1 : a ≤ 4294967295) : wrap32 a = sg a := by unfold wrap32 sg; split <;> omega
theorem wrap64_in {n : Int} (h0 : -9223372036854775808 ≤ n) (h1 : n ≤ 9223372036854775807) : wrap64 n = n := by unfold wrap64; omega
theorem mean_is {a : Int} (h0 : 0 ≤ a) (h1 : a ≤ 4294967295) : zoetroperef01_Mean.f a = some (sg a) := by
  unfold zoetroperef01_Mean.f sg
  rw [wrap64_in (by omega) (by omega)]
  by_cases h : a ≥ 2147483648
  · rw [if_pos h, if_pos h, wrap64_in (by omega) (by omega)]
  · rw [if_neg h, if_neg h]
theorem word_is {n : Int} (h0 : -9223372036854775808 ≤ n) (h1 : n ≤ 9223372036854775807) : zoetroperef01_Word.f n = some (n % 4294967296) := by
  unfold zoetroperef01_Word.f
  have h := Int.tmod_eq_emod (a := n) (b := 4294967296)
  by_cases hn : 0 ≤ n ∨ (4294967296 : Int) ∣ n
  · rw [if_pos hn] at h
    rw [if_neg (by omega)]
    congr 1; omega
  · rw [if_neg hn] at h
    have : ((4294967296 : Int).natAbs : Int) = 4294967296 := rfl
    rw [if_pos (by omega), wrap64_in (by omega) (by omega)]
    congr 1; omega
theorem out_is (n : Int) : zoetroperef01_out.f n = some (outB n) := by
  unfold zoetroperef01_out.f outB
  by_cases h : n < -2147483648
  · rw [if_pos h]; simp [h]
  · rw [if_neg h]; simp [h]

/-! ### The highest bit -/
theorem bits_nat {op : BinOp} {a b : Nat} (ha : a < 4294967296) (hb : b < 4294967296) :
    Go.bits .xor .u32 (a : Int) (b : Int) = ((a ^^^ b : Nat) : Int) ∧ Go.bits .and .u32 (a : Int) (b : Int) = ((a &&& b : Nat) : Int) ∧ op = op := by
  have h1 : a ^^^ b < 4294967296 := Nat.xor_lt_two_pow (n := 32) ha hb
  have h2 : a &&& b < 4294967296 := Nat.and_lt_two_pow (n := 32) a hb
  refine ⟨?_, ?_, rfl⟩
  · simp only [Go.bits, BitVec.ofInt_natCast]
    rw [BitVec.toNat_xor, BitVec.toNat_ofNat, BitVec.toNat_ofNat]
    show IntKind.u32.wrap (((a % 4294967296) ^^^ (b % 4294967296) : Nat) : Int) = _
    rw [Nat.mod_eq_of_lt ha, Nat.mod_eq_of_lt hb, IntKind.wrap_u32]
    omega
  · simp only [Go.bits, BitVec.ofInt_natCast]
    rw [BitVec.toNat_and, BitVec.toNat_ofNat, BitVec.toNat_ofNat]
    show IntKind.u32.wrap (((a % 4294967296) &&& (b % 4294967296) : Nat) : Int) = _
    rw [Nat.mod_eq_of_lt ha, Nat.mod_eq_of_lt hb, IntKind.wrap_u32]
    omega
theorem xor_bit : ∀ x : Nat, x < 2 → ∀ y : Nat, y < 2 → (x ^^^ y) = if x = y then 0 else 1 := by decide +kernel
theorem and_bit : ∀ x : Nat, x < 2 → ∀ y : Nat, y < 2 → (x &&& y) = if x = 1 ∧ y = 1 then 1 else 0 := by decide +kernel
/-- 'and' of two exclusive ors: is its highest bit 1? -/
theorem top_is (a b c d : Nat) (ha : a < 4294967296) (hb : b < 4294967296) (hc : c < 4294967296) (hd : d < 4294967296) :
    (((Go.bits .and .u32 (Go.bits .xor .u32 (a : Int) (b : Int)) (Go.bits .xor .u32 (c : Int) (d : Int))) / 2147483648) == 1) = (decide (a / 2147483648 ≠ b / 2147483648) && decide (c / 2147483648 ≠ d / 2147483648)) := by
  have h1 : a ^^^ b < 4294967296 := Nat.xor_lt_two_pow (n := 32) ha hb
  have h2 : c ^^^ d < 4294967296 := Nat.xor_lt_two_pow (n := 32) hc hd
  rw [(bits_nat (op := .xor) ha hb).1, (bits_nat (op := .xor) hc hd).1, (bits_nat (op := .xor) h1 h2).2.1]
  have e : ((((a ^^^ b) &&& (c ^^^ d) : Nat) : Int) / 2147483648) = (((a / 2147483648 ^^^ b / 2147483648) &&& (c / 2147483648 ^^^ d / 2147483648) : Nat) : Int) := by
    have e1 : ((a ^^^ b) &&& (c ^^^ d)) / 2 ^ 31 = (a / 2 ^ 31 ^^^ b / 2 ^ 31) &&& (c / 2 ^ 31 ^^^ d / 2 ^ 31) := by
      rw [Nat.and_div_two_pow, Nat.xor_div_two_pow, Nat.xor_div_two_pow]
    have e2 : ((((a ^^^ b) &&& (c ^^^ d) : Nat) : Int) / 2147483648) = (((((a ^^^ b) &&& (c ^^^ d)) / 2147483648 : Nat)) : Int) := by omega
    rw [e2]
    exact congrArg Nat.cast e1
  rw [e, xor_bit _ (by omega) _ (by omega), xor_bit _ (by omega) _ (by omega)]
  by_cases h3 : a / 2147483648 = b / 2147483648 <;> by_cases h4 : c / 2147483648 = d / 2147483648 <;> simp [h3, h4]

theorem out_add {a b : Int} (a0 : 0 ≤ a) (a1 : a ≤ 4294967295) (b0 : 0 ≤ b) (b1 : b ≤ 4294967295) :
    (((Go.bits .and .u32 (Go.bits .xor .u32 a ((a + b) % 4294967296)) (Go.bits .xor .u32 b ((a + b) % 4294967296))) / 2147483648) == 1) = outB (sg a + sg b) := by
  obtain ⟨x, rfl⟩ : ∃ x : Nat, a = (x : Int) := ⟨a.toNat, by omega⟩
  obtain ⟨y, rfl⟩ : ∃ y : Nat, b = (y : Int) := ⟨b.toNat, by omega⟩
  have e : ((x : Int) + (y : Int)) % 4294967296 = (((x + y) % 4294967296 : Nat) : Int) := by omega
  rw [e, top_is x ((x + y) % 4294967296) y ((x + y) % 4294967296) (by omega) (by omega) (by omega) (by omega), Bool.eq_iff_iff]
  unfold outB sg
  simp only [Bool.and_eq_true, Bool.or_eq_true, decide_eq_true_eq]
  split <;> split <;> omega
theorem out_sub {a b : Int} (a0 : 0 ≤ a) (a1 : a ≤ 4294967295) (b0 : 0 ≤ b) (b1 : b ≤ 4294967295) :
    (((Go.bits .and .u32 (Go.bits .xor .u32 a b) (Go.bits .xor .u32 a ((a - b) % 4294967296))) / 2147483648) == 1) = outB (sg a - sg b) := by
  obtain ⟨x, rfl⟩ : ∃ x : Nat, a = (x : Int) := ⟨a.toNat, by omega⟩
  obtain ⟨y, rfl⟩ : ∃ y : Nat, b = (y : Int) := ⟨b.toNat, by omega⟩
  obtain ⟨z, hz⟩ : ∃ z : Nat, ((x : Int) - (y : Int)) % 4294967296 = (z : Int) := ⟨(((x : Int) - (y : Int)) % 4294967296).toNat, by omega⟩
  rw [hz, top_is x y x z (by omega) (by omega) (by omega) (by omega), Bool.eq_iff_iff]
  unfold outB sg
  simp only [Bool.and_eq_true, Bool.or_eq_true, decide_eq_true_eq]
  split <;> split <;> omega

section
variable {a b : Int} (a0 : 0 ≤ a) (a1 : a ≤ 4294967295) (b0 : 0 ≤ b) (b1 : b ≤ 4294967295)
include a0 a1 b0 b1
theorem add_is : words_Add.f a b = some ((a + b) % 4294967296, outB (sg a + sg b)) := by
  unfold words_Add.f; rw [out_add a0 a1 b0 b1]
theorem radd_is : zoetroperef01_Add.f a b = some ((a + b) % 4294967296, outB (sg a + sg b)) := by
  have ra := sg_range a0 a1
  have rb := sg_range b0 b1
  unfold zoetroperef01_Add.f
  rw [wrap64_in (n := a) (by omega) (by omega), wrap64_in (n := b) (by omega) (by omega), wrap64_in (n := a + b) (by omega) (by omega), word_is (by omega) (by omega), mean_is a0 a1, mean_is b0 b1]
  simp only [Option.bind_some]
  rw [wrap64_in (by omega) (by omega), out_is]
  rfl
theorem sub_is : words_Sub.f a b = some ((a - b) % 4294967296, outB (sg a - sg b)) := by
  unfold words_Sub.f; rw [out_sub a0 a1 b0 b1]
theorem rsub_is : zoetroperef01_Sub.f a b = some ((a - b) % 4294967296, outB (sg a - sg b)) := by
  have ra := sg_range a0 a1
  have rb := sg_range b0 b1
  unfold zoetroperef01_Sub.f
  rw [wrap64_in (n := a) (by omega) (by omega), wrap64_in (n := b) (by omega) (by omega), wrap64_in (n := a - b) (by omega) (by omega), word_is (by omega) (by omega), mean_is a0 a1, mean_is b0 b1]
  simp only [Option.bind_some]
  rw [wrap64_in (by omega) (by omega), out_is]
  rfl
theorem less_is (s : Bool) : words_Less.f a b s = some (decide (val s a < val s b)) := by
  unfold words_Less.f val
  rw [wrap32_is a0 a1, wrap32_is b0 b1]
  cases s <;> simp
theorem rless_is (s : Bool) : zoetroperef01_Less.f a b s = some (decide (val s a < val s b)) := by
  unfold zoetroperef01_Less.f val
  rw [mean_is a0 a1, mean_is b0 b1, wrap64_in (n := a) (by omega) (by omega), wrap64_in (n := b) (by omega) (by omega)]
  cases s <;> simp
/-- The product's two words. -/
theorem mul_is (s : Bool) : words_Mul.f a b s = some ((val s a * val s b) / 4294967296 % 4294967296, (val s a * val s b) % 4294967296) := by
  have ra := sg_range a0 a1
  have rb := sg_range b0 b1
  unfold words_Mul.f val
  cases s with
  | true =>
    have h : -4611686018427387904 ≤ sg a * sg b ∧ sg a * sg b ≤ 4611686018427387904 := by
      have e1 : sg a * sg b ≤ (sg a).natAbs * (sg b).natAbs := by
        rw [← Int.natCast_mul, ← Int.natAbs_mul]; omega
      have e2 : -((sg a).natAbs * (sg b).natAbs : Int) ≤ sg a * sg b := by
        rw [← Int.natCast_mul, ← Int.natAbs_mul]; omega
      have e3 : (sg a).natAbs * (sg b).natAbs ≤ 2147483648 * 2147483648 := Nat.mul_le_mul (by omega) (by omega)
      have e4 : (((sg a).natAbs * (sg b).natAbs : Nat) : Int) ≤ 4611686018427387904 := by omega
      rw [Int.natCast_mul] at e4
      omega
    rw [if_pos rfl, if_pos rfl, if_pos rfl, wrap32_is a0 a1, wrap32_is b0 b1, wrap64_in (n := sg a) (by omega) (by omega), wrap64_in (n := sg b) (by omega) (by omega)]
    generalize sg a * sg b = p at h ⊢
    rw [wrap64_in (by omega) (by omega), IntKind.wrap_u64]
    congr 2 <;> omega
  | false =>
    have h : 0 ≤ a * b ∧ a * b ≤ 18446744065119617025 := by
      have e1 := Int.mul_nonneg a0 b0
      have e2 : a * b ≤ 4294967295 * 4294967295 := Int.mul_le_mul a1 b1 b0 (by omega)
      omega
    rw [if_neg (by simp), if_neg (by simp), if_neg (by simp)]
    have ea : IntKind.u64.wrap a = a := by rw [IntKind.wrap_u64]; omega
    have eb : IntKind.u64.wrap b = b := by rw [IntKind.wrap_u64]; omega
    rw [ea, eb]
    generalize a * b = p at h ⊢
    rw [IntKind.wrap_u64]
    congr 2 <;> omega
end
end Go.Proofs.Ytlmadoihfnhnbaa.Num
