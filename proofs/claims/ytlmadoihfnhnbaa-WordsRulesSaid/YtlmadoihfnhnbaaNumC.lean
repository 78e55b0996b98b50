/- The plain law of package words, third part: shifts and leading bits, each in one form for the program and for the document's answer. No memory here. Conditions: words are from 0 to 2^32 - 1. -/
import Derived.Test.YtlmadoihfnhnbaaNumB
namespace Go.Proofs.Ytlmadoihfnhnbaa.Num
open Go.RowKit Go.Proofs.Ytlmadoihfnhnbaa.Fun Go.Proofs.YtlmadoihfnhnbaaW.PrintWords Go.Proofs.YtlmadoihfnhnbaaW.PrintLast Go.Proofs.YtlmadoihfnhnbaaW.PrintMore
set_option linter.unusedVariables false
set_option linter.unusedSimpArgs false

/-! ### Shifts -/
theorem and31 (n : Int) : Go.bits .and .i64 n 31 = n % 32 := by
  simp only [Go.bits]
  have h1 : (BitVec.ofInt 64 n &&& BitVec.ofInt 64 31).toNat = (BitVec.ofInt 64 n).toNat % 32 := by
    rw [BitVec.toNat_and]
    exact Nat.and_two_pow_sub_one_eq_mod _ 5
  show IntKind.i64.wrap ((BitVec.ofInt 64 n &&& BitVec.ofInt 64 31).toNat : Int) = _
  rw [h1, IntKind.wrap_i64, BitVec.toNat_ofInt]
  omega
def shiftV (kind a n : Int) : Int :=
  if kind = 0 then a * 2 ^ (n % 32).toNat % 4294967296 else if kind = 1 then a / 2 ^ (n % 32).toNat else if kind = 2 then sg a / 2 ^ (n % 32).toNat % 4294967296 else a
theorem shift_is {a : Int} (a0 : 0 ≤ a) (a1 : a ≤ 4294967295) (kind n : Int) : words_Shift.f 1 kind a n = some (shiftV kind a n) := by
  unfold words_Shift.f shiftV
  rw [and31]
  by_cases h0 : kind = 0
  · rw [if_pos h0, if_pos h0, if_pos (by omega), shl_is (by omega) (by omega)]
  · rw [if_neg h0, if_neg h0]
    by_cases h1 : kind < 0
    · rw [if_pos h1, if_neg (by omega), if_neg (by omega)]
      simp only [words_Shift.j0]
      rw [if_pos trivial]
    · rw [if_neg h1]
      simp only [words_Shift.j0]
      by_cases h3 : kind ≥ 3
      · rw [if_pos (by simpa using h3), if_neg (show ¬ kind = 1 by omega), if_neg (show ¬ kind = 2 by omega)]
      · rw [if_neg (by simpa using h3)]
        unfold words_fill.f
        by_cases h2 : kind = 2
        · subst h2
          rw [if_pos rfl, if_neg (show ¬ (2 : Int) = 1 by omega), if_pos rfl]
          simp only [Option.bind_some]
          rw [if_pos trivial, if_pos (by omega), wrap32_is a0 a1, shr_is (by omega) (by omega) rfl]
        · have h4 : kind = 1 := by omega
          subst h4
          rw [if_neg h2, if_pos rfl]
          simp only [Option.bind_some]
          rw [if_neg (by omega), if_pos (by omega), shr_is (by omega) (by omega) rfl]
theorem mod_is {n : Int} (h : -9223372036854775808 ≤ n ∧ n ≤ 9223372036854775807) : zoetroperef01_mod.f n = some (n % 32) := by
  unfold zoetroperef01_mod.f
  have h1 := Int.tmod_eq_emod (a := n) (b := 32)
  have h2 : ((32 : Int).natAbs : Int) = 32 := rfl
  by_cases hn : 0 ≤ n ∨ (32 : Int) ∣ n
  · rw [if_pos hn] at h1
    rw [if_neg (by omega)]
    congr 1; omega
  · rw [if_neg hn] at h1
    rw [if_pos (by omega), wrap64_in (by omega) (by omega)]
    congr 1; omega
theorem down_is {n p : Int} (hn : -4294967296 ≤ n ∧ n ≤ 4294967296) (hp : 0 < p) (hp2 : p ≤ 4294967296) : zoetroperef01_down.f n p = some (n / p) := by
  unfold zoetroperef01_down.f
  have hb := tdiv_bound (y := p) hn
  have hab : ((p.natAbs : Nat) : Int) = p := by omega
  rw [if_neg (by omega), wrap64_in (n := Int.tdiv n p) (by omega) (by omega)]
  have h1 := Int.tmod_eq_emod (a := n) (b := p)
  have h2 := Int.tdiv_eq_ediv (a := n) (b := p)
  have hs : p.sign = 1 := Int.sign_eq_one_of_pos hp
  by_cases hc : 0 ≤ n ∨ p ∣ n
  · rw [if_pos hc] at h1 h2
    have h3 := Int.emod_nonneg n (show p ≠ 0 by omega)
    rw [if_neg (by omega), h2]
    congr 1; omega
  · rw [if_neg hc] at h1 h2
    have h3 := Int.emod_lt_of_pos n hp
    rw [hs] at h2
    rw [if_pos (by omega), wrap64_in (by omega) (by omega)]
    congr 1; omega
/-- The document's shift to the left. -/
theorem left_is {a : Int} (a0 : 0 ≤ a) (a1 : a ≤ 4294967295) {m : Nat} (hm : m ≤ 31) : (2 : Int) ^ m ≠ 0 ∧ (4294967296 : Int) / 2 ^ m = 2 ^ (32 - m) ∧ (a % 2 ^ (32 - m)) * 2 ^ m = a * 2 ^ m % 4294967296 ∧ 0 ≤ (a % 2 ^ (32 - m)) * 2 ^ m ∧ (a % 2 ^ (32 - m)) * 2 ^ m ≤ 4294967295 ∧ (2 : Int) ^ m ≤ 2147483648 ∧ (2 : Int) ^ (32 - m) ≤ 4294967296 ∧ 0 < (2 : Int) ^ (32 - m) := by
  have p0 := pow_pos m
  have q0 := pow_pos (32 - m)
  have hpq := pow_mul (m := m) (by omega)
  have hd : (4294967296 : Int) / 2 ^ m = 2 ^ (32 - m) := by rw [← hpq, Int.mul_comm]; exact Int.mul_ediv_cancel _ (by omega)
  have he : (a % 2 ^ (32 - m)) * 2 ^ m = a * 2 ^ m % 4294967296 := by
    rw [← hpq, Int.mul_comm ((2 : Int) ^ m) (2 ^ (32 - m)), mul_mod _ _ _ p0]
  have hle : ∀ i : Nat, i ≤ 32 → (2 : Int) ^ i ≤ 4294967296 := fun i hi => by
    have := Nat.pow_le_pow_right (show 0 < 2 by omega) hi
    have e : ((2 ^ i : Nat) : Int) = 2 ^ i := by push_cast; rfl
    rw [← e]; omega
  have h31 : (2 : Int) ^ m ≤ 2147483648 := by
    have := Nat.pow_le_pow_right (show 0 < 2 by omega) hm
    have e : ((2 ^ m : Nat) : Int) = 2 ^ m := by push_cast; rfl
    rw [← e]; omega
  refine ⟨by omega, hd, he, ?_, ?_, h31, hle _ (by omega), q0⟩
  · rw [he]; omega
  · rw [he]; omega

/-! ### Leading bits -/
def leadV : Nat → Int → Bool → Int
  | 0, _, _ => 0
  | j + 1, a, one => if ((a / 2 ^ j % 2 == 1) != one) = true then 0 else 1 + leadV j a one
theorem leadV_range (j : Nat) (a : Int) (one : Bool) : 0 ≤ leadV j a one ∧ leadV j a one ≤ j := by
  induction j with
  | zero => unfold leadV; omega
  | succ j ih => unfold leadV; split <;> omega
theorem lead_l0 {a : Int} (a0 : 0 ≤ a) (a1 : a ≤ 4294967295) (one : Bool) (j : Nat) : ∀ x5 : Int, j ≤ 31 → 0 ≤ x5 → x5 ≤ 31 - j →
    zoetroperef01_Lead.l0 (j + 2) a one x5 (2 ^ j) = some (x5 + leadV (j + 1) a one) := by
  induction j with
  | zero =>
    intro x5 hj h0 h1
    simp only [zoetroperef01_Lead.l0, leadV]
    rw [if_pos (by decide), if_neg (by decide), wrap64_in (n := a) (by omega) (by omega), Int.tdiv_eq_ediv_of_nonneg a0, wrap64_in (by simp; omega) (by simp; omega), Int.tmod_eq_emod_of_nonneg (by simp; omega)]
    by_cases h : ((a / 2 ^ 0 % 2 == 1) != one) = true
    · rw [if_pos h, if_pos h]; congr 1; omega
    · have hz : wrap64 (Int.tdiv ((2 : Int) ^ 0) 2) = 0 := by rw [show Int.tdiv ((2 : Int) ^ 0) 2 = 0 from rfl]; unfold wrap64; omega
      rw [if_neg h, if_neg h, hz, if_neg (by omega), wrap64_in (by omega) (by omega)]; congr 1
  | succ j ih =>
    intro x5 hj h0 h1
    have hp := pow_pos (j + 1)
    have hP : (2 : Int) ^ (j + 1) = 2 ^ j * 2 := by rw [Int.pow_succ]
    have hle : (2 : Int) ^ j ≤ 4294967296 := by
      have := Nat.pow_le_pow_right (show 0 < 2 by omega) (show j ≤ 32 by omega)
      have e : ((2 ^ j : Nat) : Int) = 2 ^ j := by push_cast; rfl
      rw [← e]; omega
    have hq : 0 ≤ a / 2 ^ (j + 1) := Int.ediv_nonneg a0 (by omega)
    have hq2 : a / 2 ^ (j + 1) ≤ a := Int.ediv_le_self _ a0
    have hh : wrap64 (Int.tdiv ((2 : Int) ^ (j + 1)) 2) = 2 ^ j := by
      rw [Int.tdiv_eq_ediv_of_nonneg (by omega), hP, Int.mul_ediv_cancel _ (by omega), wrap64_in (by have := pow_pos j; omega) (by omega)]
    have h := ih (x5 + 1)
    show zoetroperef01_Lead.l0 (j + 2 + 1) a one x5 (2 ^ (j + 1)) = _
    rw [zoetroperef01_Lead.l0]
    rw [if_pos (by omega), if_neg (by omega), wrap64_in (n := a) (by omega) (by omega), Int.tdiv_eq_ediv_of_nonneg a0, wrap64_in (n := a / 2 ^ (j + 1)) (by omega) (by omega), Int.tmod_eq_emod_of_nonneg hq, hh]
    rw [leadV]
    by_cases hb : ((a / 2 ^ (j + 1) % 2 == 1) != one) = true
    · rw [if_pos hb, if_pos hb]; congr 1; omega
    · rw [if_neg hb, if_neg hb, wrap64_in (by omega) (by omega), h (by omega) (by omega) (by omega)]; congr 1; omega
theorem rlead_is {a : Int} (a0 : 0 ≤ a) (a1 : a ≤ 4294967295) (one : Bool) : zoetroperef01_Lead.f 33 a one = some (leadV 32 a one) := by
  have h := lead_l0 a0 a1 one 31 0 (by omega) (by omega) (by omega)
  unfold zoetroperef01_Lead.f
  rw [show (2147483648 : Int) = 2 ^ 31 from rfl, h, Int.zero_add]
/-- Of a word turned about the other bits lead. -/
theorem lead_not {a : Int} (a0 : 0 ≤ a) (a1 : a ≤ 4294967295) (one : Bool) (j : Nat) (hj : j ≤ 32) : leadV j (4294967295 - a) one = leadV j a (!one) := by
  induction j with
  | zero => rfl
  | succ j ih =>
    have ih := ih (by omega)
    unfold leadV
    rw [ih]
    have hpq := pow_mul (m := j) (by omega)
    have p0 := pow_pos j
    obtain ⟨q, hq⟩ : ∃ q : Int, (2 : Int) ^ (32 - j) = 2 * q := ⟨2 ^ (31 - j), by rw [show 32 - j = 31 - j + 1 by omega, Int.pow_succ, Int.mul_comm]⟩
    have e : (4294967295 - a) / 2 ^ j = 2 * q - 1 - a / 2 ^ j := by
      have h1 := Int.emod_add_mul_ediv a (2 ^ j)
      have h2 := Int.emod_nonneg a (show (2 : Int) ^ j ≠ 0 by omega)
      have h3 := Int.emod_lt_of_pos a p0
      rw [hq] at hpq
      have h4 : (4294967295 - a) = (2 ^ j - 1 - a % 2 ^ j) + (2 * q - 1 - a / 2 ^ j) * 2 ^ j := by
        rw [Int.sub_mul, Int.sub_mul, Int.one_mul, Int.mul_comm (2 * q), hpq, Int.mul_comm (a / 2 ^ j)]
        omega
      rw [h4, Int.add_mul_ediv_right _ _ (by omega), Int.ediv_eq_zero_of_lt (by omega) (by omega), Int.zero_add]
    rw [e]
    have h5 : ((2 * q - 1 - a / 2 ^ j) % 2 == 1) = !(a / 2 ^ j % 2 == 1) := by
      rw [Bool.eq_iff_iff]
      simp only [beq_iff_eq, Bool.not_eq_true', beq_eq_false_iff_ne]
      omega
    rw [h5]
    cases (a / 2 ^ j % 2 == 1) <;> cases one <;> rfl
/-- Leading zeros by the length in bits. -/
theorem lead_len (j : Nat) (hj : j ≤ 32) : ∀ x : Nat, x < 2 ^ j → leadV j (x : Int) false = (j : Int) - (Lib.bitLen x : Int) := by
  induction j with
  | zero =>
    intro x hx
    obtain rfl : x = 0 := by simpa using hx
    rfl
  | succ j ih =>
    intro x hx
    have e : ((x : Int) / 2 ^ j) = ((x / 2 ^ j : Nat) : Int) := by push_cast; rfl
    have h64 : (2 : Nat) ^ (j + 1) ≤ 2 ^ 64 := Nat.pow_le_pow_right (by omega) (by omega)
    unfold leadV
    rw [e]
    by_cases h : 2 ^ j ≤ x
    · have h1 : x / 2 ^ j = 1 := by
        have h2 : x / 2 ^ j < 2 := by rw [Nat.div_lt_iff_lt_mul (Nat.two_pow_pos j)]; rw [Nat.pow_succ] at hx; omega
        have h3 : 1 ≤ x / 2 ^ j := by rw [Nat.le_div_iff_mul_le (Nat.two_pow_pos j)]; omega
        omega
      rw [h1, if_pos (by rfl), Lib.bitLen_shift j x h (by omega), h1, show Lib.bitLen 1 = 1 by decide]
      omega
    · have h1 : x / 2 ^ j = 0 := Nat.div_eq_of_lt (by omega)
      rw [h1, if_neg (by simp), ih (by omega) x (by omega)]
      omega
theorem lead_is {a : Int} (a0 : 0 ≤ a) (a1 : a ≤ 4294967295) : (32 : Int) - (Lib.bitLen a.toNat : Int) = leadV 32 a false := by
  have h := lead_len 32 (by omega) a.toNat (by omega)
  rw [Int.toNat_of_nonneg a0] at h
  rw [h]; rfl
end Go.Proofs.Ytlmadoihfnhnbaa.Num
