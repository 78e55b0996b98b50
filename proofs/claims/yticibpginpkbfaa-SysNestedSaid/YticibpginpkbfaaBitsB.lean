/- The plain law of bits, second half: the runs of bits that the registers take, by masks. No memory here. Conditions: words are from 0 to 2^32 - 1. -/
import Derived.Test.YticibpginpkbfaaBits
namespace Go.Proofs.Yticibpginpkbfaa.Bits
open Go.RowKit Go.Proofs.Yticibpginpkbfaa.Fun Go.Proofs.YticibpginpkbfaaW.PrintWords Go.Proofs.YticibpginpkbfaaW.PrintLast Go.Proofs.YticibpginpkbfaaW.PrintMore
set_option linter.unusedVariables false
set_option linter.unusedSimpArgs false

theorem m3 : ∀ i, i < 32 → Nat.testBit 7 i = decide (0 ≤ i ∧ i < 0 + 3) := by decide +kernel
theorem mPage : ∀ i, i < 32 → Nat.testBit 4294967040 i = decide (8 ≤ i ∧ i < 8 + 24) := by decide +kernel
theorem mSoft : ∀ i, i < 32 → Nat.testBit 768 i = decide (8 ≤ i ∧ i < 8 + 2) := by decide +kernel
theorem mCode : ∀ i, i < 32 → Nat.testBit 124 i = decide (2 ≤ i ∧ i < 2 + 5) := by decide +kernel
theorem mLine : ∀ i, i < 32 → Nat.testBit 31744 i = decide (10 ≤ i ∧ i < 10 + 5) := by decide +kernel
theorem mEntry : ∀ i, i < 32 → Nat.testBit 4294967047 i = decide (i < 3 ∨ 8 ≤ i) := by decide +kernel
theorem mStatus : ∀ i, i < 32 → Nat.testBit 65299 i = decide (i < 2 ∨ i = 4 ∨ 8 ≤ i ∧ i < 16) := by decide +kernel
theorem mAll : ∀ i, i < 32 → Nat.testBit 4294967295 i = true := by decide +kernel
theorem one_bit : ∀ n, n < 32 → ∀ i, i < 32 → Nat.testBit (2 ^ n) i = decide (i = n) := by decide +kernel

theorem mask_all {w v : Nat} (hw : w < 4294967296) (hv : v < 4294967296) : maskN w v 4294967295 = v := by
  apply Nat.eq_of_testBit_eq
  intro i
  rw [test_mask hw (by omega)]
  by_cases hi : i < 32
  · rw [mAll i hi, if_pos rfl]
  · rw [test_high (show 4294967295 < 4294967296 by omega) hi, if_neg (by simp), test_high hw hi, test_high hv hi]
theorem mask_none {w v : Nat} (hw : w < 4294967296) : maskN w v 0 = w := by
  apply Nat.eq_of_testBit_eq
  intro i
  rw [test_mask hw (by omega), Nat.zero_testBit, if_neg (by simp)]
theorem mask_entry {w v : Nat} (hw : w < 4294967296) (hv : v < 4294967296) : mixN (mixN w v 0 3) v 8 24 = maskN w v 4294967047 := by
  apply Nat.eq_of_testBit_eq
  intro i
  rw [test_mask hw (by omega), test_mix, test_mix]
  by_cases hi : i < 32
  · rw [mEntry i hi]
    by_cases h1 : i < 3
    · simp [h1, show ¬ 8 ≤ i by omega]
    · by_cases h2 : 8 ≤ i
      · simp [h2, show i < 8 + 24 by omega]
      · simp [h1, h2]
  · rw [test_high (show 4294967047 < 4294967296 by omega) hi, if_neg (by omega), if_neg (by omega), if_neg (by simp)]
theorem mask_status {w v : Nat} (hw : w < 4294967296) (hv : v < 4294967296) : mixN (mixN (mixN w v 0 2) v 4 1) v 8 8 = maskN w v 65299 := by
  apply Nat.eq_of_testBit_eq
  intro i
  rw [test_mask hw (by omega), test_mix, test_mix, test_mix]
  by_cases hi : i < 32
  · rw [mStatus i hi]
    by_cases h2 : 8 ≤ i ∧ i < 8 + 8
    · rw [if_pos h2, if_pos (by simp; omega)]
    · rw [if_neg h2]
      by_cases h3 : 4 ≤ i ∧ i < 4 + 1
      · rw [if_pos h3, if_pos (by simp; omega)]
      · rw [if_neg h3]
        by_cases h4 : 0 ≤ i ∧ i < 0 + 2
        · rw [if_pos h4, if_pos (by simp; omega)]
        · rw [if_neg h4, if_neg (by simp; omega)]
  · rw [test_high (show 65299 < 4294967296 by omega) hi, if_neg (by omega), if_neg (by omega), if_neg (by omega), if_neg (by simp)]
theorem with_false {w n : Nat} (hw : w < 4294967296) (hn : n < 32) : withN w n false = notN w (2 ^ n) := by
  apply Nat.eq_of_testBit_eq
  intro i
  have hp : 2 ^ n < 4294967296 := Nat.pow_lt_pow_right (by omega) hn
  rw [test_with, test_not hp]
  by_cases hi : i < 32
  · rw [one_bit n hn i hi]
    by_cases h : i = n
    · simp [h]
    · simp [h, hi]
  · rw [test_high hw hi, if_neg (by omega)]; simp
theorem with_true {w n : Nat} (hw : w < 4294967296) (hn : n < 32) : withN w n true = w ||| 2 ^ n := by
  apply Nat.eq_of_testBit_eq
  intro i
  have hp : 2 ^ n < 4294967296 := Nat.pow_lt_pow_right (by omega) hn
  rw [test_with, Nat.testBit_or]
  by_cases hi : i < 32
  · rw [one_bit n hn i hi]
    by_cases h : i = n
    · simp [h]
    · simp [h]
  · rw [test_high hw hi, test_high hp hi, if_neg (by omega)]; rfl
/-- A word by a mask, in the program's words. -/
theorem mask_bits {w v m : Nat} (hw : w < 4294967296) (hv : v < 4294967296) (hm : m < 4294967296) :
    Go.bits .or .u32 (Go.bits .andNot .u32 (w : Int) (m : Int)) (Go.bits .and .u32 (v : Int) (m : Int)) = ((maskN w v m : Nat) : Int) := by
  rw [bits_andNot hw hm, bits_and hv hm, bits_or (notN_lt hw) (and_lt hm)]
  rfl
end Go.Proofs.Yticibpginpkbfaa.Bits
