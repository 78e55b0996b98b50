/- The plain law of package words, fourth part: what follows of the answers: signs, shifts one behind the other, leading bits, and the rules of the stage. No memory here. Conditions: words are from 0 to 2^32 - 1. -/
import Derived.Test.YtlmadoihfnhnbaaNumC
namespace Go.Proofs.Ytlmadoihfnhnbaa.Num
open Go.RowKit Go.Proofs.Ytlmadoihfnhnbaa.Fun Go.Proofs.YtlmadoihfnhnbaaW.PrintWords Go.Proofs.YtlmadoihfnhnbaaW.PrintLast Go.Proofs.YtlmadoihfnhnbaaW.PrintMore
set_option linter.unusedVariables false
set_option linter.unusedSimpArgs false

/-! ### WordsSigns -/
theorem sign_law {a b : Int} (a0 : 0 ≤ a) (a1 : a ≤ 4294967295) (b0 : 0 ≤ b) (b1 : b ≤ 4294967295) : decide (val true a < val true b) = (decide (val true ((a - b) % 4294967296) < val true 0) != outB (sg a - sg b)) := by
  have : ∀ p q r : Prop, ∀ [Decidable p] [Decidable q] [Decidable r], (p ↔ ¬ (q ↔ r)) → decide p = (decide q != decide r) := by
    intro p q r _ _ _ h
    by_cases hq : q <;> by_cases hr : r <;> simp [hq, hr] at h ⊢ <;> exact h
  have e : outB (sg a - sg b) = decide (sg a - sg b < -2147483648 ∨ sg a - sg b > 2147483647) := by
    unfold outB; rw [Bool.eq_iff_iff]; simp
  rw [e]
  apply this
  show (sg a < sg b) ↔ ¬ (sg ((a - b) % 4294967296) < sg 0 ↔ _)
  unfold sg
  split <;> split <;> split <;> simp only [show ¬ (0 : Int) ≥ 2147483648 by omega, if_false] <;> omega
theorem ext_range {a : Int} (a0 : 0 ≤ a) (a1 : a ≤ 4294967295) (n : Int) (s : Bool) : 0 ≤ extV a n s ∧ extV a n s ≤ 4294967295 := by
  unfold extV
  split
  · omega
  · split <;> omega
theorem pow_dvd {n : Int} (h : ¬ (n < 1 ∨ n ≥ 32)) : (2 : Int) ^ n.toNat ∣ 4294967296 := ⟨2 ^ (32 - n.toNat), by rw [pow_mul (by omega)]⟩
theorem ext_ext (a n : Int) (s : Bool) : extV (extV a n true) n s = extV a n s := by
  by_cases h : n < 1 ∨ n ≥ 32
  · have : ∀ x t, extV x n t = x := fun x t => by unfold extV; rw [if_pos h]
    rw [this, this, this]
  · have e : extV a n true % 2 ^ n.toNat = a % 2 ^ n.toNat := by
      have hd := pow_dvd h
      unfold extV
      rw [if_neg h, Int.emod_emod_of_dvd _ hd]
      split
      · rw [Int.sub_emod, Int.emod_self, Int.sub_zero, Int.emod_emod, Int.emod_emod]
      · rw [Int.emod_emod]
    unfold extV at e ⊢
    rw [if_neg h] at e
    rw [if_neg h, if_neg h, if_neg h, e]

/-! ### WordsShiftOn -/
theorem shift_range {a : Int} (a0 : 0 ≤ a) (a1 : a ≤ 4294967295) (kind n : Int) : 0 ≤ shiftV kind a n ∧ shiftV kind a n ≤ 4294967295 := by
  have p0 := pow_pos (n % 32).toNat
  have h1 := Int.ediv_nonneg a0 (Int.le_of_lt p0)
  have h2 := Int.ediv_le_self (2 ^ (n % 32).toNat) a0
  unfold shiftV
  split
  · omega
  · split
    · omega
    · split <;> omega
theorem sg_div {a : Int} (a0 : 0 ≤ a) (a1 : a ≤ 4294967295) (m : Nat) : -2147483648 ≤ sg a / 2 ^ m ∧ sg a / 2 ^ m ≤ 2147483647 := by
  have ra := sg_range a0 a1
  have p0 := pow_pos m
  have e1 := Int.ediv_le_ediv p0 ra.2.1
  have e2 := Int.ediv_le_ediv p0 ra.1
  have e3 : (2147483647 : Int) / 2 ^ m ≤ 2147483647 := Int.ediv_le_self _ (by omega)
  have e4 : (-2147483648 : Int) ≤ -2147483648 / 2 ^ m := by
    rw [Int.le_ediv_iff_mul_le p0]
    omega
  omega
theorem sg_back {z : Int} (h0 : -2147483648 ≤ z) (h1 : z ≤ 2147483647) : sg (z % 4294967296) = z := by unfold sg; split <;> omega
theorem shift_on {a : Int} (a0 : 0 ≤ a) (a1 : a ≤ 4294967295) (kind x y : Int) (hk : 0 ≤ kind ∧ kind < 3) (hx : 0 ≤ x ∧ x ≤ 15) (hy : 0 ≤ y ∧ y ≤ 15) : shiftV kind (shiftV kind a x) y = shiftV kind a (x + y) := by
  have ex : (x % 32).toNat = x.toNat := by omega
  have ey : (y % 32).toNat = y.toNat := by omega
  have exy : ((x + y) % 32).toNat = x.toNat + y.toNat := by omega
  unfold shiftV
  rw [ex, ey, exy, Int.pow_add]
  have p0 := pow_pos x.toNat
  by_cases k0 : kind = 0
  · rw [if_pos k0, if_pos k0, if_pos k0, Int.mul_emod, Int.emod_emod, ← Int.mul_emod, Int.mul_assoc]
  · rw [if_neg k0, if_neg k0, if_neg k0]
    by_cases k1 : kind = 1
    · rw [if_pos k1, if_pos k1, if_pos k1, Int.ediv_ediv_of_nonneg (Int.le_of_lt p0)]
    · have k2 : kind = 2 := by omega
      have h := sg_div a0 a1 x.toNat
      rw [if_neg k1, if_neg k1, if_neg k1, if_pos k2, if_pos k2, if_pos k2, sg_back h.1 h.2, Int.ediv_ediv_of_nonneg (Int.le_of_lt p0)]
theorem shift_none {a : Int} (a0 : 0 ≤ a) (a1 : a ≤ 4294967295) (kind n : Int) (hn : n % 32 = 0) : shiftV kind a n = a := by
  have ra := sg_range a0 a1
  unfold shiftV
  rw [hn]
  show (if kind = 0 then a * 2 ^ 0 % 4294967296 else if kind = 1 then a / 2 ^ 0 else if kind = 2 then sg a / 2 ^ 0 % 4294967296 else a) = a
  rw [Int.pow_zero, Int.mul_one, Int.ediv_one, Int.ediv_one]
  split
  · omega
  · split
    · rfl
    · split
      · exact ra.2.2
      · rfl

/-! ### WordsLead -/
theorem lead_law (j : Nat) (hj : j ≤ 32) : ∀ x : Int, 0 ≤ x → x < 2 ^ j → ∃ n : Nat, leadV j x false = (n : Int) ∧ n ≤ j ∧ (n = j ↔ x = 0) ∧ (n < j → x / 2 ^ (j - 1 - n) = 1) := by
  induction j with
  | zero =>
    intro x h0 h1
    have hx : x = 0 := by rw [Int.pow_zero] at h1; omega
    exact ⟨0, rfl, Nat.le_refl _, by simp [hx], fun h => by omega⟩
  | succ j ih =>
    intro x h0 h1
    have p0 := pow_pos j
    rw [Int.pow_succ] at h1
    by_cases h : x < 2 ^ j
    · obtain ⟨n, e, hn, hz, ho⟩ := ih (by omega) x h0 h
      have hq : x / 2 ^ j = 0 := Int.ediv_eq_zero_of_lt h0 h
      refine ⟨n + 1, ?_, by omega, ?_, ?_⟩
      · unfold leadV
        rw [hq, if_neg (by simp), e]; omega
      · constructor
        · intro hx; exact hz.1 (by omega)
        · intro hx; have := hz.2 hx; omega
      · intro hx
        have := ho (by omega)
        rwa [show j + 1 - 1 - (n + 1) = j - 1 - n by omega]
    · have hq : x / 2 ^ j = 1 := by
        have h2 : 1 ≤ x / 2 ^ j := by rw [Int.le_ediv_iff_mul_le p0]; omega
        have h3 : x / 2 ^ j < 2 := by rw [Int.ediv_lt_iff_lt_mul p0]; omega
        omega
      refine ⟨0, ?_, by omega, ?_, ?_⟩
      · unfold leadV
        rw [hq, if_pos (by rfl)]; rfl
      · constructor
        · intro hx; omega
        · intro hx; omega
      · intro _
        rw [show j + 1 - 1 - 0 = j by omega]; exact hq
theorem lead_shift {a : Int} (a0 : 0 ≤ a) (a1 : a ≤ 4294967295) : ∃ n : Nat, leadV 32 a false = (n : Int) ∧ n ≤ 32 ∧ (n = 32 ↔ a = 0) ∧ (a ≠ 0 → shiftV 0 a (n : Int) / 2147483648 = 1 ∧ shiftV 1 a (31 - (n : Int)) = 1) := by
  obtain ⟨n, e, hn, hz, ho⟩ := lead_law 32 (by omega) a a0 (by omega)
  refine ⟨n, e, hn, hz, fun hne => ?_⟩
  have hlt : n < 32 := by
    rcases Nat.lt_or_ge n 32 with h | h
    · exact h
    · exact absurd (hz.1 (by omega)) hne
  have h1 := ho hlt
  have en : ((n : Int) % 32).toNat = n := by omega
  have em : ((31 - (n : Int)) % 32).toNat = 31 - n := by omega
  have e2 : 32 - 1 - n = 31 - n := by omega
  rw [e2] at h1
  unfold shiftV
  rw [en, em, if_pos rfl, if_neg (by omega), if_pos rfl]
  refine ⟨?_, h1⟩
  have p0 := pow_pos n
  have q0 := pow_pos (31 - n)
  have hpq : (2 : Int) ^ n * 2 ^ (31 - n) = 2147483648 := by
    rw [← Int.pow_add, show n + (31 - n) = 31 by omega]; rfl
  have l1 : 2 ^ (31 - n) ≤ a := by
    have := (Int.le_ediv_iff_mul_le q0).1 (show 1 ≤ a / 2 ^ (31 - n) by omega)
    omega
  have l2 : a < 2 * 2 ^ (31 - n) := (Int.ediv_lt_iff_lt_mul q0).1 (show a / 2 ^ (31 - n) < 2 by omega)
  have m1 := Int.mul_le_mul_of_nonneg_right l1 (Int.le_of_lt p0)
  have m2 := Int.mul_lt_mul_of_pos_right l2 p0
  rw [Int.mul_assoc, Int.mul_comm (2 ^ (31 - n)), hpq] at m2
  rw [Int.mul_comm (2 ^ (31 - n)), hpq] at m1
  omega

/-! ### WordsRules -/
theorem back_law {a b : Int} (a0 : 0 ≤ a) (a1 : a ≤ 4294967295) : ((a + b) % 4294967296 - b) % 4294967296 = a := by omega
theorem shift_ext {a : Int} (a0 : 0 ≤ a) (a1 : a ≤ 4294967295) (k : Int) (hk : 0 ≤ k ∧ k ≤ 31) : shiftV 1 (shiftV 0 a k) k = extV a (32 - k) false ∧ shiftV 2 (shiftV 0 a k) k = extV a (32 - k) true := by
  obtain ⟨m, rfl⟩ : ∃ m : Nat, k = (m : Int) := ⟨k.toNat, by omega⟩
  have em : ((m : Int) % 32).toNat = m := by omega
  have eq : (32 - (m : Int)).toNat = 32 - m := by omega
  have p0 := pow_pos m
  have q0 := pow_pos (32 - m)
  have hpq := pow_mul (m := m) (by omega)
  have hs : shiftV 0 a (m : Int) = (a % 2 ^ (32 - m)) * 2 ^ m := by
    unfold shiftV
    rw [if_pos rfl, em, ← (left_is a0 a1 (show m ≤ 31 by omega)).2.2.1]
  have hcan : ∀ z : Int, z * 2 ^ m / 2 ^ m = z := fun z => Int.mul_ediv_cancel z (by omega)
  have s1 : ∀ z, shiftV 1 z (m : Int) = z / 2 ^ m := fun z => by unfold shiftV; rw [if_neg (by omega), if_pos rfl, em]
  have s2 : ∀ z, shiftV 2 z (m : Int) = sg z / 2 ^ m % 4294967296 := fun z => by unfold shiftV; rw [if_neg (by omega), if_neg (by omega), if_pos rfl, em]
  rw [s1, s2, hs]
  by_cases h0 : m = 0
  · subst h0
    have ra := sg_range a0 a1
    have x1 : ∀ s, extV a (32 - ((0 : Nat) : Int)) s = a := fun s => by unfold extV; rw [if_pos (Or.inr (by omega))]
    have e1 : a % 2 ^ (32 - 0) * 2 ^ 0 = a := by rw [Int.pow_zero, Int.mul_one]; exact Int.emod_eq_of_lt a0 (by omega)
    rw [x1, x1, e1, Int.pow_zero, Int.ediv_one, Int.ediv_one]
    exact ⟨rfl, ra.2.2⟩
  · have x1 : ∀ s, extV a (32 - (m : Int)) s = (if s = true ∧ a % 2 ^ (32 - m) ≥ 2 ^ (32 - m) / 2 then a % 2 ^ (32 - m) - 2 ^ (32 - m) else a % 2 ^ (32 - m)) % 4294967296 := fun s => by
      unfold extV; rw [if_neg (show ¬ (32 - (m : Int) < 1 ∨ 32 - (m : Int) ≥ 32) by omega), eq]
    rw [x1, x1, hcan]
    obtain ⟨q, hq⟩ : ∃ q : Int, (2 : Int) ^ (32 - m) = 2 * q := ⟨2 ^ (31 - m), by rw [show 32 - m = 31 - m + 1 by omega, Int.pow_succ, Int.mul_comm]⟩
    have t0 := Int.emod_nonneg a (show (2 : Int) ^ (32 - m) ≠ 0 by omega)
    have t1 := Int.emod_lt_of_pos a q0
    have hle : (2 : Int) ^ (32 - m) ≤ 4294967296 := (left_is a0 a1 (show m ≤ 31 by omega)).2.2.2.2.2.2.1
    generalize a % 2 ^ (32 - m) = t at t0 t1 ⊢
    rw [hq] at t1 hpq hle ⊢
    rw [show (2 : Int) * q / 2 = q by omega]
    have hqp : q * 2 ^ m = 2147483648 := by
      have h5 : 2 * (q * 2 ^ m) = 4294967296 := by rw [← Int.mul_assoc, Int.mul_comm]; exact hpq
      omega
    constructor
    · rw [if_neg (by simp)]; omega
    · have tp : 0 ≤ t * 2 ^ m := Int.mul_nonneg t0 (Int.le_of_lt p0)
      have tp2 := Int.mul_lt_mul_of_pos_right t1 p0
      rw [Int.mul_assoc, hqp] at tp2
      by_cases h : t ≥ q
      · have h4 := Int.mul_le_mul_of_nonneg_right h (Int.le_of_lt p0)
        have h5 : sg (t * 2 ^ m) = (t - 2 * q) * 2 ^ m := by
          rw [Int.sub_mul, Int.mul_assoc 2, hqp]
          unfold sg; rw [if_pos (by omega)]; omega
        rw [if_pos ⟨rfl, h⟩, h5, hcan]
      · have h4 := Int.mul_lt_mul_of_pos_right (show t < q by omega) p0
        have h5 : sg (t * 2 ^ m) = t * 2 ^ m := by unfold sg; rw [if_neg (by omega)]
        rw [if_neg (by simp; omega), h5, hcan]
theorem val_mod (s : Bool) {q : Int} (q0 : 0 ≤ q) (q1 : q ≤ 4294967295) : val s q % 4294967296 = q := by
  unfold val
  split
  · exact (sg_range q0 q1).2.2
  · omega
/-- Quotient times divisor, and what is left. -/
theorem div_law {a b : Int} (s : Bool) (a0 : 0 ≤ a) (a1 : a ≤ 4294967295) (b0 : 0 ≤ b) (b1 : b ≤ 4294967295) :
    ((val s (Int.tdiv (val s a) (val s b) % 4294967296) * val s b) % 4294967296 + Int.tmod (val s a) (val s b) % 4294967296) % 4294967296 = a := by
  have h := Int.tmod_add_mul_tdiv (val s a) (val s b)
  have hv := val_mod s a0 a1
  have hq := val_mod s (q := Int.tdiv (val s a) (val s b) % 4294967296) (by omega) (by omega)
  have e : (val s (Int.tdiv (val s a) (val s b) % 4294967296) * val s b) % 4294967296 = (Int.tdiv (val s a) (val s b) * val s b) % 4294967296 := by
    rw [Int.mul_emod, hq, ← Int.mul_emod]
  rw [e, ← Int.add_emod, Int.add_comm, Int.mul_comm, h, hv]
theorem rem_law {a b : Int} (a0 : 0 ≤ a) (b0 : 0 ≤ b) (hb : b ≠ 0) (a1 : a ≤ 4294967295) : Int.tmod (val false a) (val false b) % 4294967296 < b := by
  show Int.tmod a b % 4294967296 < b
  rw [Int.tmod_eq_emod_of_nonneg a0]
  have h1 := Int.emod_lt_of_pos a (show 0 < b by omega)
  have h2 := Int.emod_nonneg a hb
  have h3 : (a % b) % 4294967296 ≤ a % b := by omega
  omega
end Go.Proofs.Ytlmadoihfnhnbaa.Num
