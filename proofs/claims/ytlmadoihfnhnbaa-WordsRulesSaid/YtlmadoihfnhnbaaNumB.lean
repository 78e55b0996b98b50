/- The plain law of package words, second half: the document's product, the quotients, the extensions, the leading bits and the shifts, each in one form for the program and for the document's answer. No memory here. Conditions: words are from 0 to 2^32 - 1. -/
import Derived.Test.YtlmadoihfnhnbaaNum
import Derived.Lib.BitFns
namespace Go.Proofs.Ytlmadoihfnhnbaa.Num
open Go.RowKit Go.Proofs.Ytlmadoihfnhnbaa.Fun Go.Proofs.YtlmadoihfnhnbaaW.PrintWords Go.Proofs.YtlmadoihfnhnbaaW.PrintLast Go.Proofs.YtlmadoihfnhnbaaW.PrintMore
set_option linter.unusedVariables false
set_option linter.unusedSimpArgs false

/-! ### The document's product -/
section
variable {x y : Int} (x0 : 0 ≤ x) (x1 : x ≤ 4294967295) (y0 : 0 ≤ y) (y1 : y ≤ 4294967295)
include x0 x1 y0 y1
theorem halves : ∃ u v : Int, Int.tmod x 65536 * y = u ∧ wrap64 (Int.tdiv x 65536) * y = v ∧ x * y = 65536 * v + u ∧ 0 ≤ u ∧ u ≤ 281474976710656 ∧ 0 ≤ v ∧ v ≤ 281474976710656 := by
  refine ⟨_, _, rfl, rfl, ?_⟩
  rw [Int.tmod_eq_emod_of_nonneg x0, Int.tdiv_eq_ediv_of_nonneg x0, wrap64_in (by omega) (by omega)]
  have e : x * y = (65536 * (x / 65536) + x % 65536) * y := by congr 1; omega
  have h1 := Int.mul_le_mul (show x % 65536 ≤ 65536 by omega) y1 y0 (by omega)
  have h2 := Int.mul_le_mul (show x / 65536 ≤ 65536 by omega) y1 y0 (by omega)
  have h3 := Int.mul_nonneg (show 0 ≤ x % 65536 by omega) y0
  have h4 := Int.mul_nonneg (show 0 ≤ x / 65536 by omega) y0
  refine ⟨by rw [e, Int.add_mul, Int.mul_assoc], h3, by omega, h4, by omega⟩
theorem lo_hi : Int.tmod (wrap64 ((Int.tmod (wrap64 ((Int.tmod x 65536) * y)) 4294967296) + (wrap64 ((Int.tmod (wrap64 ((wrap64 (Int.tdiv x 65536)) * y)) 65536) * 65536)))) 4294967296 = (x * y) % 4294967296 ∧
    (wrap64 ((wrap64 ((wrap64 (Int.tdiv (wrap64 ((Int.tmod x 65536) * y)) 4294967296)) + (wrap64 (Int.tdiv (wrap64 ((wrap64 (Int.tdiv x 65536)) * y)) 65536)))) + (wrap64 (Int.tdiv (wrap64 ((Int.tmod (wrap64 ((Int.tmod x 65536) * y)) 4294967296) + (wrap64 ((Int.tmod (wrap64 ((wrap64 (Int.tdiv x 65536)) * y)) 65536) * 65536)))) 4294967296)))) = (x * y) / 4294967296 := by
  obtain ⟨u, v, hu, hv, e, u0, u1, v0, v1⟩ := halves x0 x1 y0 y1
  rw [hu, hv, wrap64_in (n := u) (by omega) (by omega), wrap64_in (n := v) (by omega) (by omega), Int.tmod_eq_emod_of_nonneg (a := u) u0, Int.tmod_eq_emod_of_nonneg (a := v) v0, Int.tdiv_eq_ediv_of_nonneg (a := u) u0, Int.tdiv_eq_ediv_of_nonneg (a := v) v0]
  rw [wrap64_in (n := v % 65536 * 65536) (by omega) (by omega), wrap64_in (n := u % 4294967296 + v % 65536 * 65536) (by omega) (by omega), Int.tmod_eq_emod_of_nonneg (by omega), Int.tdiv_eq_ediv_of_nonneg (by omega)]
  rw [wrap64_in (n := u / 4294967296) (by omega) (by omega), wrap64_in (n := v / 65536) (by omega) (by omega), wrap64_in (n := (u % 4294967296 + v % 65536 * 65536) / 4294967296) (by omega) (by omega), wrap64_in (n := u / 4294967296 + v / 65536) (by omega) (by omega), wrap64_in (by omega) (by omega), e]
  omega
theorem rmul_j0 (k : Nat) (m : Bool) : zoetroperef01_Mul.j0 (k + 1) x y m = zoetroperef01_Mul.j1 k ((x * y) % 4294967296) ((x * y) / 4294967296) (m && (decide ((x * y) % 4294967296 ≠ 0) || decide ((x * y) / 4294967296 ≠ 0))) := by
  obtain ⟨h1, h2⟩ := lo_hi x0 x1 y0 y1
  simp only [zoetroperef01_Mul.j0]
  rw [h1, h2]
  cases m with
  | false => rw [if_neg (by simp)]; simp
  | true =>
    rw [if_pos rfl]
    by_cases h : (x * y) % 4294967296 = 0
    · rw [if_pos h]
      congr 1
      by_cases h3 : (x * y) / 4294967296 = 0
      · simp [h, h3]
      · simp [h, h3]
    · rw [if_neg h]
      simp [h]
end
theorem rmul_j1 (k : Nat) (p : Int) (h0 : 0 ≤ p) (h1 : p ≤ 18446744065119617025) (m : Bool) :
    zoetroperef01_Mul.j1 (k + 1) (p % 4294967296) (p / 4294967296) (m && (decide (p % 4294967296 ≠ 0) || decide (p / 4294967296 ≠ 0))) = some ((if m = true then -p else p) / 4294967296 % 4294967296, (if m = true then -p else p) % 4294967296) := by
  simp only [zoetroperef01_Mul.j1]
  cases m with
  | false =>
    rw [if_neg (by simp), if_neg (by simp), word_is (by omega) (by omega), word_is (by omega) (by omega)]
    simp only [Option.bind_some]
    congr 2; omega
  | true =>
    rw [if_pos rfl]
    by_cases hz : p = 0
    · subst hz
      rw [if_neg (by simp), word_is (by omega) (by omega), word_is (by omega) (by omega)]
      rfl
    · rw [if_pos (by
        simp only [Bool.true_and, Bool.or_eq_true, decide_eq_true_eq]
        omega)]
      rw [wrap64_in (n := 4294967296 - p % 4294967296) (by omega) (by omega), wrap64_in (n := 4294967295 - p / 4294967296) (by omega) (by omega)]
      by_cases h : 4294967296 - p % 4294967296 = 4294967296
      · rw [if_pos h, wrap64_in (by omega) (by omega), word_is (by omega) (by omega), word_is (by omega) (by omega)]
        simp only [Option.bind_some]
        congr 2 <;> omega
      · rw [if_neg h, word_is (by omega) (by omega), word_is (by omega) (by omega)]
        simp only [Option.bind_some]
        congr 2 <;> omega
theorem mul_bound {x y : Int} (x0 : 0 ≤ x) (x1 : x ≤ 4294967295) (y0 : 0 ≤ y) (y1 : y ≤ 4294967295) : 0 ≤ x * y ∧ x * y ≤ 18446744065119617025 := by
  have e1 := Int.mul_nonneg x0 y0
  have e2 : x * y ≤ 4294967295 * 4294967295 := Int.mul_le_mul x1 y1 y0 (by omega)
  omega

theorem tdiv_bound {x y : Int} (hx : -4294967296 ≤ x ∧ x ≤ 4294967296) : -4294967296 ≤ Int.tdiv x y ∧ Int.tdiv x y ≤ 4294967296 := by
  have h := Int.natAbs_tdiv x y
  have h2 := Nat.div_le_self x.natAbs y.natAbs
  have h3 : (Int.tdiv x y).natAbs ≤ x.natAbs := by rw [h]; exact h2
  omega
section
variable {a b : Int} (a0 : 0 ≤ a) (a1 : a ≤ 4294967295) (b0 : 0 ≤ b) (b1 : b ≤ 4294967295)
include a0 a1 b0 b1
theorem rmul_is (s : Bool) : zoetroperef01_Mul.f 2 a b s = some ((val s a * val s b) / 4294967296 % 4294967296, (val s a * val s b) % 4294967296) := by
  have ra := sg_range a0 a1
  have rb := sg_range b0 b1
  unfold zoetroperef01_Mul.f val
  cases s with
  | false =>
    have hb := mul_bound a0 a1 b0 b1
    rw [if_neg (by simp), if_neg (by simp), if_neg (by simp), wrap64_in (n := a) (by omega) (by omega), wrap64_in (n := b) (by omega) (by omega), rmul_j0 a0 a1 b0 b1, rmul_j1 _ _ hb.1 hb.2]
    simp
  | true =>
    rw [if_pos rfl, if_pos rfl, if_pos rfl, mean_is a0 a1, mean_is b0 b1]
    simp only [Option.bind_some]
    generalize sg a = x at ra ⊢
    generalize sg b = y at rb ⊢
    by_cases hx : x < 0 <;> by_cases hy : y < 0
    · have hb := mul_bound (show 0 ≤ -x by omega) (by omega) (show 0 ≤ -y by omega) (by omega)
      rw [if_pos hx, if_pos hy, wrap64_in (by omega) (by omega), wrap64_in (by omega) (by omega), rmul_j0 (by omega) (by omega) (by omega) (by omega), rmul_j1 _ _ hb.1 hb.2, Int.neg_mul_neg]
      simp
    · have hb := mul_bound (show 0 ≤ -x by omega) (by omega) (show 0 ≤ y by omega) (by omega)
      rw [if_pos hx, if_neg hy, wrap64_in (by omega) (by omega), rmul_j0 (by omega) (by omega) (by omega) (by omega), rmul_j1 _ _ hb.1 hb.2, Int.neg_mul, Int.neg_neg]
      simp
    · have hb := mul_bound (show 0 ≤ x by omega) (by omega) (show 0 ≤ -y by omega) (by omega)
      rw [if_neg hx, if_pos hy, wrap64_in (by omega) (by omega), rmul_j0 (by omega) (by omega) (by omega) (by omega), rmul_j1 _ _ hb.1 hb.2, Int.mul_neg, Int.neg_neg]
      simp
    · have hb := mul_bound (show 0 ≤ x by omega) (by omega) (show 0 ≤ y by omega) (by omega)
      rw [if_neg hx, if_neg hy, rmul_j0 (by omega) (by omega) (by omega) (by omega), rmul_j1 _ _ hb.1 hb.2]
      simp

/-! ### Quotients -/
/-- The quotient, and what is left. -/
theorem div_is (s : Bool) : words_Div.f a b s = some (if b = 0 then (0, 0, 10) else (Int.tdiv (val s a) (val s b) % 4294967296, Int.tmod (val s a) (val s b) % 4294967296, 0)) := by
  have ra := sg_range a0 a1
  have rb := sg_range b0 b1
  unfold words_Div.f val
  by_cases h : b = 0
  · rw [if_pos h, if_pos h]
  · rw [if_neg h, if_neg h]
    cases s with
    | true =>
      have h2 : sg b ≠ 0 := by omega
      have h3 := tdiv_bound (x := sg a) (y := sg b) (by omega)
      rw [if_pos rfl, if_pos rfl, if_pos rfl, wrap32_is a0 a1, wrap32_is b0 b1, wrap64_in (n := sg a) (by omega) (by omega), wrap64_in (n := sg b) (by omega) (by omega), if_neg h2, wrap64_in (by omega) (by omega)]
    | false =>
      rw [if_neg (by simp), if_neg (by simp), if_neg (by simp)]
      have h4 : Int.tmod a b % 4294967296 = Int.tmod a b := by
        rw [Int.tmod_eq_emod_of_nonneg a0]
        have h5 := Int.emod_nonneg a h
        have h6 := Int.emod_lt_of_pos a (show 0 < b by omega)
        exact Int.emod_eq_of_lt h5 (by omega)
      rw [h4]
end

/-! ### Powers of 2 -/
theorem pow_pos (m : Nat) : (0 : Int) < 2 ^ m := Int.pow_pos (by omega)
theorem pow_mul {m : Nat} (h : m ≤ 32) : (2 : Int) ^ m * 2 ^ (32 - m) = 4294967296 := by
  rw [← Int.pow_add]
  have : m + (32 - m) = 32 := by omega
  rw [this]; rfl
theorem shl_is {a n : Int} (h0 : 0 ≤ n) (h1 : n ≤ 32) : shl .u32 a n = (a * 2 ^ n.toNat) % 4294967296 := by
  unfold shl
  rw [show IntKind.u32.bits = 32 from rfl, Nat.min_eq_left (by omega), IntKind.wrap_u32]
theorem shr_is {k : IntKind} {a n : Int} (h0 : 0 ≤ n) (h1 : n ≤ 32) (hk : k.bits = 32) : shr k a n = a / 2 ^ n.toNat := by
  unfold shr
  rw [hk, Nat.min_eq_left (by omega)]
theorem mul_mod (a P Q : Int) (hQ : 0 < Q) : (a * Q) % (P * Q) = (a % P) * Q := by rw [Int.mul_comm a, Int.mul_comm P, Int.mul_emod_mul_of_pos _ _ hQ, Int.mul_comm]

/-! ### The low bits, extended -/
def extV (a n : Int) (s : Bool) : Int :=
  if n < 1 ∨ n ≥ 32 then a else
    (if s = true ∧ a % 2 ^ n.toNat ≥ 2 ^ n.toNat / 2 then a % 2 ^ n.toNat - 2 ^ n.toNat else a % 2 ^ n.toNat) % 4294967296
theorem ext_is {a : Int} (a0 : 0 ≤ a) (a1 : a ≤ 4294967295) (n : Int) (s : Bool) (hn : -9223372036854775808 ≤ n ∧ n ≤ 9223372036854775807) : words_Ext.f 1 a n s = some (extV a n s) := by
  unfold words_Ext.f extV
  by_cases h1 : n < 1
  · rw [if_pos h1, if_pos (Or.inl h1)]
    simp only [words_Ext.j0]
    rw [if_pos trivial]
  · rw [if_neg h1]
    by_cases h2 : n ≥ 32
    · rw [if_pos (Or.inr h2)]
      simp only [words_Ext.j0]
      rw [if_pos (by simpa using h2)]
    · rw [if_neg (by omega)]
      simp only [words_Ext.j0]
      rw [if_neg (by simpa using h2), wrap64_in (by omega) (by omega), if_pos (by omega)]
      obtain ⟨m, hm⟩ : ∃ m : Nat, n.toNat = m + 1 := ⟨n.toNat - 1, by omega⟩
      have hq : (32 - n).toNat = 31 - m := by omega
      have hm31 : m ≤ 30 := by omega
      rw [shl_is (by omega) (by omega), hq, hm]
      have hP : (2 : Int) ^ (m + 1) = 2 * 2 ^ m := by rw [Int.pow_succ, Int.mul_comm]
      have hPQ : (2 : Int) ^ (m + 1) * 2 ^ (31 - m) = 4294967296 := by
        have := pow_mul (m := m + 1) (by omega)
        rwa [show 32 - (m + 1) = 31 - m by omega] at this
      have hP2 : (2 : Int) ^ m * 2 ^ (31 - m) = 2147483648 := by
        rw [hP, Int.mul_assoc] at hPQ; omega
      have p0 := pow_pos m
      have q0 := pow_pos (31 - m)
      rw [← hPQ, mul_mod _ _ _ q0, hPQ, hP]
      have t0 := Int.emod_nonneg a (show (2 : Int) * 2 ^ m ≠ 0 by omega)
      have t1 := Int.emod_lt_of_pos a (show (0 : Int) < 2 * 2 ^ m by omega)
      generalize a % (2 * 2 ^ m) = t at t0 t1 ⊢
      rw [show (2 : Int) * 2 ^ m / 2 = 2 ^ m by omega]
      generalize (2 : Int) ^ m = P at p0 t1 hP2 ⊢
      have hcan : ∀ z : Int, z * 2 ^ (31 - m) / 2 ^ (31 - m) = z := fun z => Int.mul_ediv_cancel z (by omega)
      cases s with
      | false =>
        rw [if_neg (by simp), if_neg (by simp), shr_is (by omega) (by omega) rfl, hq, hcan]
        have : P * 1 ≤ P * 2 ^ (31 - m) := Int.mul_le_mul_of_nonneg_left (by omega) (by omega)
        congr 1; omega
      | true =>
        rw [if_pos rfl, shr_is (by omega) (by omega) rfl, hq]
        have tq0 : 0 ≤ t * 2 ^ (31 - m) := Int.mul_nonneg t0 (by omega)
        have tq1 : t * 2 ^ (31 - m) + 2 ^ (31 - m) ≤ 4294967296 := by
          have h3 := Int.mul_le_mul_of_nonneg_right (show t + 1 ≤ 2 * P by omega) (show (0 : Int) ≤ 2 ^ (31 - m) by omega)
          rw [Int.add_mul, Int.one_mul, Int.mul_assoc] at h3
          omega
        by_cases h3 : t ≥ P
        · have h4 := Int.mul_le_mul_of_nonneg_right h3 (show (0 : Int) ≤ 2 ^ (31 - m) by omega)
          rw [if_pos ⟨rfl, h3⟩]
          have h5 : wrap32 (t * 2 ^ (31 - m)) = (t - 2 * P) * 2 ^ (31 - m) := by
            rw [Int.sub_mul, Int.mul_assoc 2]
            unfold wrap32; omega
          rw [h5, hcan]
        · have h4 := Int.mul_le_mul_of_nonneg_right (show t + 1 ≤ P by omega) (show (0 : Int) ≤ 2 ^ (31 - m) by omega)
          rw [Int.add_mul, Int.one_mul] at h4
          rw [if_neg (by simp; omega)]
          have h5 : wrap32 (t * 2 ^ (31 - m)) = t * 2 ^ (31 - m) := by unfold wrap32; omega
          rw [h5, hcan]
theorem ext_l0 {a : Int} (a0 : 0 ≤ a) (a1 : a ≤ 4294967295) (n : Nat) (hn1 : 1 ≤ n) (hn : n ≤ 31) (s : Bool) (d : Nat) : ∀ i : Nat, i + d = n →
    zoetroperef01_Ext.l0 (d + 1) a (n : Int) s (2 ^ i) (i : Int) = some (extV a n s) := by
  have hpow : ∀ i : Nat, i ≤ 31 → (2 : Int) ^ i ≤ 2147483648 := fun i hi => by
    have := Nat.pow_le_pow_right (show 0 < 2 by omega) hi
    have e : ((2 ^ i : Nat) : Int) = 2 ^ i := by push_cast; rfl
    rw [← e]; omega
  induction d with
  | zero =>
    intro i hi
    obtain rfl : i = n := by omega
    obtain ⟨m, rfl⟩ : ∃ m, i = m + 1 := ⟨i - 1, by omega⟩
    have hp := pow_pos (m + 1)
    have hp2 := hpow (m + 1) hn
    have hP : (2 : Int) ^ (m + 1) = 2 * 2 ^ m := by rw [Int.pow_succ, Int.mul_comm]
    unfold extV
    rw [if_neg (show ¬ (((m + 1 : Nat) : Int) < 1 ∨ ((m + 1 : Nat) : Int) ≥ 32) by omega), Int.toNat_natCast]
    simp only [zoetroperef01_Ext.l0]
    rw [if_neg (show ¬ ((m + 1 : Nat) : Int) < ((m + 1 : Nat) : Int) by omega), if_neg (show ¬ (2 : Int) ^ (m + 1) = 0 by omega), wrap64_in (n := a) (by omega) (by omega), Int.tmod_eq_emod_of_nonneg a0, Int.tdiv_eq_ediv_of_nonneg (show (0 : Int) ≤ 2 ^ (m + 1) by omega)]
    have t0 := Int.emod_nonneg a (show (2 : Int) ^ (m + 1) ≠ 0 by omega)
    have t1 := Int.emod_lt_of_pos a hp
    generalize a % 2 ^ (m + 1) = t at t0 t1 ⊢
    generalize (2 : Int) ^ (m + 1) = P at hp hp2 t1 hP ⊢
    cases s with
    | true =>
      rw [if_pos rfl, wrap64_in (n := P / 2) (by omega) (by omega)]
      by_cases h : t ≥ P / 2
      · rw [if_pos h, if_pos ⟨rfl, h⟩, wrap64_in (by omega) (by omega), word_is (by omega) (by omega)]
        rfl
      · rw [if_neg h, if_neg (by simp; omega), word_is (by omega) (by omega)]
        rfl
    | false =>
      rw [if_neg (by simp), if_neg (by simp), word_is (by omega) (by omega)]
      rfl
  | succ d ih =>
    intro i hi
    have hp2 := hpow i (by omega)
    have hp := pow_pos i
    have e1 : wrap64 ((2 : Int) ^ i * 2) = 2 ^ (i + 1) := by rw [wrap64_in (by omega) (by omega), Int.pow_succ]
    have e2 : wrap64 ((i : Int) + 1) = ((i + 1 : Nat) : Int) := by rw [wrap64_in (by omega) (by omega)]; rfl
    have h := ih (i + 1) (by omega)
    simp only [zoetroperef01_Ext.l0] at h ⊢
    rw [if_pos (by omega), e1, e2]
    exact h
theorem rext_is {a : Int} (a0 : 0 ≤ a) (a1 : a ≤ 4294967295) (n : Int) (s : Bool) : zoetroperef01_Ext.f 40 a n s = some (extV a n s) := by
  unfold zoetroperef01_Ext.f
  by_cases h1 : n < 1
  · rw [if_pos h1]
    unfold extV
    simp only [zoetroperef01_Ext.j0]
    rw [if_pos trivial, if_pos (Or.inl h1)]
  · rw [if_neg h1]
    by_cases h2 : n ≥ 32
    · unfold extV
      simp only [zoetroperef01_Ext.j0]
      rw [if_pos (by simp; omega), if_pos (Or.inr h2)]
    · obtain ⟨m, rfl⟩ : ∃ m : Nat, n = (m : Int) := ⟨n.toNat, by omega⟩
      have h := ext_l0 a0 a1 m (by omega) (by omega) s m 0 (by omega)
      have h3 := at_rounds (g := fun k => zoetroperef01_Ext.l0 k a (m : Int) s 1 0) (fun k => (zoetroperef01_Ext.mono_l k).2 _ _ _ _ _) (k := m + 1) (k' := 39) (by omega) h
      simp only [zoetroperef01_Ext.j0]
      rw [if_neg (by simp; omega)]
      exact h3
end Go.Proofs.Ytlmadoihfnhnbaa.Num
