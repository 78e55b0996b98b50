/- The plain law of the buffer's bits: what the program does by masks is what the document does by quotients. No memory here. Conditions: words are words. -/
import Derived.Test.YtngebimnahojlaaConB
namespace Go.Proofs.Ytngebimnahojlaa.Num
open Go.RowKit Go.Proofs.Ytngebimnahojlaa.Con
set_option linter.unusedVariables false
set_option linter.unusedSimpArgs false
/-- A word. -/
def Wd (x : Int) : Prop := 0 ≤ x ∧ x < 4294967296
theorem or_lt {a b : Nat} (ha : a < 4294967296) (hb : b < 4294967296) : a ||| b < 4294967296 := Nat.or_lt_two_pow (n := 32) ha hb
theorem and_lt {a b : Nat} (hb : b < 4294967296) : a &&& b < 4294967296 := Nat.and_lt_two_pow (n := 32) a hb
theorem and_lt' {a b : Nat} (ha : a < 4294967296) : a &&& b < 4294967296 := by rw [Nat.and_comm]; exact and_lt ha
theorem bits_or {a b : Nat} (ha : a < 4294967296) (hb : b < 4294967296) : Go.bits .or .u32 (a : Int) (b : Int) = ((a ||| b : Nat) : Int) := by
  have h := or_lt ha hb
  simp only [Go.bits, BitVec.ofInt_natCast]
  rw [BitVec.toNat_or, BitVec.toNat_ofNat, BitVec.toNat_ofNat]
  show IntKind.u32.wrap (((a % 4294967296) ||| (b % 4294967296) : Nat) : Int) = _
  rw [Nat.mod_eq_of_lt ha, Nat.mod_eq_of_lt hb, IntKind.wrap_u32]
  omega
theorem bits_and {a b : Nat} (ha : a < 4294967296) (hb : b < 4294967296) : Go.bits .and .u32 (a : Int) (b : Int) = ((a &&& b : Nat) : Int) := by
  have h := and_lt (a := a) hb
  simp only [Go.bits, BitVec.ofInt_natCast]
  rw [BitVec.toNat_and, BitVec.toNat_ofNat, BitVec.toNat_ofNat]
  show IntKind.u32.wrap (((a % 4294967296) &&& (b % 4294967296) : Nat) : Int) = _
  rw [Nat.mod_eq_of_lt ha, Nat.mod_eq_of_lt hb, IntKind.wrap_u32]
  omega
def notN (a b : Nat) : Nat := a &&& (4294967295 - b)
theorem notN_lt {a b : Nat} (ha : a < 4294967296) : notN a b < 4294967296 := and_lt' ha
theorem bits_andNot {a b : Nat} (ha : a < 4294967296) (hb : b < 4294967296) : Go.bits .andNot .u32 (a : Int) (b : Int) = ((notN a b : Nat) : Int) := by
  have h := notN_lt (b := b) ha
  have hx : (BitVec.ofNat 32 a &&& ~~~ BitVec.ofNat 32 b).toNat = notN a b := by
    rw [BitVec.toNat_and, BitVec.toNat_not, BitVec.toNat_ofNat, BitVec.toNat_ofNat]
    show (a % 4294967296) &&& (4294967296 - 1 - b % 4294967296) = _
    rw [Nat.mod_eq_of_lt ha, Nat.mod_eq_of_lt hb]
    rfl
  simp only [Go.bits, BitVec.ofInt_natCast]
  show IntKind.u32.wrap (((BitVec.ofNat 32 a &&& ~~~ BitVec.ofNat 32 b).toNat : Nat) : Int) = _
  rw [hx, IntKind.wrap_u32]
  omega
theorem test_high {a i : Nat} (ha : a < 4294967296) (hi : ¬ i < 32) : a.testBit i = false := by
  refine Nat.testBit_lt_two_pow (Nat.lt_of_lt_of_le ha ?_)
  have := Nat.pow_le_pow_right (show 0 < 2 by omega) (show 32 ≤ i by omega)
  simpa using this
theorem not255 {a : Nat} (ha : a < 4294967296) : notN a 255 = 256 * (a / 256) := by
  apply Nat.eq_of_testBit_eq
  intro i
  unfold notN
  rw [Nat.testBit_and, show 256 * (a / 256) = 2 ^ 8 * (a / 2 ^ 8) from rfl, Nat.testBit_two_pow_mul, Nat.testBit_div_two_pow]
  have h := Nat.testBit_two_pow_sub_succ (n := 32) (show 255 < 2 ^ 32 by omega) i
  rw [show 2 ^ 32 - (255 + 1) = 4294967295 - 255 by omega] at h
  rw [h, show (255 : Nat) = 2 ^ 8 - 1 from rfl, Nat.testBit_two_pow_sub_one]
  by_cases hi : i < 32
  · by_cases h8 : 8 ≤ i
    · rw [decide_eq_true hi, decide_eq_false (by omega), decide_eq_true h8, show i - 8 + 8 = i by omega]; simp
    · rw [decide_eq_true hi, decide_eq_true (by omega), decide_eq_false (show ¬ i ≥ 8 from h8)]; simp
  · rw [test_high ha hi, decide_eq_true (show i ≥ 8 by omega), show i - 8 + 8 = i by omega, test_high ha hi]; simp
theorem nat_of {x : Int} (h : Wd x) : ∃ n : Nat, x = (n : Int) ∧ n < 4294967296 := ⟨x.toNat, by have := h.1; omega, by have := h.1; have := h.2; omega⟩
theorem andNot_is {x : Int} (h : Wd x) : Go.bits .andNot .u32 x 255 = x / 256 * 256 := by
  obtain ⟨n, rfl, hn⟩ := nat_of h
  have e : Go.bits .andNot .u32 (n : Int) 255 = ((notN n 255 : Nat) : Int) := bits_andNot hn (b := 255) (by omega)
  rw [e, not255 hn]
  omega
theorem and255_is {x : Int} (h : Wd x) : Go.bits .and .u32 x 255 = x % 256 := by
  obtain ⟨n, rfl, hn⟩ := nat_of h
  have e : Go.bits .and .u32 (n : Int) 255 = ((n &&& 255 : Nat) : Int) := bits_and hn (b := 255) (by omega)
  rw [e, show n &&& 255 = n % 256 from Nat.and_two_pow_sub_one_eq_mod n 8]
  omega
theorem and7_is {x : Int} (h : Wd x) : Go.bits .and .u32 x 7 = x % 8 := by
  obtain ⟨n, rfl, hn⟩ := nat_of h
  have e : Go.bits .and .u32 (n : Int) 7 = ((n &&& 7 : Nat) : Int) := bits_and hn (b := 7) (by omega)
  rw [e, show n &&& 7 = n % 8 from Nat.and_two_pow_sub_one_eq_mod n 3]
  omega
theorem and1_is {x : Int} (h : Wd x) : Go.bits .and .u32 x 1 = x % 2 := by
  obtain ⟨n, rfl, hn⟩ := nat_of h
  have e : Go.bits .and .u32 (n : Int) 1 = ((n &&& 1 : Nat) : Int) := bits_and hn (b := 1) (by omega)
  rw [e, show n &&& 1 = n % 2 from Nat.and_two_pow_sub_one_eq_mod n 1]
  omega
theorem bit_and (n j : Nat) : (n &&& 2 ^ j = 0) ↔ n / 2 ^ j % 2 = 0 := by
  have ht : n.testBit j = decide (n / 2 ^ j % 2 = 1) := Nat.testBit_eq_decide_div_mod_eq
  constructor
  · intro h
    have h1 : (n &&& 2 ^ j).testBit j = false := by rw [h, Nat.zero_testBit]
    rw [Nat.testBit_and, Nat.testBit_two_pow_self, Bool.and_true, ht, decide_eq_false_iff_not] at h1
    omega
  · intro h
    apply Nat.eq_of_testBit_eq
    intro i
    rw [Nat.testBit_and, Nat.zero_testBit, Nat.testBit_two_pow]
    by_cases c : j = i
    · subst c; rw [ht, decide_eq_false (by omega)]; rfl
    · rw [decide_eq_false c, Bool.and_false]
theorem and2_is {x : Int} (h : Wd x) : (Go.bits .and .u32 x 2 == 0) = (x / 2 % 2 == 0) := by
  obtain ⟨n, rfl, hn⟩ := nat_of h
  have e : Go.bits .and .u32 (n : Int) 2 = ((n &&& 2 : Nat) : Int) := bits_and hn (b := 2) (by omega)
  have q := bit_and n 1
  rw [show (2 : Nat) ^ 1 = 2 from rfl] at q
  rw [e, Bool.eq_iff_iff, beq_iff_eq, beq_iff_eq]
  omega
theorem and4_is {x : Int} (h : Wd x) : (Go.bits .and .u32 x 4 == 0) = (x / 4 % 2 == 0) := by
  obtain ⟨n, rfl, hn⟩ := nat_of h
  have e : Go.bits .and .u32 (n : Int) 4 = ((n &&& 4 : Nat) : Int) := bits_and hn (b := 4) (by omega)
  have q := bit_and n 2
  rw [show (2 : Nat) ^ 2 = 4 from rfl] at q
  rw [e, Bool.eq_iff_iff, beq_iff_eq, beq_iff_eq]
  omega
/-- A multiple of 256 and what is below 256, together. -/
theorem or_is {x y : Int} (h : Wd x) (hy : 0 ≤ y ∧ y < 256) : Go.bits .or .u32 (x / 256 * 256) y = x / 256 * 256 + y := by
  obtain ⟨n, rfl, hn⟩ := nat_of h
  obtain ⟨m, rfl, hm⟩ := nat_of (x := y) ⟨hy.1, by omega⟩
  have hm2 : m < 256 := by omega
  have e1 : (n : Int) / 256 * 256 = ((2 ^ 8 * (n / 256) : Nat) : Int) := by omega
  have hl : 2 ^ 8 * (n / 256) < 4294967296 := by omega
  rw [e1, bits_or hl hm, ← Nat.two_pow_add_eq_or_of_lt (show m < 2 ^ 8 from hm2)]
  omega
theorem low_is {b : Int} (h : Wd b) : Go.bits .or .u32 (Go.bits .andNot .u32 b 255) (Go.bits .and .u32 b 7) = b / 256 * 256 + b % 8 := by
  rw [andNot_is h, and7_is h, or_is h (by omega)]
theorem at_is {b a : Int} (h : Wd b) (ha : Wd a) : Go.bits .or .u32 (Go.bits .andNot .u32 b 255) (Go.bits .and .u32 a 255) = b / 256 * 256 + a % 256 := by
  rw [andNot_is h, and255_is ha, or_is h (by omega)]
theorem fit_is {h l : Nat → Int} {a s : Int} (hh : ∀ i, Wd (h i)) (hl : ∀ i, Wd (l i)) (ha : Wd a) (hs : Wd s) (k : Nat) : fitP h l a s k = fitR h l a s k := by
  unfold fitP fitR
  rw [andNot_is (hh k), andNot_is ha, and1_is (hl k), and255_is (hh k), and255_is hs]
  congr 1
  · rw [Bool.eq_iff_iff, beq_iff_eq, beq_iff_eq]; omega
  · congr 1
    rw [Bool.eq_iff_iff, bne_iff_ne, beq_iff_eq]; have := (hl k).1; omega
theorem first_congr {f g : Nat → Bool} (h : ∀ k, f k = g k) (d : Nat) : ∀ k, firstN f k d = firstN g k d := by
  have : f = g := funext h
  rw [this]; intro _; rfl
theorem first_cases (f : Nat → Bool) (d : Nat) : ∀ k, (firstN f k d = -1 ∧ ∀ j, k ≤ j → j < k + d → f j = false) ∨ ∃ m : Nat, k ≤ m ∧ m < k + d ∧ firstN f k d = (m : Int) ∧ f m = true ∧ ∀ j, k ≤ j → j < m → f j = false := by
  induction d with
  | zero => intro k; exact .inl ⟨rfl, fun j a b => by omega⟩
  | succ d ih =>
    intro k
    show (((if f k = true then (k : Int) else firstN f (k + 1) d) = -1 ∧ _) ∨ ∃ m : Nat, _ ∧ _ ∧ (if f k = true then (k : Int) else firstN f (k + 1) d) = (m : Int) ∧ _)
    by_cases c : f k = true
    · rw [if_pos c]
      exact .inr ⟨k, by omega, by omega, rfl, c, fun j a b => by omega⟩
    · rw [if_neg c]
      have c' : f k = false := by simpa using c
      rcases ih (k + 1) with ⟨e, q⟩ | ⟨m, h1, h2, e, q, q2⟩
      · refine .inl ⟨e, fun j a b => ?_⟩
        by_cases hj : j = k
        · subst hj; exact c'
        · exact q j (by omega) (by omega)
      · refine .inr ⟨m, by omega, by omega, e, q, fun j a b => ?_⟩
        by_cases hj : j = k
        · subst hj; exact c'
        · exact q2 j (by omega) b
end Go.Proofs.Ytngebimnahojlaa.Num
