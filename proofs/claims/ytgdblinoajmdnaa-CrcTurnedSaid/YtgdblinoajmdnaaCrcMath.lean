/- The plain law of the sixteen-bit sums: the shift register as a function on natural numbers, that it is linear and loses nothing, and that the program's step is eight of its steps. No program here. -/
import Derived.WalkKit
namespace Go.Proofs.Ytgdblinoajmdnaa.CrcMath

/-- One shift of the register. -/
def T (n : Nat) : Nat := (n * 2 % 65536) ^^^ (if n ≥ 32768 then 4129 else 0)
/-- Eight of them. -/
def F (n : Nat) : Nat := T (T (T (T (T (T (T (T n)))))))
/-- The program's step. -/
def P (c b : Nat) : Nat :=
  let s := (c * 256 % 65536 ||| c / 256) ^^^ b
  let s1 := s ^^^ ((s &&& 255) / 16)
  let s2 := s1 ^^^ (s1 * 4096 % 65536)
  s2 ^^^ ((s2 &&& 255) * 32 % 65536)

theorem xor_lt {a b : Nat} (ha : a < 65536) (hb : b < 65536) : a ^^^ b < 65536 := Nat.xor_lt_two_pow (n := 16) ha hb

theorem T_lt (n : Nat) : T n < 65536 := by
  unfold T
  exact xor_lt (by omega) (by split <;> omega)
theorem F_lt (n : Nat) : F n < 65536 := T_lt _

theorem xor_split {a b x y : Nat} (hx : x < 256) (hy : y < 256) : (256 * a + x) ^^^ (256 * b + y) = 256 * (a ^^^ b) + (x ^^^ y) := by
  have h1 : ((256 * a + x) ^^^ (256 * b + y)) / 2 ^ 8 = a ^^^ b := by
    rw [Nat.xor_div_two_pow]; congr 1 <;> omega
  have h2 : ((256 * a + x) ^^^ (256 * b + y)) % 2 ^ 8 = x ^^^ y := by
    rw [Nat.xor_mod_two_pow]; congr 1 <;> omega
  omega

theorem or_split {a x : Nat} (hx : x < 256) : (256 * a ||| x) = 256 * a + x := by
  have := Nat.two_pow_add_eq_or_of_lt (i := 8) (b := x) (by omega) a
  exact this.symm

theorem high_xor {a b : Nat} (ha : a < 65536) (hb : b < 65536) : (a ^^^ b ≥ 32768) ↔ ¬((a ≥ 32768) ↔ (b ≥ 32768)) := by
  have h := xor_lt ha hb
  have h1 : (a ^^^ b) / 2 ^ 15 = a / 2 ^ 15 ^^^ b / 2 ^ 15 := Nat.xor_div_two_pow ..
  by_cases c : a ≥ 32768 <;> by_cases d : b ≥ 32768
  · have e1 : a / 2 ^ 15 = 1 := by omega
    have e2 : b / 2 ^ 15 = 1 := by omega
    rw [e1, e2] at h1
    have : (1 ^^^ 1 : Nat) = 0 := rfl
    omega
  · have e1 : a / 2 ^ 15 = 1 := by omega
    have e2 : b / 2 ^ 15 = 0 := by omega
    rw [e1, e2] at h1
    have : (1 ^^^ 0 : Nat) = 1 := rfl
    omega
  · have e1 : a / 2 ^ 15 = 0 := by omega
    have e2 : b / 2 ^ 15 = 1 := by omega
    rw [e1, e2] at h1
    have : (0 ^^^ 1 : Nat) = 1 := rfl
    omega
  · have e1 : a / 2 ^ 15 = 0 := by omega
    have e2 : b / 2 ^ 15 = 0 := by omega
    rw [e1, e2] at h1
    have : (0 ^^^ 0 : Nat) = 0 := rfl
    omega

theorem dbl_xor (a b : Nat) : (a ^^^ b) * 2 % 65536 = (a * 2 % 65536) ^^^ (b * 2 % 65536) := by
  have h : (a ^^^ b) * 2 = (a * 2) ^^^ (b * 2) := by
    have := Nat.shiftLeft_xor_distrib (a := a) (b := b) (i := 1)
    simpa [Nat.shiftLeft_eq] using this
  rw [h]
  exact Nat.xor_mod_two_pow (n := 16) ..

theorem T_xor {a b : Nat} (ha : a < 65536) (hb : b < 65536) : T (a ^^^ b) = T a ^^^ T b := by
  unfold T
  rw [dbl_xor]
  have h := high_xor ha hb
  by_cases c : a ≥ 32768 <;> by_cases d : b ≥ 32768
  · rw [if_neg (by rw [h]; simp [c, d]), if_pos c, if_pos d]
    rw [Nat.xor_assoc, Nat.xor_assoc]
    congr 1
    rw [← Nat.xor_assoc, Nat.xor_comm 4129, Nat.xor_assoc, Nat.xor_self]
  · rw [if_pos (by rw [h]; simp [c, d]), if_pos c, if_neg d]
    rw [Nat.xor_assoc, Nat.xor_assoc]
    congr 1
    rw [Nat.xor_comm, Nat.xor_zero]
  · rw [if_pos (by rw [h]; simp [c, d]), if_neg c, if_pos d]
    rw [Nat.xor_assoc, Nat.xor_assoc]
    congr 1
    rw [Nat.zero_xor]
  · rw [if_neg (by rw [h]; simp [c, d]), if_neg c, if_neg d]
    simp

theorem F_xor {a b : Nat} (ha : a < 65536) (hb : b < 65536) : F (a ^^^ b) = F a ^^^ F b := by
  unfold F
  rw [T_xor ha hb]
  repeat rw [T_xor (T_lt _) (T_lt _)]

theorem eq_of_xor {a b : Nat} (h : a ^^^ b = 0) : a = b := by
  have : a ^^^ b ^^^ b = b := by rw [h, Nat.zero_xor]
  rwa [Nat.xor_assoc, Nat.xor_self, Nat.xor_zero] at this

theorem T_zero {n : Nat} (hn : n < 65536) (h : T n = 0) : n = 0 := by
  unfold T at h
  have := eq_of_xor h
  split at this <;> omega

theorem T_inj {a b : Nat} (ha : a < 65536) (hb : b < 65536) (h : T a = T b) : a = b := by
  apply eq_of_xor
  apply T_zero (xor_lt ha hb)
  rw [T_xor ha hb, h, Nat.xor_self]

theorem F_inj {a b : Nat} (ha : a < 65536) (hb : b < 65536) (h : F a = F b) : a = b := by
  unfold F at h
  exact T_inj ha hb (T_inj (T_lt _) (T_lt _) (T_inj (T_lt _) (T_lt _) (T_inj (T_lt _) (T_lt _) (T_inj (T_lt _) (T_lt _) (T_inj (T_lt _) (T_lt _) (T_inj (T_lt _) (T_lt _) (T_inj (T_lt _) (T_lt _) h)))))))

theorem F_zero : F 0 = 0 := by decide

theorem F_small : ∀ l, l < 256 → F l = l * 256 := by decide +kernel

theorem mul_xor (k a b : Nat) : (a ^^^ b) * 2 ^ k % 65536 = (a * 2 ^ k % 65536) ^^^ (b * 2 ^ k % 65536) := by
  have h : (a ^^^ b) * 2 ^ k = (a * 2 ^ k) ^^^ (b * 2 ^ k) := by
    have := Nat.shiftLeft_xor_distrib (a := a) (b := b) (i := k)
    simpa [Nat.shiftLeft_eq] using this
  rw [h]
  exact Nat.xor_mod_two_pow (n := 16) ..
theorem xor_swap (a b c d : Nat) : (a ^^^ b) ^^^ (c ^^^ d) = (a ^^^ c) ^^^ (b ^^^ d) := by
  rw [Nat.xor_assoc, Nat.xor_assoc, ← Nat.xor_assoc b, Nat.xor_comm b c, Nat.xor_assoc]
def G1 (s : Nat) : Nat := s ^^^ ((s &&& 255) / 16)
def G2 (s : Nat) : Nat := s ^^^ (s * 4096 % 65536)
def G3 (s : Nat) : Nat := s ^^^ ((s &&& 255) * 32 % 65536)
theorem G1_xor (a b : Nat) : G1 (a ^^^ b) = G1 a ^^^ G1 b := by
  have h : ((a ^^^ b) &&& 255) / 16 = ((a &&& 255) / 16) ^^^ ((b &&& 255) / 16) := by
    rw [Nat.and_xor_distrib_right]
    exact Nat.xor_div_two_pow (n := 4) ..
  unfold G1
  rw [h, xor_swap]
theorem G2_xor (a b : Nat) : G2 (a ^^^ b) = G2 a ^^^ G2 b := by
  unfold G2
  rw [mul_xor 12, xor_swap]
theorem G3_xor (a b : Nat) : G3 (a ^^^ b) = G3 a ^^^ G3 b := by
  unfold G3
  rw [Nat.and_xor_distrib_right, mul_xor 5, xor_swap]
def G (s : Nat) : Nat := G3 (G2 (G1 s))
theorem G_xor (a b : Nat) : G (a ^^^ b) = G a ^^^ G b := by
  unfold G
  rw [G1_xor, G2_xor, G3_xor]
theorem P_G (c b : Nat) : P c b = G ((c * 256 % 65536 ||| c / 256) ^^^ b) := rfl
theorem G_low : ∀ h, h < 256 → G h = F (256 * h) := by decide +kernel
theorem G_high : ∀ l, l < 256 → G (256 * l) = 256 * l := by decide +kernel
theorem plain_xor {h l : Nat} (hl : l < 256) : 256 * h + l = (256 * h) ^^^ l := by
  have := xor_split (a := h) (b := 0) (x := 0) (y := l) (by omega) hl
  simpa using this.symm
theorem G_is {h l : Nat} (hh : h < 256) (hl : l < 256) : G (256 * l + h) = F (256 * h + l) := by
  rw [plain_xor hh, plain_xor hl, G_xor, F_xor (by omega) (by omega), G_low _ hh, G_high _ hl, F_small _ hl, Nat.mul_comm l, Nat.xor_comm]
theorem P_is {c b : Nat} (hc : c < 65536) (hb : b < 256) : P c b = F (c ^^^ (b * 256)) := by
  have e : c ^^^ (b * 256) = 256 * (c / 256 ^^^ b) + c % 256 := by
    have := xor_split (a := c / 256) (b := b) (x := c % 256) (y := 0) (by omega) (by omega)
    rw [Nat.xor_zero] at this
    rw [← this]; congr 1 <;> omega
  have hx : c / 256 ^^^ b < 256 := Nat.xor_lt_two_pow (n := 8) (by omega) (by omega)
  rw [e, ← G_is hx (by omega), P_G]
  have h1 : c * 256 % 65536 = 256 * (c % 256) := by omega
  rw [h1, or_split (by omega)]
  have := xor_split (a := c % 256) (b := 0) (x := c / 256) (y := b) (by omega) (by omega)
  rw [Nat.xor_zero, Nat.mul_zero, Nat.zero_add] at this
  rw [this]

/-- The sum of bytes, begun anyhow. -/
def onL (c : Nat) : List UInt8 → Nat
  | [] => c
  | b :: r => onL (F (c ^^^ (b.toNat * 256))) r

theorem b_lt (b : UInt8) : b.toNat * 256 < 65536 := by have := b.toNat_lt; omega

theorem onL_lt {c : Nat} (hc : c < 65536) (l : List UInt8) : onL c l < 65536 := by
  induction l generalizing c with
  | nil => exact hc
  | cons b r ih => exact ih (F_lt _)

theorem onL_append (c : Nat) (l r : List UInt8) : onL c (l ++ r) = onL (onL c l) r := by
  induction l generalizing c with
  | nil => rfl
  | cons b l ih => exact ih _

theorem onL_inj {a b : Nat} (ha : a < 65536) (hb : b < 65536) (l : List UInt8) (h : onL a l = onL b l) : a = b := by
  induction l generalizing a b with
  | nil => exact h
  | cons x r ih =>
    have h1 := F_inj (xor_lt ha (b_lt x)) (xor_lt hb (b_lt x)) (ih (F_lt _) (F_lt _) h)
    have h2 : a ^^^ (x.toNat * 256) ^^^ (x.toNat * 256) = b ^^^ (x.toNat * 256) ^^^ (x.toNat * 256) := by rw [h1]
    rwa [Nat.xor_assoc, Nat.xor_self, Nat.xor_zero, Nat.xor_assoc, Nat.xor_self, Nat.xor_zero] at h2

/-- A text and two bytes behind it: the sum is 0 just if the two are the text's own. -/
theorem onL_two {c : Nat} (hc : c < 65536) (x y : UInt8) : onL c [x, y] = 0 ↔ x.toNat = c / 256 ∧ y.toNat = c % 256 := by
  have hx := x.toNat_lt
  have hy := y.toNat_lt
  have e : c ^^^ (x.toNat * 256) = 256 * (c / 256 ^^^ x.toNat) + c % 256 := by
    have := xor_split (a := c / 256) (b := x.toNat) (x := c % 256) (y := 0) (by omega) (by omega)
    rw [Nat.xor_zero] at this
    rw [← this]; congr 1 <;> omega
  show F (F (c ^^^ (x.toNat * 256)) ^^^ (y.toNat * 256)) = 0 ↔ _
  constructor
  · intro h
    have h1 := F_inj (xor_lt (F_lt _) (b_lt y)) (show 0 < 65536 by omega) (h.trans F_zero.symm)
    have h2 := eq_of_xor h1
    clear h1
    rw [← F_small y.toNat (by omega)] at h2
    have h3 := F_inj (xor_lt hc (b_lt x)) (show y.toNat < 65536 by omega) h2
    rw [e] at h3
    have h4 : c / 256 ^^^ x.toNat = 0 := by omega
    have := eq_of_xor h4
    omega
  · rintro ⟨h1, h2⟩
    rw [e, ← h1, Nat.xor_self, Nat.mul_zero, Nat.zero_add, ← h2, F_small y.toNat (by omega), Nat.xor_self]
    exact F_zero

theorem u16_range {n : Int} (h : (Lit.int .u16 n).wf = true) : 0 ≤ n ∧ n ≤ 65535 := by
  simp [Lit.wf, IntKind.min, IntKind.max, IntKind.signed, IntKind.bits] at h
  omega

/-! ### The program's words -/
theorem bits_xor {a b : Nat} (ha : a < 65536) (hb : b < 65536) : Go.bits .xor .u16 (a : Int) (b : Int) = ((a ^^^ b : Nat) : Int) := by
  have h := xor_lt ha hb
  simp only [Go.bits, BitVec.ofInt_natCast]
  rw [BitVec.toNat_xor, BitVec.toNat_ofNat, BitVec.toNat_ofNat]
  show IntKind.u16.wrap (((a % 65536) ^^^ (b % 65536) : Nat) : Int) = _
  rw [Nat.mod_eq_of_lt ha, Nat.mod_eq_of_lt hb, IntKind.wrap_u16]
  omega
theorem bits_or {a b : Nat} (ha : a < 65536) (hb : b < 65536) : Go.bits .or .u16 (a : Int) (b : Int) = ((a ||| b : Nat) : Int) := by
  have h : a ||| b < 65536 := Nat.or_lt_two_pow (n := 16) ha hb
  simp only [Go.bits, BitVec.ofInt_natCast]
  rw [BitVec.toNat_or, BitVec.toNat_ofNat, BitVec.toNat_ofNat]
  show IntKind.u16.wrap (((a % 65536) ||| (b % 65536) : Nat) : Int) = _
  rw [Nat.mod_eq_of_lt ha, Nat.mod_eq_of_lt hb, IntKind.wrap_u16]
  omega
theorem bits_and {a b : Nat} (ha : a < 65536) (hb : b < 65536) : Go.bits .and .u16 (a : Int) (b : Int) = ((a &&& b : Nat) : Int) := by
  have h : a &&& b < 65536 := Nat.and_lt_two_pow (n := 16) a hb
  simp only [Go.bits, BitVec.ofInt_natCast]
  rw [BitVec.toNat_and, BitVec.toNat_ofNat, BitVec.toNat_ofNat]
  show IntKind.u16.wrap (((a % 65536) &&& (b % 65536) : Nat) : Int) = _
  rw [Nat.mod_eq_of_lt ha, Nat.mod_eq_of_lt hb, IntKind.wrap_u16]
  omega

/-- The step as it is printed. -/
def stepI (x0 b : Int) : Int :=
  (Go.bits .xor .u16 (Go.bits .xor .u16 (Go.bits .xor .u16 (Go.bits .xor .u16 (Go.bits .or .u16 (IntKind.u16.wrap (x0 * 256)) (x0 / 256)) (IntKind.u16.wrap b)) ((Go.bits .and .u16 (Go.bits .xor .u16 (Go.bits .or .u16 (IntKind.u16.wrap (x0 * 256)) (x0 / 256)) (IntKind.u16.wrap b)) 255) / 16)) (IntKind.u16.wrap ((Go.bits .xor .u16 (Go.bits .xor .u16 (Go.bits .or .u16 (IntKind.u16.wrap (x0 * 256)) (x0 / 256)) (IntKind.u16.wrap b)) ((Go.bits .and .u16 (Go.bits .xor .u16 (Go.bits .or .u16 (IntKind.u16.wrap (x0 * 256)) (x0 / 256)) (IntKind.u16.wrap b)) 255) / 16)) * 4096))) (IntKind.u16.wrap ((Go.bits .and .u16 (Go.bits .xor .u16 (Go.bits .xor .u16 (Go.bits .xor .u16 (Go.bits .or .u16 (IntKind.u16.wrap (x0 * 256)) (x0 / 256)) (IntKind.u16.wrap b)) ((Go.bits .and .u16 (Go.bits .xor .u16 (Go.bits .or .u16 (IntKind.u16.wrap (x0 * 256)) (x0 / 256)) (IntKind.u16.wrap b)) 255) / 16)) (IntKind.u16.wrap ((Go.bits .xor .u16 (Go.bits .xor .u16 (Go.bits .or .u16 (IntKind.u16.wrap (x0 * 256)) (x0 / 256)) (IntKind.u16.wrap b)) ((Go.bits .and .u16 (Go.bits .xor .u16 (Go.bits .or .u16 (IntKind.u16.wrap (x0 * 256)) (x0 / 256)) (IntKind.u16.wrap b)) 255) / 16)) * 4096))) 255) * 32)))

theorem wrap_nat (n : Nat) : IntKind.u16.wrap (n : Int) = ((n % 65536 : Nat) : Int) := by rw [IntKind.wrap_u16]; omega

theorem step_is {c b : Nat} (hc : c < 65536) (hb : b < 256) : stepI (c : Int) (b : Int) = ((F (c ^^^ (b * 256)) : Nat) : Int) := by
  rw [← P_is hc hb]
  have hl : ∀ {x y : Nat}, x < 65536 → y < 65536 → x ^^^ y < 65536 := xor_lt
  have w1 : IntKind.u16.wrap ((c : Int) * 256) = ((c * 256 % 65536 : Nat) : Int) := wrap_nat (c * 256)
  have w2 : (c : Int) / 256 = ((c / 256 : Nat) : Int) := by omega
  have w3 : IntKind.u16.wrap (b : Int) = (b : Int) := by rw [wrap_nat]; omega
  have o1 : (c * 256 % 65536 ||| c / 256) < 65536 := Nat.or_lt_two_pow (n := 16) (by omega) (by omega)
  unfold stepI
  rw [w1, w2, w3, bits_or (by omega) (by omega), bits_xor o1 (by omega)]
  have s0 := hl o1 (show b < 65536 by omega)
  unfold P
  generalize (c * 256 % 65536 ||| c / 256) ^^^ b = s at s0 ⊢
  have a1 : s &&& 255 < 65536 := Nat.and_lt_two_pow (n := 16) s (by omega)
  have c255 : (255 : Int) = ((255 : Nat) : Int) := rfl
  rw [c255, bits_and s0 (by omega)]
  have d16 : ((s &&& 255 : Nat) : Int) / 16 = (((s &&& 255) / 16 : Nat) : Int) := by omega
  rw [d16, bits_xor s0 (by omega)]
  have s1 := hl s0 (show (s &&& 255) / 16 < 65536 by omega)
  dsimp only
  generalize s ^^^ ((s &&& 255) / 16) = t at s1 ⊢
  have m1 : IntKind.u16.wrap ((t : Int) * 4096) = ((t * 4096 % 65536 : Nat) : Int) := wrap_nat (t * 4096)
  rw [m1, bits_xor s1 (by omega)]
  have s2 := hl s1 (show t * 4096 % 65536 < 65536 by omega)
  generalize t ^^^ (t * 4096 % 65536) = u at s2 ⊢
  have a2 : u &&& 255 < 65536 := Nat.and_lt_two_pow (n := 16) u (by omega)
  rw [bits_and s2 (by omega)]
  have m2 : IntKind.u16.wrap (((u &&& 255 : Nat) : Int) * 32) = (((u &&& 255) * 32 % 65536 : Nat) : Int) := wrap_nat ((u &&& 255) * 32)
  rw [m2, bits_xor s2 (by omega)]
end Go.Proofs.Ytgdblinoajmdnaa.CrcMath
