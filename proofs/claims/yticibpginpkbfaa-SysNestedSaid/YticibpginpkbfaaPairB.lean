/- What the program's Tick, Pending, User and Raise answer, and what the document's answer to the same: the same words. Conditions: each register and each word is below 2^32. -/
import Derived.Test.YticibpginpkbfaaPairA
import Derived.Test.YticibpginpkbfaaFunI
import Derived.Test.YticibpginpkbfaaFunJ
namespace Go.Proofs.Yticibpginpkbfaa.Pair
open Go.RowKit Go.Proofs.Yticibpginpkbfaa.Fun Go.Proofs.Yticibpginpkbfaa.Bits Go.Proofs.Yticibpginpkbfaa.Con Go.Proofs.Yticibpginpkbfaa.Same Go.Proofs.YticibpginpkbfaaW.PrintWords Go.Proofs.YticibpginpkbfaaW.PrintLast Go.Proofs.YticibpginpkbfaaW.PrintMore
set_option linter.unusedVariables false
set_option linter.unusedSimpArgs false

/-! ### User, Pending -/
theorem and18 (x : Nat) : (x &&& 18 = 16) ↔ (x.testBit 4 = true ∧ x.testBit 1 = false) := by
  constructor
  · intro h
    have h4 : (x &&& 18).testBit 4 = true := by rw [h]; decide
    have h1 : (x &&& 18).testBit 1 = false := by rw [h]; decide
    rw [Nat.testBit_and] at h4 h1
    rw [show Nat.testBit 18 4 = true by decide, Bool.and_true] at h4
    rw [show Nat.testBit 18 1 = true by decide, Bool.and_true] at h1
    exact ⟨h4, h1⟩
  · rintro ⟨h4, h1⟩
    apply Nat.eq_of_testBit_eq
    intro i
    rw [Nat.testBit_and]
    by_cases a : i = 4
    · subst a; rw [h4]; decide
    · by_cases b : i = 1
      · subst b; rw [h1]; decide
      · by_cases c : i < 5
        · have : i = 0 ∨ i = 2 ∨ i = 3 := by omega
          rcases this with rfl | rfl | rfl <;> simp [show Nat.testBit 18 0 = false by decide, show Nat.testBit 18 2 = false by decide, show Nat.testBit 18 3 = false by decide, show Nat.testBit 16 0 = false by decide, show Nat.testBit 16 2 = false by decide, show Nat.testBit 16 3 = false by decide]
        · have hp : 2 ^ 5 ≤ 2 ^ i := Nat.pow_le_pow_right (by omega) (by omega)
          rw [Nat.testBit_lt_two_pow (show 18 < 2 ^ i by omega), Nat.testBit_lt_two_pow (show 16 < 2 ^ i by omega), Bool.and_false]
theorem user_pair (c0 c1 c2 c3 c4 c5 c6 c7 c8 : Nat) (h : Words c0 c1 c2 c3 c4 c5 c6 c7 c8) : ∃ b : Bool, Both 24 25 #[regs c0 c1 c2 c3 c4 c5 c6 c7 c8] (.bool b) := by
  obtain ⟨h0, h1, h2, h3, h4, h5, h6, h7, h8⟩ := h
  refine ⟨c6.testBit 4 && !c6.testBit 1, fun w => ?_, fun w => zoetroperef08_User.calls _ _ _ _ _ _ _ _ _ _ w ?_⟩
  · have q := user_raw c0 c1 c2 c3 c4 c5 c6 c7 c8 w
    have e1 : Go.bits .and .u32 (c6 : Int) 18 = ((c6 &&& 18 : Nat) : Int) := bits_and h6 (b := 18) (by omega)
    have e2 : (((c6 &&& 18 : Nat) : Int) == 16) = (c6.testBit 4 && !c6.testBit 1) := by
      rw [Bool.eq_iff_iff, beq_iff_eq, Bool.and_eq_true, Bool.not_eq_true', ← and18]
      omega
    rw [e1, e2] at q
    exact q.mono fun e w' q => ⟨q.1, below1 q.2⟩
  · unfold zoetroperef08_User.f
    have e4 : zoetroperef08_Bit.f (c6 : Int) 4 = some (c6.testBit 4) := bit_is h6 (n := 4) (by omega)
    have e1 : zoetroperef08_Bit.f (c6 : Int) 1 = some (c6.testBit 1) := bit_is h6 (n := 1) (by omega)
    rw [e4, e1]
    cases c6.testBit 4 <;> cases c6.testBit 1 <;> rfl
/-- Do two words have a bit of theirs in common, from n on, d bits? -/
def anyN (x y n : Nat) : Nat → Bool
  | 0 => false
  | d + 1 => (x.testBit n && y.testBit n) || anyN x y (n + 1) d
theorem any_is (x y : Nat) (d : Nat) : ∀ n, anyN x y n d = true ↔ ∃ i, n ≤ i ∧ i < n + d ∧ x.testBit i = true ∧ y.testBit i = true := by
  induction d with
  | zero => intro n; constructor
            · intro h; cases h
            · rintro ⟨i, a, b, _⟩; omega
  | succ d ih =>
    intro n
    unfold anyN
    rw [Bool.or_eq_true, Bool.and_eq_true, ih]
    constructor
    · rintro (⟨a, b⟩ | ⟨i, a, b, c⟩)
      · exact ⟨n, by omega, by omega, a, b⟩
      · exact ⟨i, by omega, by omega, c⟩
    · rintro ⟨i, a, b, c, e⟩
      by_cases h : i = n
      · subst h; exact .inl ⟨c, e⟩
      · exact .inr ⟨i, by omega, by omega, c, e⟩
theorem pend_l0 {c6 c7 : Nat} (h6 : c6 < 4294967296) (h7 : c7 < 4294967296) (c0 c1 c2 c3 c4 c5 c8 : Int) (d : Nat) : ∀ (n k : Nat) (any : Bool), n + d = 16 → d < k →
    zoetroperef08_Pending.l0 k any (n : Int) c0 c1 c2 c3 c4 c5 (c6 : Int) (c7 : Int) c8 = some ((any || anyN c6 c7 n d) && (c6.testBit 0 && !c6.testBit 1)) := by
  induction d with
  | zero =>
    intro n k any hn hk
    obtain ⟨k, rfl⟩ : ∃ m, k = m + 1 := ⟨k - 1, by omega⟩
    simp only [zoetroperef08_Pending.l0]
    have e0 : zoetroperef08_Bit.f (c6 : Int) 0 = some (c6.testBit 0) := bit_is h6 (n := 0) (by omega)
    have e1 : zoetroperef08_Bit.f (c6 : Int) 1 = some (c6.testBit 1) := bit_is h6 (n := 1) (by omega)
    rw [if_neg (by omega), e0, e1]
    cases any <;> cases c6.testBit 0 <;> cases c6.testBit 1 <;> rfl
  | succ d ih =>
    intro n k any hn hk
    obtain ⟨k, rfl⟩ : ∃ m, k = m + 1 := ⟨k - 1, by omega⟩
    simp only [zoetroperef08_Pending.l0]
    have hw1 : wrap64 ((n : Int) + 1) = ((n + 1 : Nat) : Int) := by unfold wrap64; omega
    rw [if_pos (by omega), bit_is h6 (by omega), bit_is h7 (by omega), hw1, ih _ _ _ (by omega) (by omega), ih _ _ _ (by omega) (by omega)]
    simp only [Option.bind_some]
    rw [ih _ _ _ (by omega) (by omega)]
    show _ = some ((any || ((c6.testBit n && c7.testBit n) || anyN c6 c7 (n + 1) d)) && _)
    cases any <;> cases c6.testBit n <;> cases c7.testBit n <;> simp
theorem and3 (x : Nat) : (x &&& 3 = 1) ↔ (x.testBit 0 = true ∧ x.testBit 1 = false) := by
  rw [show x &&& 3 = x % 4 from Nat.and_two_pow_sub_one_eq_mod x 2, Nat.testBit_eq_decide_div_mod_eq, Nat.testBit_eq_decide_div_mod_eq]
  simp only [decide_eq_true_eq, decide_eq_false_iff_not]
  omega
theorem common (x y : Nat) : (x &&& y) / 256 &&& 255 ≠ 0 ↔ anyN x y 8 8 = true := by
  rw [any_is]
  constructor
  · intro h
    obtain ⟨i, hi⟩ := Nat.exists_testBit_of_ne_zero h
    rw [Nat.testBit_and, Bool.and_eq_true, show (x &&& y) / 256 = (x &&& y) / 2 ^ 8 by rfl, Nat.testBit_div_two_pow, Nat.testBit_and, Bool.and_eq_true] at hi
    have hi8 : i < 8 := by
      by_cases c : i < 8
      · exact c
      · have hp : 2 ^ 8 ≤ 2 ^ i := Nat.pow_le_pow_right (by omega) (by omega)
        have := Nat.testBit_lt_two_pow (show 255 < 2 ^ i by omega)
        rw [this] at hi
        exact absurd hi.2 (by simp)
    exact ⟨i + 8, by omega, by omega, hi.1.1, hi.1.2⟩
  · rintro ⟨i, a, b, hx, hy⟩ h0
    have ht : ((x &&& y) / 256 &&& 255).testBit (i - 8) = true := by
      rw [Nat.testBit_and, show (x &&& y) / 256 = (x &&& y) / 2 ^ 8 by rfl, Nat.testBit_div_two_pow, Nat.testBit_and, show i - 8 + 8 = i by omega, hx, hy]
      have : ∀ j, j < 8 → Nat.testBit 255 j = true := by decide
      rw [this _ (by omega)]; rfl
    rw [h0, Nat.zero_testBit] at ht
    exact absurd ht (by simp)
theorem pend_pair (c0 c1 c2 c3 c4 c5 c6 c7 c8 : Nat) (h : Words c0 c1 c2 c3 c4 c5 c6 c7 c8) : ∃ b : Bool, Both 22 23 #[regs c0 c1 c2 c3 c4 c5 c6 c7 c8] (.bool b) := by
  obtain ⟨h0, h1, h2, h3, h4, h5, h6, h7, h8⟩ := h
  refine ⟨(false || anyN c6 c7 8 8) && (c6.testBit 0 && !c6.testBit 1), fun w => ?_, fun w => zoetroperef08_Pending.calls 9 _ _ _ _ _ _ _ _ _ _ w ?_⟩
  · have q := pend_raw c0 c1 c2 c3 c4 c5 c6 c7 c8 w
    have e1 : Go.bits .and .u32 (c6 : Int) 3 = ((c6 &&& 3 : Nat) : Int) := bits_and h6 (b := 3) (by omega)
    have e2 : Go.bits .and .u32 (c6 : Int) (c7 : Int) = ((c6 &&& c7 : Nat) : Int) := bits_and h6 h7
    have e3 : (((c6 &&& c7 : Nat) : Int) / 256) = (((c6 &&& c7) / 256 : Nat) : Int) := rfl
    have hl : (c6 &&& c7) / 256 < 4294967296 := Nat.lt_of_le_of_lt (Nat.div_le_self _ _) (and_lt h7)
    have e4 : Go.bits .and .u32 (((c6 &&& c7) / 256 : Nat) : Int) 255 = (((c6 &&& c7) / 256 &&& 255 : Nat) : Int) := bits_and hl (b := 255) (by omega)
    have e5 : ((((c6 &&& c7) / 256 &&& 255 : Nat) : Int) != 0) = anyN c6 c7 8 8 := by
      rw [Bool.eq_iff_iff, bne_iff_ne, ← common]
      omega
    have e6 : (((c6 &&& 3 : Nat) : Int) == 1) = (c6.testBit 0 && !c6.testBit 1) := by
      rw [Bool.eq_iff_iff, beq_iff_eq, Bool.and_eq_true, Bool.not_eq_true', ← and3]
      omega
    rw [e1, e2, e3, e4, e5, e6] at q
    refine q.mono fun e w' q => ⟨?_, below1 q.2⟩
    rw [q.1]
    cases anyN c6 c7 8 8 <;> cases (c6.testBit 0 && !c6.testBit 1) <;> rfl
  · unfold zoetroperef08_Pending.f
    exact pend_l0 h6 h7 _ _ _ _ _ _ _ 8 8 9 false (by omega) (by omega)

/-! ### Tick -/
/-- The bits of lines, put in from 10 + n on. -/
def lineN (w l n : Nat) : Nat → Nat
  | 0 => w
  | d + 1 => lineN (withN w (10 + n) (l.testBit n)) l (n + 1) d
theorem test_line (l : Nat) (d : Nat) : ∀ w n i : Nat, (lineN w l n d).testBit i = if 10 + n ≤ i ∧ i < 10 + n + d then l.testBit (i - 10) else w.testBit i := by
  induction d with
  | zero => intro w n i; rw [if_neg (by omega)]; rfl
  | succ d ih =>
    intro w n i
    unfold lineN
    rw [ih, test_with]
    by_cases h : i = 10 + n
    · subst h; rw [if_neg (by omega), if_pos rfl, if_pos (by omega)]; congr 1; omega
    · by_cases h2 : 10 + n ≤ i ∧ i < 10 + n + (d + 1)
      · rw [if_pos (by omega), if_pos h2]
      · rw [if_neg (by omega), if_neg h2, if_neg h]
theorem tick_l0 {l : Nat} (hl : l < 4294967296) (c0 c1 c2 c3 c4 c5 c6 c8 : Int) (d : Nat) : ∀ (n k c7 : Nat), c7 < 4294967296 → n + d = 5 → d < k →
    zoetroperef08_Tick.l0 k (l : Int) (n : Int) c0 c1 c2 c3 c4 c5 c6 (c7 : Int) c8 = some (c0, c1, c2, c3, c4, c5, c6, ((lineN c7 l n d : Nat) : Int), c8) := by
  induction d with
  | zero =>
    intro n k c7 h7 hn hk
    obtain ⟨k, rfl⟩ : ∃ m, k = m + 1 := ⟨k - 1, by omega⟩
    simp only [zoetroperef08_Tick.l0]
    rw [if_neg (by omega)]
    rfl
  | succ d ih =>
    intro n k c7 h7 hn hk
    obtain ⟨k, rfl⟩ : ∃ m, k = m + 1 := ⟨k - 1, by omega⟩
    simp only [zoetroperef08_Tick.l0]
    have hw0 : wrap64 (10 + (n : Int)) = ((10 + n : Nat) : Int) := by unfold wrap64; omega
    have hw1 : wrap64 ((n : Int) + 1) = ((n + 1 : Nat) : Int) := by unfold wrap64; omega
    rw [if_pos (by omega), bit_is hl (by omega), hw0, hw1]
    simp only [Option.bind_some]
    rw [with_f h7 (by omega)]
    simp only [Option.bind_some]
    rw [ih _ _ _ (withN_lt h7 (by omega) _) (by omega) (by omega)]
    rfl
theorem tick_word {c7 l : Nat} (h7 : c7 < 4294967296) (hl : l < 4294967296) : lineN c7 l 0 5 = notN c7 31744 ||| (l * 1024 % 4294967296 &&& 31744) := by
  apply Nat.eq_of_testBit_eq
  intro i
  rw [test_line, Nat.testBit_or, test_not (by omega), Nat.testBit_and, show (4294967296 : Nat) = 2 ^ 32 from rfl, Nat.testBit_mod_two_pow, show l * 1024 = 2 ^ 10 * l by omega, Nat.testBit_two_pow_mul]
  by_cases hi : i < 32
  · rw [mLine i hi]
    by_cases hc : 10 ≤ i ∧ i < 10 + 5
    · rw [if_pos (by omega), decide_eq_true hc]
      simp [hi, hc.1]
    · rw [if_neg (by omega), decide_eq_false hc]
      simp [hi]
  · rw [if_neg (by omega), test_high h7 hi, test_high (show 31744 < 4294967296 by omega) hi]
    simp
theorem tick_ring {c7 l : Nat} (h7 : c7 < 4294967296) (hl : l < 4294967296) : lineN (withN c7 15 true) l 0 5 = lineN c7 l 0 5 ||| 32768 := by
  apply Nat.eq_of_testBit_eq
  intro i
  rw [Nat.testBit_or, test_line, test_line, test_with, show (32768 : Nat) = 2 ^ 15 from rfl, Nat.testBit_two_pow]
  by_cases hc : 10 + 0 ≤ i ∧ i < 10 + 0 + 5
  · rw [if_pos hc, if_pos hc, decide_eq_false (by omega), Bool.or_false]
  · rw [if_neg hc, if_neg hc]
    by_cases h : i = 15
    · subst h; simp
    · rw [if_neg h, decide_eq_false (by omega), Bool.or_false]
theorem count_is (c3 : Nat) (h3 : c3 < 4294967296) : (Int.tmod (wrap64 ((wrap64 ((c3 : Int))) + 1)) 4294967296) % 4294967296 = (((c3 + 1) % 4294967296 : Nat) : Int) ∧ ((c3 : Int) + 1) % 4294967296 = (((c3 + 1) % 4294967296 : Nat) : Int) := by
  have e1 : wrap64 (c3 : Int) = c3 := wrap64_nat (by omega)
  have e2 : wrap64 ((c3 : Int) + 1) = ((c3 + 1 : Nat) : Int) := by unfold wrap64; omega
  rw [e1, e2, Int.tmod_eq_emod_of_nonneg (by omega)]
  omega
theorem tick_p (c0 c1 c2 c3 c4 c5 c6 c7 c8 l n x m : Int) (b : Bool) (hc : (c3 + 1) % 4294967296 = n) (hb : (n == c5) = b) (hx : Go.bits .or .u32 (Go.bits .andNot .u32 c7 31744) (Go.bits .and .u32 (l * 1024 % 4294967296) 31744) = x) (hm : (if b = true then Go.bits .or .u32 x 32768 else x) = m) (w : World) :
    Calls Try.prog 20 #[regs c0 c1 c2 c3 c4 c5 c6 c7 c8, .int .u32 l] w fun e w' => e = .returned (regs c0 c1 c2 n c4 c5 c6 m c8) ∧ Below w.heap.size w w' := by
  have q := tick_raw c0 c1 c2 c3 c4 c5 c6 c7 c8 l w
  rw [hc, hb, hx, hm] at q
  exact q.mono fun e w' q => ⟨q.1, below2 q.2⟩
theorem tick_r (c0 c1 c2 c3 c4 c5 c6 c7 c8 l n x m : Int) (hc : (Int.tmod (wrap64 ((wrap64 (c3)) + 1)) 4294967296) % 4294967296 = n) (hx : (n = c5 ∧ zoetroperef08_With.f c7 15 true = some x) ∨ (n ≠ c5 ∧ c7 = x)) (hm : zoetroperef08_Tick.l0 6 l 0 c0 c1 c2 n c4 c5 c6 x c8 = some (c0, c1, c2, n, c4, c5, c6, m, c8)) (w : World) :
    Calls Try.prog 21 #[regs c0 c1 c2 c3 c4 c5 c6 c7 c8, .int .u32 l] w fun e w' => e = .returned (regs c0 c1 c2 n c4 c5 c6 m c8) ∧ Below w.heap.size w w' := by
  refine zoetroperef08_Tick.calls 7 _ _ _ _ _ _ _ _ _ _ _ _ _ _ _ _ _ _ _ w ?_
  unfold zoetroperef08_Tick.f
  rw [hc]
  rcases hx with ⟨h1, h2⟩ | ⟨h1, h2⟩
  · rw [if_pos h1, h2]
    simp only [Option.bind_some, zoetroperef08_Tick.j0]
    exact hm
  · rw [if_neg h1, h2]
    simp only [zoetroperef08_Tick.j0]
    exact hm
theorem tick_pair (c0 c1 c2 c3 c4 c5 c6 c7 c8 l : Nat) (h : Words c0 c1 c2 c3 c4 c5 c6 c7 c8) (hl : l < 4294967296) : ∃ m n : Nat, m < 4294967296 ∧ n < 4294967296 ∧ Both 20 21 #[regs c0 c1 c2 c3 c4 c5 c6 c7 c8, .int .u32 l] (regs c0 c1 c2 n c4 c5 c6 m c8) := by
  obtain ⟨h0, h1, h2, h3, h4, h5, h6, h7, h8⟩ := h
  obtain ⟨k1, k2⟩ := count_is c3 h3
  have hn : (c3 + 1) % 4294967296 < 4294967296 := Nat.mod_lt _ (by omega)
  generalize (c3 + 1) % 4294967296 = n at k1 k2 hn
  have e1 : Go.bits .andNot .u32 (c7 : Int) 31744 = ((notN c7 31744 : Nat) : Int) := bits_andNot h7 (b := 31744) (by omega)
  have e2 : ((l : Int) * 1024 % 4294967296) = ((l * 1024 % 4294967296 : Nat) : Int) := by omega
  have hm : l * 1024 % 4294967296 < 4294967296 := Nat.mod_lt _ (by omega)
  have e3 : Go.bits .and .u32 ((l * 1024 % 4294967296 : Nat) : Int) 31744 = ((l * 1024 % 4294967296 &&& 31744 : Nat) : Int) := bits_and hm (b := 31744) (by omega)
  have e4 : Go.bits .or .u32 ((notN c7 31744 : Nat) : Int) ((l * 1024 % 4294967296 &&& 31744 : Nat) : Int) = ((notN c7 31744 ||| (l * 1024 % 4294967296 &&& 31744) : Nat) : Int) := bits_or (notN_lt h7) (and_lt' hm)
  have ht := tick_word h7 hl
  have hx : lineN c7 l 0 5 < 4294967296 := by rw [ht]; exact or_lt (notN_lt h7) (and_lt' hm)
  have hp : Go.bits .or .u32 (Go.bits .andNot .u32 (c7 : Int) 31744) (Go.bits .and .u32 ((l : Int) * 1024 % 4294967296) 31744) = ((lineN c7 l 0 5 : Nat) : Int) := by rw [e1, e2, e3, e4, ht]
  have hr := tick_ring h7 hl
  have g1 := tick_l0 hl c0 c1 c2 n c4 c5 c6 c8 5 0 6 (withN c7 15 true) (withN_lt h7 (by omega) _) (by omega) (by omega)
  have g2 := tick_l0 hl c0 c1 c2 n c4 c5 c6 c8 5 0 6 c7 h7 (by omega) (by omega)
  rw [hr] at g1
  clear e1 e2 e3 e4 ht hr hm
  generalize lineN c7 l 0 5 = x at *
  have e5 : Go.bits .or .u32 (x : Int) 32768 = ((x ||| 32768 : Nat) : Int) := bits_or hx (b := 32768) (by omega)
  have hy : x ||| 32768 < 4294967296 := or_lt hx (by omega)
  generalize x ||| 32768 = y at *
  by_cases hc : n = c5
  · have ew : zoetroperef08_With.f (c7 : Int) 15 true = some ((withN c7 15 true : Nat) : Int) := with_f h7 (n := 15) (by omega) true
    exact ⟨y, n, hy, hn, fun w => tick_p _ _ _ _ _ _ _ _ _ _ _ _ _ true k2 (by rw [hc]; exact beq_self_eq_true _) hp (by rw [if_pos rfl]; exact e5) w, fun w => tick_r _ _ _ _ _ _ _ _ _ _ _ _ _ k1 (.inl ⟨by rw [hc], ew⟩) g1 w⟩
  · exact ⟨x, n, hx, hn, fun w => tick_p _ _ _ _ _ _ _ _ _ _ _ _ _ false k2 (by rw [beq_eq_false_iff_ne]; exact fun he => hc (Int.ofNat.inj he)) hp (by rw [if_neg (by simp)]) w, fun w => tick_r _ _ _ _ _ _ _ _ _ _ _ _ _ k1 (.inr ⟨fun he => hc (Int.ofNat.inj he), rfl⟩) g2 w⟩
end Go.Proofs.Yticibpginpkbfaa.Pair
