/- The plain law of CrcTurned: at most sixteen bits, one behind the other, turned in a text whose sum is 0: the sum is not 0 any more. No program here. -/
import Derived.Test.YtgdblinoajmdnaaHold
namespace Go.Proofs.Ytgdblinoajmdnaa.Turn
open Go.RowKit Go.Proofs.YtgdblinoajmdnaaW.PrintWords Go.Proofs.YtgdblinoajmdnaaW.PrintLast Go.Proofs.YtgdblinoajmdnaaW.PrintMore Go.Proofs.Ytgdblinoajmdnaa.CrcMath Go.Proofs.Ytgdblinoajmdnaa.Facts Go.Proofs.Ytgdblinoajmdnaa.Hold

/-- So many shifts. -/
def Tn : Nat → Nat → Nat
  | 0, x => x
  | m + 1, x => Tn m (T x)
theorem Tn_add (a b x : Nat) : Tn (a + b) x = Tn b (Tn a x) := by
  induction a generalizing x with
  | zero => rw [Nat.zero_add]; rfl
  | succ a ih => rw [Nat.succ_add]; exact ih _
theorem Tn_lt {x : Nat} (hx : x < 65536) (m : Nat) : Tn m x < 65536 := by
  induction m generalizing x with
  | zero => exact hx
  | succ m ih => exact ih (T_lt _)
theorem Tn_xor {x y : Nat} (hx : x < 65536) (hy : y < 65536) (m : Nat) : Tn m (x ^^^ y) = Tn m x ^^^ Tn m y := by
  induction m generalizing x y with
  | zero => rfl
  | succ m ih => show Tn m (T (x ^^^ y)) = _; rw [T_xor hx hy]; exact ih (T_lt _) (T_lt _)
theorem Tn_zero (m : Nat) : Tn m 0 = 0 := by
  induction m with
  | zero => rfl
  | succ m ih => exact ih
theorem Tn_none {x : Nat} (hx : x < 65536) (m : Nat) (h : Tn m x = 0) : x = 0 := by
  induction m generalizing x with
  | zero => exact h
  | succ m ih => exact T_zero hx (ih (T_lt _) h)
theorem F_Tn (x : Nat) : F x = Tn 8 x := rfl
theorem top_bit : ∀ e, e < 16 → Tn e (2 ^ (15 - e)) = 32768 := by decide +kernel
theorem bit_lt (e : Nat) : 2 ^ (15 - e) < 65536 := Nat.lt_of_le_of_lt (Nat.pow_le_pow_right (by omega) (Nat.sub_le 15 e)) (by omega)
theorem at_bit : ∀ e, e < 8 → (128 / 2 ^ e) * 256 = 2 ^ (15 - e) := by decide +kernel
theorem at_byte : ∀ e, e < 8 → 128 / 2 ^ e < 256 := by decide +kernel

/-- One bit turned: the place p of 8 L. -/
def one (p j : Nat) : Nat := if p / 8 = j then 128 / 2 ^ (p % 8) else 0
theorem one_lt (p j : Nat) : one p j < 256 := by
  unfold one
  split
  · exact at_byte _ (Nat.mod_lt _ (by omega))
  · omega
def sumOf (g : Nat → Nat) (L : Nat) : Nat := onL 0 ((List.range L).map fun j => UInt8.ofNat (g j))
theorem sumOf_succ (g : Nat → Nat) (hg : ∀ j, g j < 256) (L : Nat) : sumOf g (L + 1) = F (sumOf g L ^^^ (g L * 256)) := by
  unfold sumOf
  rw [List.range_succ, List.map_append, List.map_singleton, onL_snoc _ _ _ (hg L)]
theorem sumOf_lt (g : Nat → Nat) (L : Nat) : sumOf g L < 65536 := onL_lt (by omega) _
theorem one_sum (p L : Nat) : sumOf (one p) L = if p < 8 * L then Tn (8 * L - p) 32768 else 0 := by
  induction L with
  | zero => rw [if_neg (by omega)]; rfl
  | succ L ih =>
    rw [sumOf_succ _ (one_lt p), ih]
    by_cases h : p < 8 * L
    · have h1 : one p L = 0 := by unfold one; rw [if_neg (by omega)]
      rw [if_pos h, if_pos (by omega), h1, Nat.zero_mul, Nat.xor_zero, F_Tn, ← Tn_add]
      congr 1; omega
    · rw [if_neg h, Nat.zero_xor]
      by_cases h2 : p < 8 * (L + 1)
      · have h1 : one p L = 128 / 2 ^ (p % 8) := by unfold one; rw [if_pos (by omega)]
        have he : p % 8 < 8 := Nat.mod_lt _ (by omega)
        rw [if_pos h2, h1, at_bit _ he, F_Tn]
        have e8 : 8 = p % 8 + (8 * (L + 1) - p) := by omega
        have : Tn 8 (2 ^ (15 - p % 8)) = Tn (p % 8 + (8 * (L + 1) - p)) (2 ^ (15 - p % 8)) := by rw [← e8]
        rw [this, Tn_add, top_bit _ (by omega)]
      · have h1 : one p L = 0 := by unfold one; rw [if_neg (by omega)]
        rw [if_neg h2, h1]; rfl

/-- What the first i of the sixteen bits turn at place j. -/
def dN (turn k : Nat) : Nat → Nat → Nat
  | 0, _ => 0
  | i + 1, j => dN turn k i j ^^^ (if turn.testBit i then one (k + i) j else 0)
theorem dN_lt (turn k i j : Nat) : dN turn k i j < 256 := by
  induction i with
  | zero => exact (by omega : 0 < 256)
  | succ i ih =>
    refine Nat.xor_lt_two_pow (n := 8) ih ?_
    split
    · exact one_lt _ _
    · omega
theorem none_sum (turn k L : Nat) : sumOf (dN turn k 0) L = 0 := by
  induction L with
  | zero => rfl
  | succ L ih =>
    rw [sumOf_succ _ (dN_lt turn k 0), ih, show dN turn k 0 L = 0 from rfl, Nat.zero_mul, Nat.xor_zero]
    exact F_zero
/-- Sums of two texts put together. -/
theorem sum_xor (g h : Nat → Nat) (hg : ∀ j, g j < 256) (hh : ∀ j, h j < 256) (c d L : Nat) (hc : c < 65536) (hd : d < 65536) :
    onL (c ^^^ d) ((List.range L).map fun j => UInt8.ofNat (g j ^^^ h j)) = onL c ((List.range L).map fun j => UInt8.ofNat (g j)) ^^^ onL d ((List.range L).map fun j => UInt8.ofNat (h j)) := by
  induction L with
  | zero => rfl
  | succ L ih =>
    have l1 := onL_lt hc ((List.range L).map fun j => UInt8.ofNat (g j))
    have l2 := onL_lt hd ((List.range L).map fun j => UInt8.ofNat (h j))
    have g1 := hg L
    have h1 := hh L
    rw [List.range_succ, List.map_append, List.map_append, List.map_append, List.map_singleton, List.map_singleton, List.map_singleton,
      onL_snoc _ _ _ (Nat.xor_lt_two_pow (n := 8) (hg L) (hh L)), onL_snoc _ _ _ (hg L), onL_snoc _ _ _ (hh L), ih, mul_xor_, ← F_xor (xor_lt l1 (by omega)) (xor_lt l2 (by omega)), xor_swap]
/-- The bits, turned about. -/
def rev (turn : Nat) : Nat → Nat
  | 0 => 0
  | i + 1 => rev turn i ^^^ (if turn.testBit i then 2 ^ (15 - i) else 0)
theorem rev_lt (turn i : Nat) : rev turn i < 65536 := by
  induction i with
  | zero => exact (by omega : 0 < 65536)
  | succ i ih =>
    refine xor_lt ih ?_
    split
    · exact bit_lt i
    · omega
theorem dN_sum (turn k L : Nat) (hk : k + 16 ≤ 8 * L) (i : Nat) (hi : i ≤ 16) : sumOf (dN turn k i) L = Tn (8 * L - k) (rev turn i) := by
  induction i with
  | zero =>
    rw [show rev turn 0 = 0 from rfl, Tn_zero]
    exact none_sum turn k L
  | succ i ih =>
    have ih := ih (by omega)
    have hx := sum_xor (dN turn k i) (fun j => if turn.testBit i then one (k + i) j else 0) (dN_lt turn k i) (fun j => by split; exact one_lt _ _; omega) 0 0 L (by omega) (by omega)
    rw [show (0 ^^^ 0 : Nat) = 0 from rfl] at hx
    have e1 : sumOf (dN turn k (i + 1)) L = sumOf (dN turn k i) L ^^^ sumOf (fun j => if turn.testBit i then one (k + i) j else 0) L := hx
    have e2 : sumOf (fun j => if turn.testBit i then one (k + i) j else 0) L = Tn (8 * L - k) (if turn.testBit i then 2 ^ (15 - i) else 0) := by
      cases turn.testBit i with
      | true =>
        have h1 := one_sum (k + i) L
        rw [if_pos (by omega)] at h1
        have h2 : sumOf (fun j => if true = true then one (k + i) j else 0) L = sumOf (one (k + i)) L := by simp
        rw [h2, h1]
        have e : 8 * L - k = i + (8 * L - (k + i)) := by omega
        rw [if_pos rfl, e, Tn_add, top_bit i (by omega)]
      | false =>
        have h2 : sumOf (fun j => if false = true then one (k + i) j else 0) L = sumOf (dN turn k 0) L := by unfold sumOf; congr 1
        rw [h2, if_neg (by simp), Tn_zero]
        exact none_sum turn k L
    rw [e1, e2, ih, ← Tn_xor (rev_lt turn i) (by split; exact bit_lt i; omega)]
    rfl
theorem rev_bit (turn i : Nat) (hi : i ≤ 16) (m : Nat) (hm : m < 16) : (rev turn i).testBit (15 - m) = (decide (m < i) && turn.testBit m) := by
  induction i with
  | zero => simp [rev]
  | succ i ih =>
    have ih := ih (by omega)
    unfold rev
    rw [Nat.testBit_xor, ih]
    cases ht : turn.testBit i with
    | true =>
      rw [if_pos rfl, Nat.testBit_two_pow]
      by_cases h : m = i
      · subst h; simp [ht]
      · have h1 : ¬ (15 - i = 15 - m) := by omega
        by_cases h2 : m < i
        · simp [h1, h2, (by omega : m < i + 1)]
        · have h3 : ¬ m < i + 1 := by omega
          simp [h1, h2, h3]
    | false =>
      by_cases h : m = i
      · subst h; simp [ht]
      · by_cases h2 : m < i
        · simp [h2, (by omega : m < i + 1)]
        · have h3 : ¬ m < i + 1 := by omega
          simp [h2, h3]
theorem rev_some (turn : Nat) (ht : turn < 65536) (h0 : turn ≠ 0) : rev turn 16 ≠ 0 := by
  intro h
  apply h0
  apply Nat.eq_of_testBit_eq
  intro m
  rw [Nat.zero_testBit]
  by_cases hm : m < 16
  · have := rev_bit turn 16 (by omega) m hm
    rw [h, Nat.zero_testBit] at this
    simpa [hm] using this.symm
  · exact Nat.testBit_lt_two_pow (Nat.lt_of_lt_of_le ht (by
      have := Nat.pow_le_pow_right (show 0 < 2 by omega) (show 16 ≤ m by omega)
      simpa using this))
/-- The turned text's sum. -/
theorem turned_law (s : ByteArray) (turn k : Nat) (h0 : onL 65535 s.data.toList = 0) (hk : k + 16 ≤ 8 * s.size) (ht : turn < 65536) (hn : turn ≠ 0) :
    onL 65535 ((List.range s.size).map fun (j : Nat) => UInt8.ofNat ((bt s j).toNat ^^^ dN turn k 16 j)) ≠ 0 := by
  have hl := data_length s
  have hs : ((List.range s.size).map fun (j : Nat) => UInt8.ofNat (bt s j).toNat) = s.data.toList := by
    apply List.ext_getElem
    · simp
    · intro j h1 h2
      simp only [List.getElem_map, List.getElem_range]
      rw [bt_is s j h2]
      simp
  have h := sum_xor (fun (j : Nat) => (bt s j).toNat) (dN turn k 16) (fun j => (bt_nat s j).2) (dN_lt turn k 16) 65535 0 s.size (by omega) (by omega)
  rw [Nat.xor_zero] at h
  rw [h, hs, h0, Nat.zero_xor]
  intro hz
  have h1 := dN_sum turn k s.size hk 16 (by omega)
  unfold sumOf at h1
  rw [hz] at h1
  exact rev_some turn ht hn (Tn_none (rev_lt turn 16) _ h1.symm)
end Go.Proofs.Ytgdblinoajmdnaa.Turn
