/- A row of bytes that the call itself has made: what its places hold, behind draws, new blocks and stores; and the plain law of CrcLinear. -/
import Derived.Test.YtgdblinoajmdnaaFacts
namespace Go.Proofs.Ytgdblinoajmdnaa.Hold
open Go.RowKit Go.Proofs.YtgdblinoajmdnaaW.PrintWords Go.Proofs.YtgdblinoajmdnaaW.PrintLast Go.Proofs.YtgdblinoajmdnaaW.PrintMore Go.Proofs.Ytgdblinoajmdnaa.CrcMath Go.Proofs.Ytgdblinoajmdnaa.Facts

/-- Block g holds n bytes, the j-th one f j, and may be written. -/
structure Holds (w : World) (g n : Nat) (f : Nat → Int) : Prop where
  at_ : ∀ j, j < n → w.cell? ⟨g, j, none⟩ = some (.int .u8 (f j))
  free : ∀ j, j < n → w.frozen? ⟨g, j, none⟩ = false
  lt : g < w.heap.size
theorem Holds.drewN {w : World} {g n : Nat} {f : Nat → Int} (h : Holds w g n f) (m : Nat) : Holds (w.drewN m) g n f := ⟨h.at_, h.free, h.lt⟩
theorem Holds.drew {w : World} {g n : Nat} {f : Nat → Int} (h : Holds w g n f) : Holds w.drew g n f := ⟨h.at_, h.free, h.lt⟩
theorem Holds.below {w w1 : World} {g n B : Nat} {f : Nat → Int} (h : Holds w g n f) (hb : Below B w w1) (hg : g < B) (hs : w.heap.size ≤ w1.heap.size) : Holds w1 g n f :=
  ⟨fun j hj => (hb.cell (p := ⟨g, j, none⟩) hg).trans (h.at_ j hj), fun j hj => (hb.frozen (p := ⟨g, j, none⟩) hg).trans (h.free j hj), Nat.lt_of_lt_of_le h.lt hs⟩
theorem Holds.set {w : World} {g n k : Nat} {f f' : Nat → Int} (h : Holds w g n f) (hk : k < n) (v : Int) (hv : f' k = v) (ho : ∀ j, j ≠ k → f' j = f j) : Holds (w.setCell ⟨g, k, none⟩ (.int .u8 v)) g n f' := by
  refine ⟨fun j hj => ?_, fun j hj => by rw [World.frozen?_setCell]; exact h.free j hj, by rw [World.size_setCell]; exact h.lt⟩
  by_cases e : j = k
  · subst e
    rw [World.cell?_setCell_same (h := h.at_ j hj), hv]
  · rw [World.cell?_setCell_other (h := by intro he; injection he with _ h2; exact e h2.symm), h.at_ j hj, ho j e]
theorem Holds.congr {w : World} {g n : Nat} {f f' : Nat → Int} (h : Holds w g n f) (e : ∀ j, j < n → f j = f' j) : Holds w g n f' :=
  ⟨fun j hj => by rw [← e j hj]; exact h.at_ j hj, h.free, h.lt⟩
theorem holds_bytes (w : World) (s : ByteArray) : Holds (Lib.bytesWorld w 5 s) w.heap.size s.size (fun j => bt s j) := by
  refine ⟨fun j hj => ?_, fun j hj => ?_, by rw [Lib.bytesWorld_size]; omega⟩
  · rw [Lib.bytesWorld_cell w 5 s j hj]
    have hl := data_length s
    have h := bt_is s j (by omega)
    simp only [h, List.getD_eq_getElem?_getD, List.getElem?_eq_getElem (show j < s.data.toList.length by omega), Option.getD_some]
  · have hz : s.size ≤ (Lib.bytesCells w 5 s).size := by
      have hl := data_length s
      unfold Lib.bytesCells
      simp at hl
      simp
    unfold World.frozen?
    rw [Lib.bytesWorld_at_new]
    simp
    omega
theorem holds_reads {w : World} {g n : Nat} {f : Nat → Int} (h : Holds w g n f) (hn : n ≤ 9223372036854775807) : ReadsInt w .u8 (some ⟨g, 0, none⟩) n ((List.range n).map f) := by
  refine ⟨by simp, hn, fun _ => ⟨_, rfl, fun j hj => ?_⟩⟩
  rw [add_plain, h.at_ j hj]
  simp [List.getD_eq_getElem?_getD, hj]

/-! ### The plain law of CrcLinear -/
theorem xor3 (X Y Z x y z : Nat) : (X ^^^ Y ^^^ Z) ^^^ (x ^^^ (y ^^^ z)) = (X ^^^ x) ^^^ (Y ^^^ y) ^^^ (Z ^^^ z) := by
  apply Nat.eq_of_testBit_eq
  intro i
  simp only [Nat.testBit_xor]
  cases X.testBit i <;> cases Y.testBit i <;> cases Z.testBit i <;> cases x.testBit i <;> cases y.testBit i <;> cases z.testBit i <;> rfl
theorem mul_xor_ (a b : Nat) : (a ^^^ b) * 256 = (a * 256) ^^^ (b * 256) := by
  have := Nat.shiftLeft_xor_distrib (a := a) (b := b) (i := 8)
  simpa [Nat.shiftLeft_eq] using this
/-- The three bytes at a place, put together. -/
def mixN (a b c : ByteArray) (j : Nat) : Nat := (bt a j).toNat ^^^ ((bt b j).toNat ^^^ (bt c j).toNat)
theorem bt_nat (s : ByteArray) (j : Int) : ((bt s j).toNat : Int) = bt s j ∧ (bt s j).toNat < 256 := by
  have := bt_range s j
  omega
theorem mix_lt (a b c : ByteArray) (j : Nat) : mixN a b c j < 256 := by
  unfold mixN
  exact Nat.xor_lt_two_pow (n := 8) (bt_nat a j).2 (Nat.xor_lt_two_pow (n := 8) (bt_nat b j).2 (bt_nat c j).2)
theorem bits8 {a b : Nat} (ha : a < 256) (hb : b < 256) : Go.bits .xor .u8 (a : Int) (b : Int) = ((a ^^^ b : Nat) : Int) := by
  have h : a ^^^ b < 256 := Nat.xor_lt_two_pow (n := 8) ha hb
  simp only [Go.bits, BitVec.ofInt_natCast]
  rw [BitVec.toNat_xor, BitVec.toNat_ofNat, BitVec.toNat_ofNat]
  show IntKind.u8.wrap (((a % 256) ^^^ (b % 256) : Nat) : Int) = _
  rw [Nat.mod_eq_of_lt ha, Nat.mod_eq_of_lt hb, IntKind.wrap_u8]
  omega
theorem mix_is (a b c : ByteArray) (j : Nat) : Go.bits .xor .u8 (bt a j) (Go.bits .xor .u8 (bt b j) (bt c j)) = (mixN a b c j : Int) := by
  have ha := bt_nat a j
  have hb := bt_nat b j
  have hc := bt_nat c j
  rw [← ha.1, ← hb.1, ← hc.1, bits8 hb.2 hc.2, bits8 ha.2 (Nat.xor_lt_two_pow (n := 8) hb.2 hc.2)]
  rfl
theorem take_bt (s : ByteArray) (n : Nat) (h : n < s.size) : s.data.toList.take (n + 1) = s.data.toList.take n ++ [UInt8.ofNat (bt s n).toNat] := by
  have hl := data_length s
  rw [List.take_succ_eq_append_getElem (by omega)]
  congr 2
  have e := bt_is s n (by omega)
  rw [e]
  simp
theorem onL_snoc (c : Nat) (l : List UInt8) (x : Nat) (hx : x < 256) : onL c (l ++ [UInt8.ofNat x]) = F (onL c l ^^^ (x * 256)) := by
  rw [onL_append]
  show F (onL c l ^^^ ((UInt8.ofNat x).toNat * 256)) = _
  rw [of_nat hx]
theorem linear_law (a b c : ByteArray) (n : Nat) : n ≤ a.size → n ≤ b.size → n ≤ c.size →
    onL 65535 ((List.range n).map fun j => UInt8.ofNat (mixN a b c j)) = onL 65535 (a.data.toList.take n) ^^^ onL 65535 (b.data.toList.take n) ^^^ onL 65535 (c.data.toList.take n) := by
  induction n with
  | zero => intro _ _ _; simp [onL]
  | succ n ih =>
    intro ha hb hc
    have ih := ih (by omega) (by omega) (by omega)
    have la := onL_lt (c := 65535) (by omega) (a.data.toList.take n)
    have lb := onL_lt (c := 65535) (by omega) (b.data.toList.take n)
    have lc := onL_lt (c := 65535) (by omega) (c.data.toList.take n)
    have xa := (bt_nat a n).2
    have xb := (bt_nat b n).2
    have xc := (bt_nat c n).2
    rw [List.range_succ, List.map_append, List.map_singleton, onL_snoc _ _ _ (mix_lt a b c n), ih, take_bt a n (by omega), take_bt b n (by omega), take_bt c n (by omega), onL_snoc _ _ _ xa, onL_snoc _ _ _ xb, onL_snoc _ _ _ xc]
    rw [← F_xor (xor_lt la (by omega)) (xor_lt lb (by omega)), ← F_xor (xor_lt (xor_lt la (by omega)) (xor_lt lb (by omega))) (xor_lt lc (by omega))]
    congr 1
    unfold mixN
    rw [mul_xor_, mul_xor_, xor3]
end Go.Proofs.Ytgdblinoajmdnaa.Hold
