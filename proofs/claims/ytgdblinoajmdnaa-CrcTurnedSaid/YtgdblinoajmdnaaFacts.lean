/- What the functions of package crc answer, as contracts of the calls: for the walks of CrcBack, CrcTurned and CrcLinear. No conditions but a text of at most 10^15 bytes. -/
import Derived.Test.YtgdblinoajmdnaaPCrcStartsx1
import Derived.Test.YtgdblinoajmdnaaCrcMath
namespace Go.Proofs.Ytgdblinoajmdnaa.Facts
open Go.RowKit Go.Proofs.Ytgdblinoajmdnaa.PCrcStarts Go.Proofs.YtgdblinoajmdnaaW.PrintWords Go.Proofs.YtgdblinoajmdnaaW.PrintLast Go.Proofs.YtgdblinoajmdnaaW.PrintMore Go.Proofs.Ytgdblinoajmdnaa.CrcMath

theorem bt_is (s : ByteArray) (i : Nat) (h : i < s.data.toList.length) : bt s (i : Int) = ((s.data.toList[i].toNat : Nat) : Int) := by
  have h' : (i : Int).toNat < s.size := by rw [data_length] at h; simpa using h
  unfold bt
  rw [dif_pos h']
  rfl

theorem on_l0 (s : ByteArray) (hs : s.size ≤ 1000000000000000) (d : Nat) : ∀ (k i c : Nat), i ≤ s.size → s.size - i = d → d < k → c < 65536 →
    crc_On.l0 k (c : Int) s (s.size : Int) (i : Int) = some ((onL c (s.data.toList.drop i) : Nat) : Int) := by
  have hl := data_length s
  induction d with
  | zero =>
    intro k i c h1 hd hk hc
    obtain ⟨k, rfl⟩ : ∃ m, k = m + 1 := ⟨k - 1, by omega⟩
    simp only [crc_On.l0]
    rw [if_neg (by omega), List.drop_eq_nil_of_le (by omega)]
    rfl
  | succ d ih =>
    intro k i c h1 hd hk hc
    obtain ⟨k, rfl⟩ : ∃ m, k = m + 1 := ⟨k - 1, by omega⟩
    have hlt : i < s.data.toList.length := by omega
    have hw : wrap64 ((i : Int) + 1) = ((i + 1 : Nat) : Int) := by unfold wrap64; omega
    simp only [crc_On.l0]
    rw [if_pos (by omega), if_pos (by omega), if_pos (by omega)]
    change crc_On.l0 k (stepI (c : Int) (bt s (i : Int))) s (s.size : Int) (wrap64 ((i : Int) + 1)) = _
    have hb := (s.data.toList[i]).toNat_lt
    rw [bt_is s i hlt, step_is hc (by omega), hw, ih k (i + 1) _ (by omega) (by omega) (by omega) (F_lt _), List.drop_eq_getElem_cons hlt]
    rfl

theorem on_f {c : Nat} (hc : c < 65536) (s : ByteArray) (hs : s.size ≤ 1000000000000000) {k : Nat} (hk : s.size < k) : crc_On.f k (c : Int) s = some ((onL c s.data.toList : Nat) : Int) := by
  have h := on_l0 s hs s.size k 0 c (by omega) (by omega) hk hc
  rw [List.drop_zero] at h
  exact h

theorem sum_f (s : ByteArray) (hs : s.size ≤ 1000000000000000) {k : Nat} (hk : s.size < k) : crc_Sum.f k s = some ((onL 65535 s.data.toList : Nat) : Int) := by
  unfold crc_Sum.f
  have h := on_f (c := 65535) (by omega) s hs hk
  rw [show ((65535 : Nat) : Int) = 65535 from rfl] at h
  rw [h]
  rfl

theorem fixed_20 : zoetropelaw02_fixed.f 20 = some true := by decide +kernel
theorem fixed_at {k : Nat} (hk : 20 ≤ k) : zoetropelaw02_fixed.f k = some true := at_rounds zoetropelaw02_fixed.mono hk fixed_20

/-- A text and its sum behind it. -/
def sealed (s : ByteArray) : ByteArray := s ++ strOfNums [((onL 65535 s.data.toList / 256 : Nat) : Int), ((onL 65535 s.data.toList % 256 : Nat) : Int)]
theorem sealed_list (s : ByteArray) : (sealed s).data.toList = s.data.toList ++ [UInt8.ofNat (onL 65535 s.data.toList / 256), UInt8.ofNat (onL 65535 s.data.toList % 256)] := by
  unfold sealed strOfNums
  simp
  exact ⟨rfl, rfl⟩
theorem two_size (x y : Int) : (strOfNums [x, y]).size = 2 := rfl
theorem sealed_size (s : ByteArray) : (sealed s).size = s.size + 2 := by
  unfold sealed
  rw [ByteArray.size_append, two_size]
theorem seal_f (s : ByteArray) (hs : s.size ≤ 1000000000000000) {k : Nat} (hk : s.size < k) : crc_Seal.f k s = some (sealed s) := by
  unfold crc_Seal.f
  rw [sum_f s hs hk]
  simp only [Option.bind_some]
  have hc := onL_lt (c := 65535) (by omega) s.data.toList
  have e1 : (((onL 65535 s.data.toList : Nat) : Int) / 256) % 256 = ((onL 65535 s.data.toList / 256 : Nat) : Int) := by omega
  have e2 : ((onL 65535 s.data.toList : Nat) : Int) % 256 = ((onL 65535 s.data.toList % 256 : Nat) : Int) := by omega
  rw [e1, e2, two_size, if_pos (by omega)]
  rfl
theorem open_f (s : ByteArray) (hs : s.size ≤ 1000000000000000) {k : Nat} (hk : s.size < k) : crc_Open.f k s =
    some (if s.size < 2 then ((⟨#[]⟩ : ByteArray), false) else if onL 65535 s.data.toList = 0 then (s.extract 0 (s.size - 2), true) else ((⟨#[]⟩ : ByteArray), false)) := by
  unfold crc_Open.f
  by_cases h : s.size < 2
  · rw [if_pos (by omega), if_pos h]
  · have hw : wrap64 ((s.size : Int) - 2) = ((s.size - 2 : Nat) : Int) := by unfold wrap64; omega
    rw [if_neg (by omega), if_neg h, sum_f s hs hk]
    simp only [Option.bind_some]
    by_cases h0 : onL 65535 s.data.toList = 0
    · rw [if_pos (by omega), if_pos h0, hw, if_pos (by omega), if_pos (by omega)]
      rfl
    · rw [if_neg (by omega), if_neg h0]

theorem of_nat {n : Nat} (h : n < 256) : (UInt8.ofNat n).toNat = n := by rw [UInt8.toNat_ofNat']; omega
theorem u8_of {x : UInt8} {n : Nat} (h : x.toNat = n) : x = UInt8.ofNat n := by
  apply UInt8.toNat_inj.1
  rw [h, UInt8.toNat_ofNat']
  have := x.toNat_lt
  omega
/-- The sum of a text's sealed form is 0. -/
theorem sealed_zero (s : ByteArray) : onL 65535 (sealed s).data.toList = 0 := by
  have hc := onL_lt (c := 65535) (by omega) s.data.toList
  rw [sealed_list, onL_append, onL_two hc]
  exact ⟨of_nat (by omega), of_nat (by omega)⟩
/-- Which texts have the sum 0: just the sealed ones. -/
theorem zero_sealed (s : ByteArray) (h2 : 2 ≤ s.size) : onL 65535 s.data.toList = 0 ↔ sealed (s.extract 0 (s.size - 2)) = s := by
  have hl := data_length s
  have hp : (s.extract 0 (s.size - 2)).data.toList = s.data.toList.take (s.size - 2) := by simp [ByteArray.data_extract]
  have hd : ∃ x y, s.data.toList = s.data.toList.take (s.size - 2) ++ [x, y] := by
    have e := (List.take_append_drop (s.size - 2) s.data.toList).symm
    have hn : (s.data.toList.drop (s.size - 2)).length = 2 := by rw [List.length_drop]; omega
    match hx : s.data.toList.drop (s.size - 2), hn with
    | [x, y], _ => rw [hx] at e; exact ⟨x, y, e⟩
  obtain ⟨x, y, hxy⟩ := hd
  have hc := onL_lt (c := 65535) (by omega) (s.data.toList.take (s.size - 2))
  constructor
  · intro h
    apply Go.WideShapes.bytes_inj
    rw [sealed_list, hp]
    rw [hxy, onL_append, onL_two hc] at h
    rw [← u8_of h.1, ← u8_of h.2]
    exact hxy.symm
  · intro h
    rw [← h]
    exact sealed_zero _

theorem on_c {c : Nat} (hc : c < 65536) (s : ByteArray) (hs : s.size ≤ 1000000000000000) (w : World) :
    Calls Try.prog 10 #[.int .u16 (c : Int), .string s] w fun e w' => e = .returned (.int .u16 ((onL c s.data.toList : Nat) : Int)) ∧ Drawn0 w w' :=
  crc_On.calls (s.size + 1) _ s _ w (on_f hc s hs (by omega))
theorem sum_c (s : ByteArray) (hs : s.size ≤ 1000000000000000) (w : World) :
    Calls Try.prog 12 #[.string s] w fun e w' => e = .returned (.int .u16 ((onL 65535 s.data.toList : Nat) : Int)) ∧ Drawn0 w w' :=
  crc_Sum.calls (s.size + 1) s _ w (sum_f s hs (by omega))
theorem seal_c (s : ByteArray) (hs : s.size ≤ 1000000000000000) (w : World) :
    Calls Try.prog 16 #[.string s] w fun e w' => e = .returned (.string (sealed s)) ∧ Below w.heap.size w w' :=
  crc_Seal.calls (s.size + 1) s _ w (seal_f s hs (by omega))
theorem open_yes (s : ByteArray) (hs : s.size ≤ 1000000000000000) (h2 : 2 ≤ s.size) (h0 : onL 65535 s.data.toList = 0) (w : World) :
    Calls Try.prog 14 #[.string s] w fun e w' => e = .returned (.tuple #[.string (s.extract 0 (s.size - 2)), .bool true]) ∧ Drawn0 w w' :=
  crc_Open.calls (s.size + 1) s _ _ w (by rw [open_f s hs (by omega), if_neg (by omega), if_pos h0])
theorem open_no (s : ByteArray) (hs : s.size ≤ 1000000000000000) (h2 : 2 ≤ s.size) (h0 : onL 65535 s.data.toList ≠ 0) (w : World) :
    Calls Try.prog 14 #[.string s] w fun e w' => e = .returned (.tuple #[.string ⟨#[]⟩, .bool false]) ∧ Drawn0 w w' :=
  crc_Open.calls (s.size + 1) s _ _ w (by rw [open_f s hs (by omega), if_neg (by omega), if_neg h0])
theorem fixed_c (w : World) : Calls Try.prog 9 #[] w fun e w' => e = .returned (.bool true) ∧ Below w.heap.size w w' :=
  zoetropelaw02_fixed.calls 20 true w fixed_20
theorem sealed_opened (s : ByteArray) : (sealed s).extract 0 ((sealed s).size - 2) = s := by
  apply Go.WideShapes.bytes_inj
  have hl := data_length s
  rw [show ((sealed s).extract 0 ((sealed s).size - 2)).data.toList = (sealed s).data.toList.take ((sealed s).size - 2) by simp [ByteArray.data_extract]]
  rw [sealed_list, sealed_size, List.take_left' (by omega)]
theorem below_step_ {w w1 w2 : World} (h : Below w.heap.size w w1) (k : Below w1.heap.size w1 w2) : Below w.heap.size w w2 := below_then h h.size k

end Go.Proofs.Ytgdblinoajmdnaa.Facts
