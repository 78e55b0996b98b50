/- For every sum to begin with and every text, the program's sums and the document's are the same (CrcSums). No conditions. -/
import Derived.Test.YtgdblinoajmdnaaPCrcSumsx1
import Derived.Test.YtgdblinoajmdnaaCrcMath
namespace Go.Proofs.Ytgdblinoajmdnaa.Pure
open Go.RowKit Go.Proofs.Ytgdblinoajmdnaa.PCrcSums Go.Proofs.YtgdblinoajmdnaaW.PrintWords Go.Proofs.YtgdblinoajmdnaaW.PrintLast Go.Proofs.YtgdblinoajmdnaaW.PrintMore Go.Proofs.Ytgdblinoajmdnaa.CrcMath

theorem bt_is (s : ByteArray) (i : Nat) (h : i < s.data.toList.length) : bt s (i : Int) = ((s.data.toList[i].toNat : Nat) : Int) := by
  have h' : (i : Int).toNat < s.size := by rw [data_length] at h; simpa using h
  unfold bt
  rw [dif_pos h']
  rfl

theorem on_l0 (s : ByteArray) (hs : s.size ≤ 1000000000000000) (d : Nat) : ∀ (k i c : Nat), i ≤ s.size → s.size - i = d → d < k → c < 65536 →
    crc_On.l0 k (c : Int) s (s.size : Int) (i : Int) = some ((onL c (s.data.toList.drop i) : Nat) : Int) := by
  have hl := data_length s
  induction d with
  | zero =>
    intro k i c h1 hd hk hc
    obtain ⟨k, rfl⟩ : ∃ m, k = m + 1 := ⟨k - 1, by omega⟩
    simp only [crc_On.l0]
    rw [if_neg (by omega), List.drop_eq_nil_of_le (by omega)]
    rfl
  | succ d ih =>
    intro k i c h1 hd hk hc
    obtain ⟨k, rfl⟩ : ∃ m, k = m + 1 := ⟨k - 1, by omega⟩
    have hlt : i < s.data.toList.length := by omega
    have hw : wrap64 ((i : Int) + 1) = ((i + 1 : Nat) : Int) := by unfold wrap64; omega
    simp only [crc_On.l0]
    rw [if_pos (by omega), if_pos (by omega), if_pos (by omega)]
    change crc_On.l0 k (stepI (c : Int) (bt s (i : Int))) s (s.size : Int) (wrap64 ((i : Int) + 1)) = _
    have hb := (s.data.toList[i]).toNat_lt
    rw [bt_is s i hlt, step_is hc (by omega), hw, ih k (i + 1) _ (by omega) (by omega) (by omega) (F_lt _), List.drop_eq_getElem_cons hlt]
    rfl

theorem on_f {c : Nat} (hc : c < 65536) (s : ByteArray) (hs : s.size ≤ 1000000000000000) {k : Nat} (hk : s.size < k) : crc_On.f k (c : Int) s = some ((onL c s.data.toList : Nat) : Int) := by
  have h := on_l0 s hs s.size k 0 c (by omega) (by omega) hk hc
  rw [List.drop_zero] at h
  exact h

theorem sum_f (s : ByteArray) (hs : s.size ≤ 1000000000000000) {k : Nat} (hk : s.size < k) : crc_Sum.f k s = some ((onL 65535 s.data.toList : Nat) : Int) := by
  unfold crc_Sum.f
  have h := on_f (c := 65535) (by omega) s hs hk
  rw [show ((65535 : Nat) : Int) = 65535 from rfl] at h
  rw [h]
  rfl

theorem fixed_20 : zoetropelaw02_fixed.f 20 = some true := by decide +kernel
theorem fixed_at {k : Nat} (hk : 20 ≤ k) : zoetropelaw02_fixed.f k = some true := at_rounds zoetropelaw02_fixed.mono hk fixed_20

theorem xor64 {a b : Nat} (ha : a < 65536) (hb : b < 65536) : Go.bits .xor .i64 (a : Int) (b : Int) = ((a ^^^ b : Nat) : Int) := by
  have h := xor_lt ha hb
  simp only [Go.bits, BitVec.ofInt_natCast]
  rw [BitVec.toNat_xor, BitVec.toNat_ofNat, BitVec.toNat_ofNat]
  show IntKind.i64.wrap (((a % 18446744073709551616) ^^^ (b % 18446744073709551616) : Nat) : Int) = _
  rw [Nat.mod_eq_of_lt (by omega), Nat.mod_eq_of_lt (by omega), IntKind.wrap_i64]
  omega

theorem ref_bit {n : Nat} (hn : n < 65536) (k : Nat) (s : ByteArray) (x6 : Int) (j : Nat) (hj : j < 8) :
    zoetroperef02_On.l1 (k + 1) s (n : Int) x6 (j : Int) = zoetroperef02_On.l1 k s ((T n : Nat) : Int) x6 ((j + 1 : Nat) : Int) := by
  have hw : wrap64 ((j : Int) + 1) = ((j + 1 : Nat) : Int) := by unfold wrap64; omega
  have hm : Int.tmod (wrap64 ((n : Int) * 2)) 65536 = ((n * 2 % 65536 : Nat) : Int) := by
    have : wrap64 ((n : Int) * 2) = ((n * 2 : Nat) : Int) := by unfold wrap64; omega
    rw [this]; rfl
  have c1 : (4129 : Int) = ((4129 : Nat) : Int) := rfl
  simp only [zoetroperef02_On.l1]
  rw [if_pos (show (j : Int) < 8 by omega), hw, hm]
  unfold T
  by_cases c : n ≥ 32768
  · rw [if_pos (show (n : Int) ≥ 32768 by omega), if_pos c, c1, xor64 (by omega) (by omega)]
  · rw [if_neg (show ¬ (n : Int) ≥ 32768 by omega), if_neg c, Nat.xor_zero]

theorem ref_byte {n : Nat} (hn : n < 65536) (k : Nat) (s : ByteArray) (hs : s.size ≤ 1000000000000000) (i : Nat) (hi : i < s.size) :
    zoetroperef02_On.l1 (k + 9) s (n : Int) (i : Int) 0 = zoetroperef02_On.l0 k s ((F n : Nat) : Int) ((i + 1 : Nat) : Int) := by
  have hw : wrap64 ((i : Int) + 1) = ((i + 1 : Nat) : Int) := by unfold wrap64; omega
  have h0 := ref_bit hn (k + 8) s (i : Int) 0 (by omega)
  have h1 := ref_bit (T_lt n) (k + 7) s (i : Int) 1 (by omega)
  have h2 := ref_bit (T_lt (T n)) (k + 6) s (i : Int) 2 (by omega)
  have h3 := ref_bit (T_lt (T (T n))) (k + 5) s (i : Int) 3 (by omega)
  have h4 := ref_bit (T_lt (T (T (T n)))) (k + 4) s (i : Int) 4 (by omega)
  have h5 := ref_bit (T_lt (T (T (T (T n))))) (k + 3) s (i : Int) 5 (by omega)
  have h6 := ref_bit (T_lt (T (T (T (T (T n)))))) (k + 2) s (i : Int) 6 (by omega)
  have h7 := ref_bit (T_lt (T (T (T (T (T (T n))))))) (k + 1) s (i : Int) 7 (by omega)
  refine h0.trans (h1.trans (h2.trans (h3.trans (h4.trans (h5.trans (h6.trans (h7.trans ?_)))))))
  simp only [zoetroperef02_On.l1]
  rw [if_neg (by omega), hw]
  rfl

theorem ref_l0 (s : ByteArray) (hs : s.size ≤ 1000000000000000) (d : Nat) : ∀ (k i c : Nat), i ≤ s.size → s.size - i = d → 10 * d < k → c < 65536 →
    zoetroperef02_On.l0 k s (c : Int) (i : Int) = some ((onL c (s.data.toList.drop i) : Nat) : Int) := by
  have hl := data_length s
  induction d with
  | zero =>
    intro k i c h1 hd hk hc
    obtain ⟨k, rfl⟩ : ∃ m, k = m + 1 := ⟨k - 1, by omega⟩
    simp only [zoetroperef02_On.l0]
    rw [if_neg (by omega), List.drop_eq_nil_of_le (by omega), wrap_nat, Nat.mod_eq_of_lt hc]
    rfl
  | succ d ih =>
    intro k i c h1 hd hk hc
    obtain ⟨k, rfl⟩ : ∃ m, k = m + 10 := ⟨k - 10, by omega⟩
    have hlt : i < s.data.toList.length := by omega
    have hb := (s.data.toList[i]).toNat_lt
    have hw : wrap64 (wrap64 (((s.data.toList[i]).toNat : Nat) : Int) * 256) = (((s.data.toList[i]).toNat * 256 : Nat) : Int) := by
      have : wrap64 (((s.data.toList[i]).toNat : Nat) : Int) = (((s.data.toList[i]).toNat : Nat) : Int) := by unfold wrap64; omega
      rw [this]; unfold wrap64; omega
    have hc2 := xor_lt hc (b_lt s.data.toList[i])
    show zoetroperef02_On.l0 (k + 9 + 1) s (c : Int) (i : Int) = _
    simp only [zoetroperef02_On.l0]
    rw [if_pos (by omega), if_pos (by omega), bt_is s i hlt, hw, xor64 hc (b_lt _), ref_byte hc2 k s hs i (by omega), ih k (i + 1) _ (by omega) (by omega) (by omega) (F_lt _), List.drop_eq_getElem_cons hlt]
    rfl

theorem ref_f {c : Nat} (hc : c < 65536) (s : ByteArray) (hs : s.size ≤ 1000000000000000) {k : Nat} (hk : 10 * s.size < k) : zoetroperef02_On.f k (c : Int) s = some ((onL c s.data.toList : Nat) : Int) := by
  have h := ref_l0 s hs s.size k 0 c (by omega) (by omega) hk hc
  rw [List.drop_zero] at h
  have hw : wrap64 (c : Int) = (c : Int) := by unfold wrap64; omega
  unfold zoetroperef02_On.f
  rw [hw]
  exact h

theorem refsum_f (s : ByteArray) (hs : s.size ≤ 1000000000000000) {k : Nat} (hk : 10 * s.size < k) : zoetroperef02_Sum.f k s = some ((onL 65535 s.data.toList : Nat) : Int) := by
  unfold zoetroperef02_Sum.f
  have h := ref_f (c := 65535) (by omega) s hs hk
  rw [show ((65535 : Nat) : Int) = 65535 from rfl] at h
  rw [h]
  rfl

theorem CrcSums : zoetropelaw02_CrcSums.Pure := by
  intro a0 s h0 hs
  have hr := u16_range h0
  obtain ⟨c, rfl⟩ : ∃ c : Nat, a0 = (c : Int) := ⟨a0.toNat, by omega⟩
  have hc : c < 65536 := by omega
  refine ⟨10 * s.size + 20, ?_⟩
  unfold zoetropelaw02_CrcSums.f
  rw [fixed_at (by omega)]
  simp only [Option.bind_some]
  rw [if_pos trivial, on_f hc s (by omega) (by omega), ref_f hc s (by omega) (by omega)]
  simp only [Option.bind_some]
  rw [if_pos trivial, sum_f s (by omega) (by omega), refsum_f s (by omega) (by omega)]
  simp

end Go.Proofs.Ytgdblinoajmdnaa.Pure
