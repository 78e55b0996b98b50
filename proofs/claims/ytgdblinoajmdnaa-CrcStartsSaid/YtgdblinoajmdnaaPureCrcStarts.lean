/- From two unlike sums the same bytes, at most 500 of them, come to unlike sums (CrcStarts). No conditions. -/
import Derived.Test.YtgdblinoajmdnaaPCrcStartsx1
import Derived.Test.YtgdblinoajmdnaaCrcMath
namespace Go.Proofs.Ytgdblinoajmdnaa.Pure
open Go.RowKit Go.Proofs.Ytgdblinoajmdnaa.PCrcStarts Go.Proofs.YtgdblinoajmdnaaW.PrintWords Go.Proofs.YtgdblinoajmdnaaW.PrintLast Go.Proofs.YtgdblinoajmdnaaW.PrintMore Go.Proofs.Ytgdblinoajmdnaa.CrcMath

theorem bt_is (s : ByteArray) (i : Nat) (h : i < s.data.toList.length) : bt s (i : Int) = ((s.data.toList[i].toNat : Nat) : Int) := by
  have h' : (i : Int).toNat < s.size := by rw [data_length] at h; simpa using h
  unfold bt
  rw [dif_pos h']
  rfl

theorem on_l0 (s : ByteArray) (hs : s.size ≤ 1000000000000000) (d : Nat) : ∀ (k i c : Nat), i ≤ s.size → s.size - i = d → d < k → c < 65536 →
    crc_On.l0 k (c : Int) s (s.size : Int) (i : Int) = some ((onL c (s.data.toList.drop i) : Nat) : Int) := by
  have hl := data_length s
  induction d with
  | zero =>
    intro k i c h1 hd hk hc
    obtain ⟨k, rfl⟩ : ∃ m, k = m + 1 := ⟨k - 1, by omega⟩
    simp only [crc_On.l0]
    rw [if_neg (by omega), List.drop_eq_nil_of_le (by omega)]
    rfl
  | succ d ih =>
    intro k i c h1 hd hk hc
    obtain ⟨k, rfl⟩ : ∃ m, k = m + 1 := ⟨k - 1, by omega⟩
    have hlt : i < s.data.toList.length := by omega
    have hw : wrap64 ((i : Int) + 1) = ((i + 1 : Nat) : Int) := by unfold wrap64; omega
    simp only [crc_On.l0]
    rw [if_pos (by omega), if_pos (by omega), if_pos (by omega)]
    change crc_On.l0 k (stepI (c : Int) (bt s (i : Int))) s (s.size : Int) (wrap64 ((i : Int) + 1)) = _
    have hb := (s.data.toList[i]).toNat_lt
    rw [bt_is s i hlt, step_is hc (by omega), hw, ih k (i + 1) _ (by omega) (by omega) (by omega) (F_lt _), List.drop_eq_getElem_cons hlt]
    rfl

theorem on_f {c : Nat} (hc : c < 65536) (s : ByteArray) (hs : s.size ≤ 1000000000000000) {k : Nat} (hk : s.size < k) : crc_On.f k (c : Int) s = some ((onL c s.data.toList : Nat) : Int) := by
  have h := on_l0 s hs s.size k 0 c (by omega) (by omega) hk hc
  rw [List.drop_zero] at h
  exact h

theorem fixed_20 : zoetropelaw02_fixed.f 20 = some true := by decide +kernel
theorem fixed_at {k : Nat} (hk : 20 ≤ k) : zoetropelaw02_fixed.f k = some true := at_rounds zoetropelaw02_fixed.mono hk fixed_20

theorem CrcStarts : zoetropelaw02_CrcStarts.Pure := by
  intro a0 b0 s h0 h1 hs
  have hr := u16_range h0
  have hr1 := u16_range h1
  obtain ⟨c, rfl⟩ : ∃ c : Nat, a0 = (c : Int) := ⟨a0.toNat, by omega⟩
  obtain ⟨d, rfl⟩ : ∃ d : Nat, b0 = (d : Int) := ⟨b0.toNat, by omega⟩
  have hc : c < 65536 := by omega
  have hd : d < 65536 := by omega
  have hm0 : 0 ≤ mn (s.size : Int) 500 := by unfold mn; split <;> omega
  have hm1 : mn (s.size : Int) 500 ≤ (s.size : Int) := by unfold mn; split <;> omega
  have hm2 : mn (s.size : Int) 500 ≤ 500 := by unfold mn; split <;> omega
  refine ⟨600, ?_⟩
  unfold zoetropelaw02_CrcStarts.f
  rw [if_pos hm0, if_pos hm1, fixed_at (by omega)]
  generalize mn (s.size : Int) 500 = m at hm0 hm1 hm2 ⊢
  have hz : (s.extract 0 m.toNat).size ≤ 500 := by rw [ByteArray.size_extract]; omega
  generalize s.extract 0 m.toNat = t at hz ⊢
  simp only [Option.bind_some]
  rw [if_pos trivial, on_f hc t (by omega) (by omega), on_f hd t (by omega) (by omega)]
  simp only [Option.bind_some]
  congr 1
  by_cases e : c = d
  · subst e; simp
  · have hne : onL c t.data.toList ≠ onL d t.data.toList := fun h => e (onL_inj hc hd _ h)
    have e1 : (((onL c t.data.toList : Nat) : Int) == ((onL d t.data.toList : Nat) : Int)) = false := by
      rw [beq_eq_false_iff_ne]; omega
    have e2 : ((c : Int) == (d : Int)) = false := by rw [beq_eq_false_iff_ne]; omega
    rw [e1, e2]; rfl

end Go.Proofs.Ytgdblinoajmdnaa.Pure
