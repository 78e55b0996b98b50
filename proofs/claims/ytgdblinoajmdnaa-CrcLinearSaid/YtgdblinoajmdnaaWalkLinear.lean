/- The walk of CrcLinear: whatever the three texts, the call answers true and leaves what lay in memory. Conditions: texts of at most 2^47 bytes, as the row has them. -/
import Derived.Test.YtgdblinoajmdnaaHold
import Derived.RegionTactic
import Derived.ChangeAlike
namespace Go.Proofs.Ytgdblinoajmdnaa.Linear
open Go.RowKit Go.Proofs.YtgdblinoajmdnaaW.PrintWords Go.Proofs.YtgdblinoajmdnaaW.PrintLast Go.Proofs.YtgdblinoajmdnaaW.PrintMore Go.Proofs.Ytgdblinoajmdnaa.CrcMath Go.Proofs.Ytgdblinoajmdnaa.Facts Go.Proofs.Ytgdblinoajmdnaa.Hold

/-- What the row holds ahead of round k. -/
def part (a b c : ByteArray) (k : Nat) (j : Nat) : Int := if j < k then (mixN a b c j : Int) else bt a j

set_option maxHeartbeats 8000000 in
set_option maxRecDepth 100000 in
theorem linear (a b c : ByteArray) (n : Nat) (hna : n ≤ a.size) (hnb : n ≤ b.size) (hnc : n ≤ c.size) (hn : n ≤ 500)
    (hmin : ∀ ats ty, Builtin.min_ ats ty #[.int .i64 (a.size : Int), .int .i64 (b.size : Int), .int .i64 (c.size : Int), .int .i64 500] = pure (.int .i64 (n : Int))) (w : World) :
    Calls Try.prog 7 #[.string a, .string b, .string c] w fun e w' => e = .returned (.bool true) ∧ Below w.heap.size w w' := by
  have HMIN := Aside0.mk hmin
  have hcv := fun (W : World) (s : ByteArray) => print_bytes (P := Try.prog) 9 32 5 Try.underlying9 Try.underlying32 Try.underlying5 s W
  have na : (n : Int) ≤ (a.size : Int) := by omega
  have na' : (n : Int) ≤ 9223372036854775807 := by omega
  have na0 : (0 : Int) ≤ (n : Int) := by omega
  have hx : (a.extract 0 n).size = n := by rw [ByteArray.size_extract]; omega
  have HX := Aside0.mk hx
  clear hx
  go_enter Try.func7, Try.ntmps7
  go_wp2
  have hH : Holds (Lib.bytesWorld w 5 (a.extract 0 n)) w.heap.size n (part a b c 0) := by
    have h := holds_bytes w (a.extract 0 n)
    rw [HX.out] at h
    refine h.congr fun j hj => ?_
    unfold part
    rw [if_neg (by omega)]
    have hl := data_length a
    have hl2 := data_length (a.extract 0 n)
    have h2 := HX.out
    rw [bt_is _ j (by omega), bt_is _ j (by omega)]
    simp [ByteArray.data_extract]
  have hB : Below w.heap.size w (Lib.bytesWorld w 5 (a.extract 0 n)) := bytes_below (Below.refl _ _) (Nat.le_refl _) _ _
  clear HX hcv
  generalize Lib.bytesWorld w 5 (a.extract 0 n) = w0 at hH hB ⊢
  have HH := Aside0.mk hH
  have HB := Aside0.mk hB
  clear hH hB
  generalize grownCap w n 0 5 = cap
  go_loopw [9] (fun i wr => ∃ k : Nat, k ≤ n ∧ i = .int .i64 k ∧ Aside0 (Holds wr w.heap.size n (part a b c k)) ∧ Aside0 (Below w.heap.size w wr)) (fun i _ => n - (intOf i).toNat)
  case atStart => exact ⟨0, Nat.zero_le _, rfl, HH, HB⟩
  case round =>
    clear HH HB
    obtain ⟨k, hk, rfl, HH, HB⟩ := hrel
    by_cases hlt : k < n
    · have hc := HH.out.at_ k hlt
      have hf := HH.out.free k hlt
      have hp : part a b c k k = bt a k := by unfold part; rw [if_neg (by omega)]
      rw [hp] at hc
      clear hp
      have i0 : (0 : Int) ≤ (k : Int) := by omega
      have ib : (k : Int) < (b.size : Int) := by omega
      have ic : (k : Int) < (c.size : Int) := by omega
      have gb : ∀ h : k < b.size, ((b[k]'h).toNat : Int) = bt b k := fun h => bt_at b k h
      have gc : ∀ h : k < c.size, ((c[k]'h).toNat : Int) = bt c k := fun h => bt_at c k h
      go_wp2
      go_region
      go_wp2
      go_roundw
      case rel =>
        refine ⟨k + 1, by omega, by go_num, ?_, ?_⟩
        · refine ⟨?_⟩
          have h := HH.out.drew
          refine h.set hlt _ ?_ ?_
          · unfold part
            rw [if_pos (by omega)]
            exact (mix_is a b c k).symm
          · intro j hj
            unfold part
            by_cases h1 : j < k
            · rw [if_pos h1, if_pos (by omega)]
            · rw [if_neg h1, if_neg (by omega)]
        · exact ⟨(below_drew HB.out).setCell (Nat.le_refl _) _⟩
      case measure => simp [intOf]; omega
    · obtain rfl : k = n := by omega
      have hconv : ∀ W, Holds W w.heap.size k (part a b c k) → (convert 32 9 (.slice (some ⟨w.heap.size, 0, none⟩) k cap)).run Try.prog W = .ok (.string (strOfNums ((List.range k).map (part a b c k)))) W :=
        fun W h => string_of_reads Try.underlying32 Try.underlying5 Try.underlying9 (holds_reads h (by omega))
      have hzd : (strOfNums ((List.range k).map (part a b c k))).size ≤ 500 := by unfold strOfNums; simp [ByteArray.size]; omega
      have Cd := Aside0.mk (sum_c _ (Nat.le_trans hzd (by omega)))
      have ea : (a.extract 0 k).data.toList = a.data.toList.take k := by simp [ByteArray.data_extract]
      have eb : (b.extract 0 k).data.toList = b.data.toList.take k := by simp [ByteArray.data_extract]
      have ec : (c.extract 0 k).data.toList = c.data.toList.take k := by simp [ByteArray.data_extract]
      have Ca := Aside0.mk (sum_c (a.extract 0 k) (by rw [ByteArray.size_extract]; omega))
      have Cb := Aside0.mk (sum_c (b.extract 0 k) (by rw [ByteArray.size_extract]; omega))
      have Cc := Aside0.mk (sum_c (c.extract 0 k) (by rw [ByteArray.size_extract]; omega))
      rw [ea] at Ca
      rw [eb] at Cb
      rw [ec] at Cc
      have la := onL_lt (c := 65535) (by omega) (a.data.toList.take k)
      have lb := onL_lt (c := 65535) (by omega) (b.data.toList.take k)
      have lc := onL_lt (c := 65535) (by omega) (c.data.toList.take k)
      have x1 := bits_xor la lb
      have x2 := bits_xor (xor_lt la lb) lc
      rw [show (strOfNums ((List.range k).map (part a b c k))).data.toList = (List.range k).map fun j => UInt8.ofNat (mixN a b c j) by
        unfold strOfNums
        simp only [List.map_map]
        apply List.map_congr_left
        intro j hj
        have hj := List.mem_range.1 hj
        simp only [Function.comp]
        unfold part
        rw [if_pos hj]
        rfl, linear_law a b c k hna hnb hnc] at Cd
      generalize strOfNums ((List.range k).map (part a b c k)) = d at hconv hzd Cd
      generalize onL 65535 (a.data.toList.take k) = sa at Ca Cd x1 x2
      generalize onL 65535 (b.data.toList.take k) = sb at Cb Cd x1 x2
      generalize onL 65535 (c.data.toList.take k) = sc at Cc Cd x1 x2
      clear ea eb ec la lb lc hzd HMIN hmin
      have HH1 := HH.out
      have HB1 := HB.out
      have kb : (k : Int) ≤ (b.size : Int) := by omega
      have kc : (k : Int) ≤ (c.size : Int) := by omega
      go_wp2
      go_region_held3 (fun w' => Holds w' w.heap.size k (part a b c k) ∧ Below w.heap.size w w')
        (first | assumption | exact ⟨HH1.drew, below_drew HB1⟩ | exact ⟨HH2, HB2⟩ | exact ⟨by repeat (first | exact HH2 | apply Holds.drewN), by repeat (first | exact HB2 | apply pw_below_drewN)⟩)
        (first | (go_at_call 9; (with_reducible refine (fixed_c _).mono ?_); rintro e w18 ⟨rfl, hb1⟩; have HH2 := HH1.drew.below hb1 HH1.lt hb1.size; have HB2 := below_step_ (below_drew HB1) hb1; clear hb1) | (go_at_call 12; (with_reducible refine (Ca.out _).mono ?_); rintro e w' ⟨rfl, ⟨nd, rfl⟩⟩) | (go_at_call 12; (with_reducible refine (Cb.out _).mono ?_); rintro e w' ⟨rfl, ⟨nd, rfl⟩⟩) | (go_at_call 12; (with_reducible refine (Cc.out _).mono ?_); rintro e w' ⟨rfl, ⟨nd, rfl⟩⟩) | (go_at_call 12; (with_reducible refine (Cd.out _).mono ?_); rintro e w' ⟨rfl, ⟨nd, rfl⟩⟩))
      go_wp2
      go_ret
      exact ⟨rfl, pw_below_drewN HB2 _⟩

theorem linear_any (a b c : ByteArray) (w : World) (ha : a.size ≤ 140737488351232) (hb : b.size ≤ 140737488351232) (hc : c.size ≤ 140737488351232) :
    Calls Try.prog 7 #[.string a, .string b, .string c] w fun e w' => e = .returned (.bool true) ∧ Below w.heap.size w w' := by
  refine linear a b c (min (min (min a.size b.size) c.size) 500) (by omega) (by omega) (by omega) (by omega) ?_ w
  intro ats ty
  rw [min_four]
  simp only [min2_int, pure_bind]
  congr 2
  split <;> split <;> split <;> omega
end Go.Proofs.Ytgdblinoajmdnaa.Linear
