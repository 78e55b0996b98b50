/- The walk of CrcTurned: whatever the text, the place and the turned bits, the call answers true and leaves what lay in memory. Conditions: a text of at most 2^47 bytes, as the row has it. -/
import Derived.Test.YtgdblinoajmdnaaTurn
import Derived.RegionTactic
import Derived.ChangeAlike
namespace Go.Proofs.Ytgdblinoajmdnaa.Turned
open Go.RowKit Go.Proofs.YtgdblinoajmdnaaW.PrintWords Go.Proofs.YtgdblinoajmdnaaW.PrintLast Go.Proofs.YtgdblinoajmdnaaW.PrintMore Go.Proofs.Ytgdblinoajmdnaa.CrcMath Go.Proofs.Ytgdblinoajmdnaa.Facts Go.Proofs.Ytgdblinoajmdnaa.Hold Go.Proofs.Ytgdblinoajmdnaa.Turn

/-- What the row holds ahead of round i. -/
def part (x : ByteArray) (turn k i j : Nat) : Int := (((bt x j).toNat ^^^ dN turn k i j : Nat) : Int)

theorem strOf_size (n : Nat) (f : Nat → Int) : (strOfNums ((List.range n).map f)).size = n := by unfold strOfNums; simp [ByteArray.size]

set_option maxHeartbeats 8000000 in
set_option maxRecDepth 100000 in
theorem turned (s : ByteArray) (at_ : Int) (turn : Nat) (ht : turn < 65536) (m : Nat) (hm : m ≤ s.size) (hm3 : m ≤ 300) (x : ByteArray) (hLm : x.size = m + 2) (hx0 : onL 65535 x.data.toList = 0)
    (hmin : ∀ ats ty, Builtin.min_ ats ty #[.int .i64 (s.size : Int), .int .i64 300] = pure (.int .i64 (m : Int)))
    (C16 : ∀ w, Calls Try.prog 16 #[.string (s.extract 0 m)] w fun e w' => e = .returned (.string x) ∧ Below w.heap.size w w') (A k : Nat) (hA : Go.bits .and .i64 at_ 65535 = (A : Int)) (_hA2 : A ≤ 65535) (hk : 3 ≤ x.size → A % (8 * x.size - 15) = k) (w : World) :
    Calls Try.prog 6 #[.string s, .int .i64 at_, .int .u16 (turn : Int)] w fun e w' => e = .returned (.bool true) ∧ Below w.heap.size w w' := by
  have hcv := fun (W : World) => print_bytes (P := Try.prog) 9 32 5 Try.underlying9 Try.underlying32 Try.underlying5 x W
  have na : (m : Int) ≤ (s.size : Int) := by omega
  have na' : (m : Int) ≤ 9223372036854775807 := by omega
  have na0 : (0 : Int) ≤ (m : Int) := by omega
  have HK := Aside0.mk hk
  have HLM := Aside0.mk hLm
  have H0 := Aside0.mk hx0
  have C := Aside0.mk C16
  clear hk hLm hx0 C16
  by_cases h0 : turn = 0
  · have t0 : ((turn : Int) == 0) = true := by simp [h0]
    clear h0
    go_enter Try.func6, Try.ntmps6
    go_wp2_with (first | (go_at_call 16; (with_reducible refine (C.out _).mono ?_); rintro e w17 ⟨rfl, hb1⟩; have HB := Aside0.mk hb1; clear hb1) | (go_at_call 9; (with_reducible refine (fixed_c _).mono ?_); rintro e w18 ⟨rfl, hb1⟩; have HB2 := Aside0.mk hb1; clear hb1))
    go_ret
    exact ⟨rfl, below_step_ (bytes_below HB.out HB.out.size _ _) HB2.out⟩
  · have t0 : ((turn : Int) == 0) = false := by rw [beq_eq_false_iff_ne]; omega
    have HT := Aside0.mk h0
    clear h0
    by_cases h3 : x.size < 3
    · have t3 : decide ((x.size : Int) < 3) = true := by simp; omega
      clear h3
      go_enter Try.func6, Try.ntmps6
      go_wp2_with (first | (go_at_call 16; (with_reducible refine (C.out _).mono ?_); rintro e w17 ⟨rfl, hb1⟩; have HB := Aside0.mk hb1; clear hb1) | (go_at_call 9; (with_reducible refine (fixed_c _).mono ?_); rintro e w18 ⟨rfl, hb1⟩; have HB2 := Aside0.mk hb1; clear hb1))
      go_ret
      exact ⟨rfl, below_step_ (bytes_below HB.out HB.out.size _ _) HB2.out⟩
    · have t3 : decide ((x.size : Int) < 3) = false := by simp; omega
      have hx3 : 3 ≤ x.size := by omega
      have hx302 : x.size ≤ 302 := by have := HLM.out; omega
      have k0 := HK.out hx3
      have klt : k ≤ 8 * x.size - 16 := by
        rw [← k0]
        have := Nat.mod_lt A (show 8 * x.size - 15 > 0 by omega)
        omega
      have e1 : wrap64 (8 * (x.size : Int)) = 8 * (x.size : Int) := by unfold wrap64; omega
      have e2 : wrap64 (8 * (x.size : Int) - 15) = 8 * (x.size : Int) - 15 := by unfold wrap64; omega
      have e3 : Int.tmod (A : Int) (8 * (x.size : Int) - 15) = (k : Int) := by
        rw [show 8 * (x.size : Int) - 15 = ((8 * x.size - 15 : Nat) : Int) by omega, ← k0]
        rfl
      have e4 : ((A : Int)) % (8 * (x.size : Int) - 15) = (k : Int) := by
        rw [show 8 * (x.size : Int) - 15 = ((8 * x.size - 15 : Nat) : Int) by omega, ← k0]
        rfl
      have e5 : ((8 * (x.size : Int) - 15) == 0) = false := by rw [beq_eq_false_iff_ne]; omega
      have KLT := Aside0.mk klt
      have HX3 := Aside0.mk hx3
      clear h3 HK klt k0
      go_enter Try.func6, Try.ntmps6
      go_wp2_with (first | (go_at_call 16; (with_reducible refine (C.out _).mono ?_); rintro e w17 ⟨rfl, hb1⟩; have HB := Aside0.mk hb1; clear hb1))
      have hH : Holds (Lib.bytesWorld w17 5 x) w17.heap.size x.size (part x turn k 0) := by
        refine (holds_bytes w17 x).congr fun j hj => ?_
        unfold part
        rw [show dN turn k 0 j = 0 from rfl, Nat.xor_zero, (bt_nat x j).1]
      have hB : Below w.heap.size w (Lib.bytesWorld w17 5 x) := bytes_below HB.out HB.out.size _ _
      have hG : w.heap.size ≤ w17.heap.size := HB.out.size
      clear hcv HB C e1 e2 e3 e4 e5 hA hmin
      generalize Lib.bytesWorld w17 5 x = w0 at hH hB ⊢
      have HH := Aside0.mk hH
      have HB := Aside0.mk hB
      clear hH hB
      generalize w17.heap.size = g at HH hG ⊢
      generalize grownCap w17 x.size 0 5 = cap
      have xs1 : (x.size : Int) ≤ 9223372036854775807 := by omega
      have X302 := Aside0.mk hx302
      clear hx302 t3 t0
      go_loopw [9] (fun i wr => ∃ n : Nat, n ≤ 16 ∧ i = .int .i64 n ∧ Aside0 (Holds wr g x.size (part x turn k n)) ∧ Aside0 (Below w.heap.size w wr)) (fun i _ => 16 - (intOf i).toNat)
      case atStart => exact ⟨0, Nat.zero_le _, rfl, HH, HB⟩
      case round =>
        clear HH HB
        obtain ⟨n, hn, rfl, HH, HB⟩ := hrel
        by_cases hlt : n < 16
        · have n0 : (0 : Int) ≤ (n : Int) := by omega
          have n16 : (n : Int) ≤ 16 := by omega
          have nlt : (n : Int) < 16 := by omega
          have hb : Go.bits .and .u16 ((turn : Int) / 2 ^ n) 1 = ((turn / 2 ^ n % 2 : Nat) : Int) := by
            have : (turn : Int) / 2 ^ n = ((turn / 2 ^ n : Nat) : Int) := by push_cast; rfl
            rw [this]
            have h1 : turn / 2 ^ n < 65536 := Nat.lt_of_le_of_lt (Nat.div_le_self _ _) ht
            have := CrcMath.bits_and h1 (show 1 < 65536 by omega)
            rw [show (1 : Int) = ((1 : Nat) : Int) from rfl, this, Nat.and_one_is_mod]
          have htb := Nat.testBit_eq_decide_div_mod_eq (x := turn) (i := n)
          by_cases hbit : turn / 2 ^ n % 2 = 1
          · have tb : (Go.bits .and .u16 ((turn : Int) / 2 ^ n) 1 == 1) = true := by rw [hb, hbit]; rfl
            rw [hbit] at htb
            have TB := Aside0.mk htb
            clear hb htb hbit
            obtain ⟨q, hq⟩ : ∃ q, q = (k + n) / 8 := ⟨_, rfl⟩
            obtain ⟨r, hr⟩ : ∃ r, r = (k + n) % 8 := ⟨_, rfl⟩
            obtain ⟨v, hv⟩ : ∃ v, v = 128 / 2 ^ r := ⟨_, rfl⟩
            have iq : ((k : Int) + (n : Int)) / 8 = (q : Int) := by omega
            have ir : ((k : Int) + (n : Int)) % 8 = (r : Int) := by omega
            have iv : (128 : Int) / 2 ^ r = (v : Int) := by rw [hv]; push_cast; rfl
            have r0 : (0 : Int) ≤ (r : Int) := by omega
            have r8 : (r : Int) ≤ 8 := by omega
            have qlt : q < x.size := by have := KLT.out; have := HX3.out; omega
            have q0 : (0 : Int) ≤ (q : Int) := by omega
            have qi : (q : Int) < (x.size : Int) := by omega
            have k00 : (0 : Int) ≤ (k : Int) := by omega
            have kk : (k : Int) ≤ 3000 := by have := KLT.out; have := X302.out; omega
            have HQ := Aside0.mk hq
            have HR := Aside0.mk hr
            have HV := Aside0.mk hv
            clear hq hr hv
            have hc := HH.out.at_ q qlt
            have hf := HH.out.free q qlt
            go_wp2
            go_region
            go_wp2
            go_roundw
            case rel =>
              refine ⟨n + 1, by omega, by go_num, ⟨?_⟩, ⟨(below_drew HB.out).setCell hG _⟩⟩
              have hq := HQ.out
              refine (HH.out.drew).set qlt _ ?_ ?_
              · unfold part
                have h1 : dN turn k (n + 1) q = dN turn k n q ^^^ v := by
                  show dN turn k n q ^^^ (if turn.testBit n then one (k + n) q else 0) = _
                  rw [TB.out]
                  unfold one
                  rw [if_pos (by simp), if_pos hq.symm, ← HR.out, ← HV.out]
                have hv := HV.out
                have hv2 : v < 256 := by rw [hv]; exact at_byte r (by omega)
                rw [h1, bits8 (Nat.xor_lt_two_pow (n := 8) (bt_nat x q).2 (dN_lt turn k n q)) hv2, Nat.xor_assoc]
              · intro j hj
                unfold part
                have h1 : dN turn k (n + 1) j = dN turn k n j := by
                  show dN turn k n j ^^^ (if turn.testBit n then one (k + n) j else 0) = _
                  unfold one
                  rw [if_neg (show ¬ (k + n) / 8 = j by omega)]
                  simp
                rw [h1]
            case measure => simp [intOf]; omega
          · have tb : (Go.bits .and .u16 ((turn : Int) / 2 ^ n) 1 == 1) = false := by rw [hb, beq_eq_false_iff_ne]; omega
            have hbf : turn.testBit n = false := by rw [htb]; simpa using hbit
            have TB := Aside0.mk hbf
            clear hb htb hbit hbf
            go_wp2
            go_roundw
            case rel =>
              refine ⟨n + 1, by omega, by go_num, ⟨HH.out.congr fun j _ => ?_⟩, HB⟩
              unfold part
              have h1 : dN turn k (n + 1) j = dN turn k n j := by
                show dN turn k n j ^^^ (if turn.testBit n then one (k + n) j else 0) = _
                rw [TB.out]
                simp
              rw [h1]
            case measure => simp [intOf]; omega
        · obtain rfl : n = 16 := by omega
          have hs := holds_reads HH.out (by omega)
          have hconv : (convert 32 9 (.slice (some ⟨g, 0, none⟩) x.size cap)).run Try.prog wr = .ok (.string (strOfNums ((List.range x.size).map (part x turn k 16)))) wr :=
            string_of_reads Try.underlying32 Try.underlying5 Try.underlying9 hs
          have hzd : (strOfNums ((List.range x.size).map (part x turn k 16))).size = x.size := strOf_size _ _
          have hl : (strOfNums ((List.range x.size).map (part x turn k 16))).data.toList = (List.range x.size).map fun (j : Nat) => UInt8.ofNat ((bt x j).toNat ^^^ dN turn k 16 j) := by
            unfold strOfNums
            simp only [List.map_map]
            apply List.map_congr_left
            intro j _
            rfl
          have hno := turned_law x turn k H0.out (by have := KLT.out; have := HX3.out; omega) ht HT.out
          rw [← hl] at hno
          have Cd := Aside0.mk (open_no (strOfNums ((List.range x.size).map (part x turn k 16))) (by rw [hzd]; have := X302.out; omega) (by rw [hzd]; exact Nat.le_trans (by omega) HX3.out) hno)
          clear hno hl hzd hs HH
          generalize strOfNums ((List.range x.size).map (part x turn k 16)) = d at hconv Cd
          go_wp2_with (first | (go_at_call 14; (with_reducible refine (Cd.out _).mono ?_); rintro e w' ⟨rfl, ⟨nd, rfl⟩⟩) | (go_at_call 9; (with_reducible refine (fixed_c _).mono ?_); rintro e w18 ⟨rfl, hb1⟩; have HB2 := Aside0.mk hb1; clear hb1))
          go_ret
          exact ⟨rfl, below_step_ (pw_below_drewN HB.out _) HB2.out⟩

theorem turned_any (s : ByteArray) (at_ : Int) (turn : Nat) (ht : turn < 65536) (w : World) (hs : s.size ≤ 140737488351232) :
    Calls Try.prog 6 #[.string s, .int .i64 at_, .int .u16 (turn : Int)] w fun e w' => e = .returned (.bool true) ∧ Below w.heap.size w w' := by
  have hz : (s.extract 0 (min s.size 300)).size = min s.size 300 := by rw [ByteArray.size_extract]; omega
  have hA : Go.bits .and .i64 at_ 65535 = (((BitVec.ofInt 64 at_).toNat % 65536 : Nat) : Int) := by
    simp only [Go.bits]
    have h1 : (BitVec.ofInt 64 at_ &&& BitVec.ofInt 64 65535).toNat = (BitVec.ofInt 64 at_).toNat % 65536 := by
      rw [BitVec.toNat_and]
      exact Nat.and_two_pow_sub_one_eq_mod _ 16
    show IntKind.i64.wrap ((BitVec.ofInt 64 at_ &&& BitVec.ofInt 64 65535).toNat : Int) = _
    rw [h1, IntKind.wrap_i64]
    omega
  refine turned s at_ turn ht (min s.size 300) (Nat.min_le_left _ _) (Nat.min_le_right _ _) (sealed (s.extract 0 (min s.size 300))) (by rw [sealed_size, hz]) (sealed_zero _) ?_
    (seal_c _ (by omega)) ((BitVec.ofInt 64 at_).toNat % 65536) _ hA (by omega) (fun _ => rfl) w
  intro ats ty
  rw [min_two]
  simp only [min2_int, pure_bind]
  congr 2
  split <;> omega
theorem turned_row (s : ByteArray) (at_ turn : Int) (w : World) (hs : s.size ≤ 140737488351232) (h : (Lit.int .u16 turn).wf = true) :
    Calls Try.prog 6 #[.string s, .int .i64 at_, .int .u16 turn] w fun e w' => e = .returned (.bool true) ∧ Below w.heap.size w w' := by
  have hr := u16_range h
  obtain ⟨c, rfl⟩ : ∃ c : Nat, turn = (c : Int) := ⟨turn.toNat, by omega⟩
  exact turned_any s at_ c (by omega) w hs
end Go.Proofs.Ytgdblinoajmdnaa.Turned
