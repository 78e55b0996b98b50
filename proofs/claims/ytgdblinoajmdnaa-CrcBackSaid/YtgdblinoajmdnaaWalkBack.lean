/- The walk of CrcBack: whatever the sum and the texts, the call answers true and leaves what lay in memory. Conditions: texts of at most 2^47 bytes, as the row has them. -/
import Derived.Test.YtgdblinoajmdnaaFacts
namespace Go.Proofs.Ytgdblinoajmdnaa.Back
open Go.RowKit Go.Proofs.YtgdblinoajmdnaaW.PrintWords Go.Proofs.YtgdblinoajmdnaaW.PrintLast Go.Proofs.YtgdblinoajmdnaaW.PrintMore Go.Proofs.Ytgdblinoajmdnaa.CrcMath Go.Proofs.Ytgdblinoajmdnaa.Facts

set_option maxHeartbeats 8000000 in
set_option maxRecDepth 100000 in
theorem back (c : Nat) (hc : c < 65536) (a b : ByteArray) (ha : a.size ≤ 140737488351232) (hb : b.size ≤ 140737488351232) (w : World) :
    Calls Try.prog 5 #[.int .u16 (c : Int), .string a, .string b] w fun e w' => e = .returned (.bool true) ∧ Below w.heap.size w w' := by
  have HB := Aside0.mk (Below.refl w.heap.size w)
  have hab : (a ++ b).size = a.size + b.size := ByteArray.size_append
  have hss : (sealed (a ++ b)).size = a.size + b.size + 2 := by rw [sealed_size, hab]
  have C16 := Aside0.mk (seal_c (a ++ b) (by omega))
  have C14 := Aside0.mk (open_yes (sealed (a ++ b)) (by omega) (by omega) (sealed_zero _))
  rw [sealed_opened] at C14
  have C12 := Aside0.mk (sum_c (sealed (a ++ b)) (by omega))
  rw [sealed_zero] at C12
  have Ca := Aside0.mk (on_c hc a (by omega))
  have Cb := Aside0.mk (on_c (onL_lt hc a.data.toList) b (by omega))
  have Cab := Aside0.mk (on_c hc (a ++ b) (by omega))
  rw [show onL c (a ++ b).data.toList = onL (onL c a.data.toList) b.data.toList by rw [← onL_append]; congr 1] at Cab
  have g1 : decide (a.size + b.size ≤ 9223372036854775807) = true := by simp; omega
  have g2 : (9223372036854775807 < a.size + b.size) = False := by simp; omega
  have g3 : (a.size + b.size ≤ 9223372036854775807) = True := by simp; omega
  have hw : wrap64 ((a.size : Int) + (b.size : Int)) = (a.size : Int) + (b.size : Int) := by unfold wrap64; omega
  have hw2 : wrap64 ((a.size : Int) + (b.size : Int) + 2) = (a.size : Int) + (b.size : Int) + 2 := by unfold wrap64; omega
  have hE : (((sealed (a ++ b)).size : Int) == (a.size : Int) + (b.size : Int) + 2) = true := by rw [hss]; simp
  have t1 : ((a ++ b).toList == (a ++ b).toList) = true := by simp
  clear hss hab
  have HE := Aside0.mk hE
  clear hE
  have HC := Aside0.mk hc
  clear hc
  go_enter Try.func5, Try.ntmps5
  go_wp2_with (first
    | (go_at_call 16; (with_reducible refine (C16.out _).mono ?_); rintro e w17 ⟨rfl, hb1⟩; replace HB := Aside0.mk (below_step_ (by repeat (first | (with_reducible first | exact HB.out | apply below_alloc | apply pw_below_drewN | apply below_drew1) | exact HB.out)) hb1); clear hb1)
    | (go_at_call 14; (with_reducible refine (C14.out _).mono ?_); rintro e w' ⟨rfl, ⟨nd, rfl⟩⟩)
    | (go_at_call 9; (with_reducible refine (fixed_c _).mono ?_); rintro e w18 ⟨rfl, hb1⟩; replace HB := Aside0.mk (below_step_ (by repeat (first | (with_reducible first | exact HB.out | apply below_alloc | apply pw_below_drewN | apply below_drew1) | exact HB.out)) hb1); clear hb1)
    | (go_at_call 12; (with_reducible refine (C12.out _).mono ?_); rintro e w' ⟨rfl, ⟨nd, rfl⟩⟩)
    | (go_at_call 10; (with_reducible refine (Ca.out _).mono ?_); rintro e w' ⟨rfl, ⟨nd, rfl⟩⟩)
    | (go_at_call 10; (with_reducible refine (Cb.out _).mono ?_); rintro e w' ⟨rfl, ⟨nd, rfl⟩⟩)
    | (go_at_call 10; (with_reducible refine (Cab.out _).mono ?_); rintro e w' ⟨rfl, ⟨nd, rfl⟩⟩))
  go_ret
  exact ⟨congrArg (fun x => Ending.returned (Value.bool x)) HE.out, by repeat (first | (with_reducible first | exact HB.out | apply below_alloc | apply pw_below_drewN | apply below_drew1) | exact HB.out)⟩
end Go.Proofs.Ytgdblinoajmdnaa.Back
