/- The functions 21 of the program and of the document's answer, as Lean functions, each with the proof that the Go code comes to its answers (lines of the kit's print, gathered). No conditions of their own. -/
import Derived.Test.YticibpginpkbfaaFunA
namespace Go.Proofs.Yticibpginpkbfaa.Fun
open Go.RowKit Go.Proofs.YticibpginpkbfaaW.PrintWords Go.Proofs.YticibpginpkbfaaW.PrintLast Go.Proofs.YticibpginpkbfaaW.PrintMore
attribute [local go_sem] max2_int min2_int max_two min_two max_three min_three max_four min_four   -- for this text's walks alone
set_option linter.unusedVariables false
set_option linter.unusedSimpArgs false
/-! ### zoetroperef08_Tick: function 21 -/
mutual
def zoetroperef08_Tick.j0 : Nat → Int → Int → Int → Int → Int → Int → Int → Int → Int → Int → Option (Int × Int × Int × Int × Int × Int × Int × Int × Int)
  | 0, _, _, _, _, _, _, _, _, _, _ => none
  | k + 1, x1, x115000, x115001, x115002, x115003, x115004, x115005, x115006, x115007, x115008 => zoetroperef08_Tick.l0 k x1 0 x115000 x115001 x115002 x115003 x115004 x115005 x115006 x115007 x115008
def zoetroperef08_Tick.l0 : Nat → Int → Int → Int → Int → Int → Int → Int → Int → Int → Int → Int → Option (Int × Int × Int × Int × Int × Int × Int × Int × Int)
  | 0, _, _, _, _, _, _, _, _, _, _, _ => none
  | k + 1, x1, x5, x115000, x115001, x115002, x115003, x115004, x115005, x115006, x115007, x115008 => if x5 < 5 then ((zoetroperef08_Bit.f x1 x5).bind fun t117 => ((zoetroperef08_With.f x115007 (wrap64 (10 + x5)) t117).bind fun t118 => (zoetroperef08_Tick.l0 k x1 (wrap64 (x5 + 1)) x115000 x115001 x115002 x115003 x115004 x115005 x115006 t118 x115008))) else (some (x115000, x115001, x115002, x115003, x115004, x115005, x115006, x115007, x115008))
end
def zoetroperef08_Tick.f (k : Nat) (a0_0 : Int) (a0_1 : Int) (a0_2 : Int) (a0_3 : Int) (a0_4 : Int) (a0_5 : Int) (a0_6 : Int) (a0_7 : Int) (a0_8 : Int) (a1 : Int) : Option (Int × Int × Int × Int × Int × Int × Int × Int × Int) := if ((Int.tmod (wrap64 ((wrap64 (a0_3)) + 1)) 4294967296) % 4294967296) = a0_5 then ((zoetroperef08_With.f a0_7 15 true).bind fun t116 => (zoetroperef08_Tick.j0 k a1 a0_0 a0_1 a0_2 ((Int.tmod (wrap64 ((wrap64 (a0_3)) + 1)) 4294967296) % 4294967296) a0_4 a0_5 a0_6 t116 a0_8)) else (zoetroperef08_Tick.j0 k a1 a0_0 a0_1 a0_2 ((Int.tmod (wrap64 ((wrap64 (a0_3)) + 1)) 4294967296) % 4294967296) a0_4 a0_5 a0_6 a0_7 a0_8)
theorem zoetroperef08_Tick.mono_l : ∀ k, (∀ y0 y1 y2 y3 y4 y5 y6 y7 y8 y9, LeO (zoetroperef08_Tick.j0 k y0 y1 y2 y3 y4 y5 y6 y7 y8 y9) (zoetroperef08_Tick.j0 (k + 1) y0 y1 y2 y3 y4 y5 y6 y7 y8 y9)) ∧ (∀ y0 y1 y2 y3 y4 y5 y6 y7 y8 y9 y10, LeO (zoetroperef08_Tick.l0 k y0 y1 y2 y3 y4 y5 y6 y7 y8 y9 y10) (zoetroperef08_Tick.l0 (k + 1) y0 y1 y2 y3 y4 y5 y6 y7 y8 y9 y10))
  | 0 => ⟨fun _ _ _ _ _ _ _ _ _ _ r h => by simp [zoetroperef08_Tick.j0] at h, fun _ _ _ _ _ _ _ _ _ _ _ r h => by simp [zoetroperef08_Tick.l0] at h⟩
  | k + 1 => by
    obtain ⟨ih0, ih1⟩ := zoetroperef08_Tick.mono_l k
    refine ⟨?_, ?_⟩
    · intro y0 y1 y2 y3 y4 y5 y6 y7 y8 y9
      unfold zoetroperef08_Tick.j0
      repeat' first
      | (with_reducible exact ih0 _ _ _ _ _ _ _ _ _ _)
      | (with_reducible exact ih1 _ _ _ _ _ _ _ _ _ _ _)
      | (with_reducible exact LeO.refl _)
      | (with_reducible exact LeO.none _)
      | (with_reducible refine LeO.ite ?_ ?_)
      | (with_reducible refine LeO.bind ?_ (fun _ => ?_))
      | exact ih0 _ _ _ _ _ _ _ _ _ _
      | exact ih1 _ _ _ _ _ _ _ _ _ _ _
      | exact LeO.none _
      | refine LeO.ite ?_ ?_
      | refine LeO.bind ?_ (fun _ => ?_)
    · intro y0 y1 y2 y3 y4 y5 y6 y7 y8 y9 y10
      unfold zoetroperef08_Tick.l0
      repeat' first
      | (with_reducible exact ih0 _ _ _ _ _ _ _ _ _ _)
      | (with_reducible exact ih1 _ _ _ _ _ _ _ _ _ _ _)
      | (with_reducible exact LeO.refl _)
      | (with_reducible exact LeO.none _)
      | (with_reducible refine LeO.ite ?_ ?_)
      | (with_reducible refine LeO.bind ?_ (fun _ => ?_))
      | exact ih0 _ _ _ _ _ _ _ _ _ _
      | exact ih1 _ _ _ _ _ _ _ _ _ _ _
      | exact LeO.none _
      | refine LeO.ite ?_ ?_
      | refine LeO.bind ?_ (fun _ => ?_)
theorem zoetroperef08_Tick.mono : ∀ a0 a1 a2 a3 a4 a5 a6 a7 a8 a9 k, LeO (zoetroperef08_Tick.f k a0 a1 a2 a3 a4 a5 a6 a7 a8 a9) (zoetroperef08_Tick.f (k + 1) a0 a1 a2 a3 a4 a5 a6 a7 a8 a9) := by
  intro a0 a1 a2 a3 a4 a5 a6 a7 a8 a9 k
  obtain ⟨ih0, ih1⟩ := zoetroperef08_Tick.mono_l k
  unfold zoetroperef08_Tick.f
  repeat' first
      | (with_reducible exact ih0 _ _ _ _ _ _ _ _ _ _)
      | (with_reducible exact ih1 _ _ _ _ _ _ _ _ _ _ _)
      | (with_reducible exact LeO.refl _)
      | (with_reducible exact LeO.none _)
      | (with_reducible refine LeO.ite ?_ ?_)
      | (with_reducible refine LeO.bind ?_ (fun _ => ?_))
      | exact ih0 _ _ _ _ _ _ _ _ _ _
      | exact ih1 _ _ _ _ _ _ _ _ _ _ _
      | exact LeO.none _
      | refine LeO.ite ?_ ?_
      | refine LeO.bind ?_ (fun _ => ?_)
def zoetroperef08_Tick.T7 : Bool × List (List Nat × List Nat) := (true, [([], []), ([0], [0]), ([], []), ([2], [2]), ([], []), ([], []), ([4, 5], [4, 5]), ([1, 3, 6, 6], [1, 3, 6]), ([0, 1, 2, 3, 4, 5, 6, 7], []), ([8, 7, 7, 0, 1, 2, 3, 4, 5, 6, 7], [7, 8])])
def zoetroperef08_Tick.B7 : List Nat := [0, 1, 0, 4, 0, 0, 48, 127, 255, 511]
theorem zoetroperef08_Tick.tab7 : rtab .any (opsOf Try.f21 7) = zoetroperef08_Tick.T7 := by kernel_rfl
theorem zoetroperef08_Tick.bits7 : waitsOk zoetroperef08_Tick.T7.2 zoetroperef08_Tick.B7 = true := by kernel_rfl
set_option maxHeartbeats 8000000 in
set_option maxRecDepth 100000 in
theorem zoetroperef08_Tick.calls (k : Nat) (a0_0 : Int) (a0_1 : Int) (a0_2 : Int) (a0_3 : Int) (a0_4 : Int) (a0_5 : Int) (a0_6 : Int) (a0_7 : Int) (a0_8 : Int) (a1 : Int) (r1 : Int) (r2 : Int) (r3 : Int) (r4 : Int) (r5 : Int) (r6 : Int) (r7 : Int) (r8 : Int) (r9 : Int) (w : World) (h : zoetroperef08_Tick.f k a0_0 a0_1 a0_2 a0_3 a0_4 a0_5 a0_6 a0_7 a0_8 a1 = some (r1, r2, r3, r4, r5, r6, r7, r8, r9)) :
    Calls Try.prog 21 #[.agg #[.int .u32 a0_0, .int .u32 a0_1, .int .u32 a0_2, .int .u32 a0_3, .int .u32 a0_4, .int .u32 a0_5, .int .u32 a0_6, .int .u32 a0_7, .int .u32 a0_8], .int .u32 a1] w fun e w' => e = .returned (.agg #[.int .u32 r1, .int .u32 r2, .int .u32 r3, .int .u32 r4, .int .u32 r5, .int .u32 r6, .int .u32 r7, .int .u32 r8, .int .u32 r9]) ∧ Below w.heap.size w w' := by
  have hu24 := Try.underlying24
  have HB := Aside0.mk (Below.refl w.heap.size w)
  have H : (if ((Int.tmod (wrap64 ((wrap64 (a0_3)) + 1)) 4294967296) % 4294967296) = a0_5 then ((zoetroperef08_With.f a0_7 15 true).bind fun t116 => (zoetroperef08_Tick.j0 k a1 a0_0 a0_1 a0_2 ((Int.tmod (wrap64 ((wrap64 (a0_3)) + 1)) 4294967296) % 4294967296) a0_4 a0_5 a0_6 t116 a0_8)) else (zoetroperef08_Tick.j0 k a1 a0_0 a0_1 a0_2 ((Int.tmod (wrap64 ((wrap64 (a0_3)) + 1)) 4294967296) % 4294967296) a0_4 a0_5 a0_6 a0_7 a0_8)) = some (r1, r2, r3, r4, r5, r6, r7, r8, r9) := h
  clear h
  have HC3 := Aside0.mk H
  clear H
  go_enter Try.func21, Try.ntmps21
  go_upto_if 17 with (first | ((with_reducible refine gate_dst (N := 2) rfl ?_); refine box_event ?hg (N := 2) ?hd (cs := #[.int .u32 a0_0, .int .u32 a0_1, .int .u32 a0_2, .int .u32 a0_3, .int .u32 a0_4, .int .u32 a0_5, .int .u32 a0_6, .int .u32 a0_7, .int .u32 a0_8]) (t := 24) ?hr ?_; (case hd => rfl); (case hg => rfl); (case hr => first | (go_simp; done) | (go_simp; rfl)); intro gb114 hg w4 hbox hb; have n0_ := Aside0.mk (below_step (by repeat (first | (with_reducible first | exact HB.out | apply below_alloc | apply pw_below_drewN | apply below_drew1) | exact HB.out)) hb); have n1_ := Aside0.mk (hbox); have n2_ := Aside0.mk ((by rw [hg]; exact (below_size (by repeat (first | (with_reducible first | exact HB.out | apply below_alloc | apply pw_below_drewN | apply below_drew1) | exact HB.out))) : w.heap.size ≤ gb114)); have n3_ := Aside0.mk ((by rw [hg]; exact (below_size (by repeat (first | (with_reducible first | exact HB.out | apply below_alloc | apply pw_below_drewN | apply below_drew1) | exact HB.out))) : w.heap.size ≤ gb114)); clear HB; have HB := n0_; have BK114 := n1_; have GW114 := n2_; have GE114 := n3_; clear n0_ n1_ n2_ n3_; clear hb hbox hg) | ((with_reducible refine gate_dst (N := 4) rfl ?_); refine box_event ?hg (N := 4) ?hd (cs := #[.int .u32 0, .int .u32 0, .int .u32 0, .int .u32 0, .int .u32 0, .int .u32 0, .int .u32 0, .int .u32 0, .int .u32 0]) (t := 24) ?hr ?_; (case hd => rfl); (case hg => rfl); (case hr => first | (go_simp; done) | (go_simp; rfl)); intro gb115 hg w5 hbox hb; have n0_ := Aside0.mk (blk_below (g := gb114) (o := .cells #[.int .u32 a0_0, .int .u32 a0_1, .int .u32 a0_2, .int .u32 a0_3, .int .u32 a0_4, .int .u32 a0_5, .int .u32 a0_6, .int .u32 a0_7, .int .u32 a0_8] 24 (0, 0)) (by (with_reducible repeat (first | refine blk_drewN ?_ _ | refine blk_drew ?_ | refine blk_alloc ?_ _)); exact BK114.out) hb); have n1_ := Aside0.mk (below_step (by repeat (first | (with_reducible first | exact HB.out | apply below_alloc | apply pw_below_drewN | apply below_drew1 | refine below_set ?_ GE114.out) | exact HB.out)) hb); have n2_ := Aside0.mk (hbox); have n3_ := Aside0.mk ((by rw [hg]; exact (below_size (by repeat (first | (with_reducible first | exact HB.out | apply below_alloc | apply pw_below_drewN | apply below_drew1 | refine below_set ?_ GE114.out) | exact HB.out))) : w.heap.size ≤ gb115)); have n4_ := Aside0.mk ((by rw [hg]; exact (below_size (by repeat (first | (with_reducible first | exact HB.out | apply below_alloc | apply pw_below_drewN | apply below_drew1 | refine below_set ?_ GE114.out) | exact HB.out))) : w.heap.size ≤ gb115)); have n5_ := Aside0.mk ((by rw [hg]; exact Nat.ne_of_lt (blk_lt (g := gb114) (o := .cells #[.int .u32 a0_0, .int .u32 a0_1, .int .u32 a0_2, .int .u32 a0_3, .int .u32 a0_4, .int .u32 a0_5, .int .u32 a0_6, .int .u32 a0_7, .int .u32 a0_8] 24 (0, 0)) (by (with_reducible repeat (first | refine blk_drewN ?_ _ | refine blk_drew ?_ | refine blk_alloc ?_ _)); exact BK114.out)) : gb114 ≠ gb115)); have n6_ := Aside0.mk ((by rw [hg]; exact Nat.ne_of_gt (blk_lt (g := gb114) (o := .cells #[.int .u32 a0_0, .int .u32 a0_1, .int .u32 a0_2, .int .u32 a0_3, .int .u32 a0_4, .int .u32 a0_5, .int .u32 a0_6, .int .u32 a0_7, .int .u32 a0_8] 24 (0, 0)) (by (with_reducible repeat (first | refine blk_drewN ?_ _ | refine blk_drew ?_ | refine blk_alloc ?_ _)); exact BK114.out)) : gb115 ≠ gb114)); clear BK114; clear HB; have BK114 := n0_; have HB := n1_; have BK115 := n2_; have GW115 := n3_; have GE115 := n4_; have NB114_115 := n5_; have NB115_114 := n6_; clear n0_ n1_ n2_ n3_ n4_ n5_ n6_; clear hb hbox hg; have hnb6 := NB114_115.out; have hnc6 := NB115_114.out; have hcz7_0 : w5.cell? ⟨gb114, 0, none⟩ = some (.int .u32 a0_0) := (blk_cell BK114.out 0).trans rfl; have hcz7_1 : w5.cell? ⟨gb114, 1, none⟩ = some (.int .u32 a0_1) := (blk_cell BK114.out 1).trans rfl; have hcz7_2 : w5.cell? ⟨gb114, 2, none⟩ = some (.int .u32 a0_2) := (blk_cell BK114.out 2).trans rfl; have hcz7_3 : w5.cell? ⟨gb114, 3, none⟩ = some (.int .u32 a0_3) := (blk_cell BK114.out 3).trans rfl; have hcz7_4 : w5.cell? ⟨gb114, 4, none⟩ = some (.int .u32 a0_4) := (blk_cell BK114.out 4).trans rfl; have hcz7_5 : w5.cell? ⟨gb114, 5, none⟩ = some (.int .u32 a0_5) := (blk_cell BK114.out 5).trans rfl; have hcz7_6 : w5.cell? ⟨gb114, 6, none⟩ = some (.int .u32 a0_6) := (blk_cell BK114.out 6).trans rfl; have hcz7_7 : w5.cell? ⟨gb114, 7, none⟩ = some (.int .u32 a0_7) := (blk_cell BK114.out 7).trans rfl; have hcz7_8 : w5.cell? ⟨gb114, 8, none⟩ = some (.int .u32 a0_8) := (blk_cell BK114.out 8).trans rfl; have hfz7_0 := blk_frozen BK114.out 0; have hfz7_1 := blk_frozen BK114.out 1; have hfz7_2 := blk_frozen BK114.out 2; have hfz7_3 := blk_frozen BK114.out 3; have hfz7_4 := blk_frozen BK114.out 4; have hfz7_5 := blk_frozen BK114.out 5; have hfz7_6 := blk_frozen BK114.out 6; have hfz7_7 := blk_frozen BK114.out 7; have hfz7_8 := blk_frozen BK114.out 8))
  (try simp only [Act.put, List.setIfInBounds_toArray, List.set_cons_zero, List.set_cons_succ])
  go_cut [] (fun wc => ∃ (kq : Nat) (x115007_2 : Int), Aside0 (zoetroperef08_Tick.j0 kq a1 a0_0 a0_1 a0_2 ((Int.tmod (wrap64 ((wrap64 (a0_3)) + 1)) 4294967296) % 4294967296) a0_4 a0_5 a0_6 x115007_2 a0_8 = some (r1, r2, r3, r4, r5, r6, r7, r8, r9)) ∧ Aside0 (kq ≤ k) ∧ Aside0 (wc.heap[gb114]? = some (.cells #[.int .u32 a0_0, .int .u32 a0_1, .int .u32 a0_2, .int .u32 ((Int.tmod (wrap64 ((wrap64 (a0_3)) + 1)) 4294967296) % 4294967296), .int .u32 a0_4, .int .u32 a0_5, .int .u32 a0_6, .int .u32 x115007_2, .int .u32 a0_8] 24 (0, 0))) ∧ Aside0 (wc.heap[gb115]? = some (.cells #[.int .u32 0, .int .u32 0, .int .u32 0, .int .u32 0, .int .u32 0, .int .u32 0, .int .u32 0, .int .u32 0, .int .u32 0] 24 (0, 0))) ∧ Aside0 (Below w.heap.size w wc))
  case first =>
    have H := HC3.out
    clear HC3
    by_cases c8 : ((Int.tmod (wrap64 ((wrap64 (a0_3)) + 1)) 4294967296) % 4294967296) = a0_5
    · rw [if_pos c8] at H
      have c8b0 : (((Int.tmod (wrap64 ((wrap64 (a0_3)) + 1)) 4294967296) % 4294967296) == a0_5) = true := beq_iff_eq.mpr c8
      have c8b1 : (((Int.tmod (wrap64 ((wrap64 (a0_3)) + 1)) 4294967296) % 4294967296) != a0_5) = false := bne_eq_false_iff_eq.mpr c8
      clear c8
      (first | rw [c8b0] | (simp only [i64_w, i32_w]; rw [c8b0]) | skip)
      replace H := Option.bind_eq_some_iff.mp H
      obtain ⟨t116, A90, H⟩ := H
      replace H : (zoetroperef08_Tick.j0 k a1 a0_0 a0_1 a0_2 ((Int.tmod (wrap64 ((wrap64 (a0_3)) + 1)) 4294967296) % 4294967296) a0_4 a0_5 a0_6 t116 a0_8) = some (r1, r2, r3, r4, r5, r6, r7, r8, r9) := H
      have A9 := Aside0.mk A90
      clear A90
      have H' := Aside0.mk H
      clear H
      have hnb10 := NB114_115.out
      have hnc10 := NB115_114.out
      have hcz11_0 : w5.cell? ⟨gb114, 0, none⟩ = some (.int .u32 a0_0) := (blk_cell BK114.out 0).trans rfl
      have hcz11_1 : w5.cell? ⟨gb114, 1, none⟩ = some (.int .u32 a0_1) := (blk_cell BK114.out 1).trans rfl
      have hcz11_2 : w5.cell? ⟨gb114, 2, none⟩ = some (.int .u32 a0_2) := (blk_cell BK114.out 2).trans rfl
      have hcz11_3 : w5.cell? ⟨gb114, 3, none⟩ = some (.int .u32 a0_3) := (blk_cell BK114.out 3).trans rfl
      have hcz11_4 : w5.cell? ⟨gb114, 4, none⟩ = some (.int .u32 a0_4) := (blk_cell BK114.out 4).trans rfl
      have hcz11_5 : w5.cell? ⟨gb114, 5, none⟩ = some (.int .u32 a0_5) := (blk_cell BK114.out 5).trans rfl
      have hcz11_6 : w5.cell? ⟨gb114, 6, none⟩ = some (.int .u32 a0_6) := (blk_cell BK114.out 6).trans rfl
      have hcz11_7 : w5.cell? ⟨gb114, 7, none⟩ = some (.int .u32 a0_7) := (blk_cell BK114.out 7).trans rfl
      have hcz11_8 : w5.cell? ⟨gb114, 8, none⟩ = some (.int .u32 a0_8) := (blk_cell BK114.out 8).trans rfl
      have hfz11_0 := blk_frozen BK114.out 0
      have hfz11_1 := blk_frozen BK114.out 1
      have hfz11_2 := blk_frozen BK114.out 2
      have hfz11_3 := blk_frozen BK114.out 3
      have hfz11_4 := blk_frozen BK114.out 4
      have hfz11_5 := blk_frozen BK114.out 5
      have hfz11_6 := blk_frozen BK114.out 6
      have hfz11_7 := blk_frozen BK114.out 7
      have hfz11_8 := blk_frozen BK114.out 8
      go_wp2_with (first | ((with_reducible refine gate_callee (f := 28) rfl ?_); refine goesL_ (some 20) rfl rfl Try.func28 (by kernel_rfl) rfl #[.int .u32 a0_7, .int .i64 15, .bool true] rfl (by (try simp only [List.map_toArray, List.map_cons, List.map_nil]); first | done | rfl | (simp only [List.length_drop, List.length_take]; rfl)) ?_; (with_reducible refine (zoetroperef08_With.calls a0_7 15 true t116 _ A9.out).mono ?_); rintro e w' ⟨rfl, ⟨nd, rfl⟩⟩; refine ⟨_, rfl, ?_⟩))
      go_meet
      case rel => exact ⟨_, (t116), H', ⟨by first | omega | exact Nat.le_refl _⟩, ⟨by (with_reducible repeat (first | refine blk_drewN ?_ _ | refine blk_drew ?_ | refine blk_alloc ?_ _)); refine blk_put (cs := #[.int .u32 a0_0, .int .u32 a0_1, .int .u32 a0_2, .int .u32 ((Int.tmod (wrap64 ((wrap64 (a0_3)) + 1)) 4294967296) % 4294967296), .int .u32 a0_4, .int .u32 a0_5, .int .u32 a0_6, .int .u32 a0_7, .int .u32 a0_8]) ?_ 7 _ rfl; (with_reducible repeat (first | refine blk_drewN ?_ _ | refine blk_drew ?_ | refine blk_alloc ?_ _)); refine blk_put (cs := #[.int .u32 a0_0, .int .u32 a0_1, .int .u32 a0_2, .int .u32 a0_3, .int .u32 a0_4, .int .u32 a0_5, .int .u32 a0_6, .int .u32 a0_7, .int .u32 a0_8]) ?_ 3 _ rfl; (with_reducible repeat (first | refine blk_drewN ?_ _ | refine blk_drew ?_ | refine blk_alloc ?_ _)); exact BK114.out⟩, ⟨by (with_reducible repeat (first | refine blk_drewN ?_ _ | refine blk_drew ?_ | refine blk_alloc ?_ _)); refine blk_far ?_ NB115_114.out _; (with_reducible repeat (first | refine blk_drewN ?_ _ | refine blk_drew ?_ | refine blk_alloc ?_ _)); refine blk_far ?_ NB115_114.out _; (with_reducible repeat (first | refine blk_drewN ?_ _ | refine blk_drew ?_ | refine blk_alloc ?_ _)); exact BK115.out⟩, ⟨by repeat (first | (with_reducible first | exact HB.out | apply below_alloc | apply pw_below_drewN | apply below_drew1 | refine below_set ?_ GE114.out | refine below_set ?_ GE115.out) | exact HB.out)⟩⟩
    · rw [if_neg c8] at H
      have c8b0 : (((Int.tmod (wrap64 ((wrap64 (a0_3)) + 1)) 4294967296) % 4294967296) == a0_5) = false := beq_eq_false_iff_ne.mpr c8
      have c8b1 : (((Int.tmod (wrap64 ((wrap64 (a0_3)) + 1)) 4294967296) % 4294967296) != a0_5) = true := bne_iff_ne.mpr c8
      (first | rw [c8b0] | (simp only [i64_w, i32_w]; rw [c8b0]) | skip)
      have H' := Aside0.mk H
      clear H
      go_wp2
      go_meet
      case rel => exact ⟨_, (a0_7), H', ⟨by first | omega | exact Nat.le_refl _⟩, ⟨by (with_reducible repeat (first | refine blk_drewN ?_ _ | refine blk_drew ?_ | refine blk_alloc ?_ _)); refine blk_put (cs := #[.int .u32 a0_0, .int .u32 a0_1, .int .u32 a0_2, .int .u32 a0_3, .int .u32 a0_4, .int .u32 a0_5, .int .u32 a0_6, .int .u32 a0_7, .int .u32 a0_8]) ?_ 3 _ rfl; (with_reducible repeat (first | refine blk_drewN ?_ _ | refine blk_drew ?_ | refine blk_alloc ?_ _)); exact BK114.out⟩, ⟨by (with_reducible repeat (first | refine blk_drewN ?_ _ | refine blk_drew ?_ | refine blk_alloc ?_ _)); refine blk_far ?_ NB115_114.out _; (with_reducible repeat (first | refine blk_drewN ?_ _ | refine blk_drew ?_ | refine blk_alloc ?_ _)); exact BK115.out⟩, ⟨by repeat (first | (with_reducible first | exact HB.out | apply below_alloc | apply pw_below_drewN | apply below_drew1 | refine below_set ?_ GE114.out | refine below_set ?_ GE115.out) | exact HB.out)⟩⟩
  case rest =>
    clear HC3
    try clear c1
    try clear c2
    try clear p2
    try clear c6
    try clear p6
    try clear c8
    try clear c8b0
    try clear c8b1
    try clear c10
    try clear hcz11_0
    try clear hcz11_1
    try clear hcz11_2
    try clear hcz11_3
    try clear hcz11_4
    try clear hcz11_5
    try clear hcz11_6
    try clear hcz11_7
    try clear hcz11_8
    try clear hcz7_0
    try clear hcz7_1
    try clear hcz7_2
    try clear hcz7_3
    try clear hcz7_4
    try clear hcz7_5
    try clear hcz7_6
    try clear hcz7_7
    try clear hcz7_8
    try clear hfz11_0
    try clear hfz11_1
    try clear hfz11_2
    try clear hfz11_3
    try clear hfz11_4
    try clear hfz11_5
    try clear hfz11_6
    try clear hfz11_7
    try clear hfz11_8
    try clear hfz7_0
    try clear hfz7_1
    try clear hfz7_2
    try clear hfz7_3
    try clear hfz7_4
    try clear hfz7_5
    try clear hfz7_6
    try clear hfz7_7
    try clear hfz7_8
    obtain ⟨kq, x115007_2, HA, HJ2, BK114, BK115, HB⟩ := hcut
    cases kq with
    | zero => exact absurd HA.out (by simp [zoetroperef08_Tick.j0])
    | succ kj2 =>
      have H := HA.out
      clear HA
      simp only [zoetroperef08_Tick.j0] at H
      have H' := Aside0.mk H
      clear H
      go_wp2
      go_loopg [5] kj2 (fun kq v5 w' => ∃ (x5_2 : Int) (x115007_2 : Int), v5 = .int .i64 x5_2 ∧ Aside0 (zoetroperef08_Tick.l0 kq a1 x5_2 a0_0 a0_1 a0_2 ((Int.tmod (wrap64 ((wrap64 (a0_3)) + 1)) 4294967296) % 4294967296) a0_4 a0_5 a0_6 x115007_2 a0_8 = some (r1, r2, r3, r4, r5, r6, r7, r8, r9)) ∧ Aside0 (kq ≤ kj2) ∧ Aside0 (w'.heap[gb114]? = some (.cells #[.int .u32 a0_0, .int .u32 a0_1, .int .u32 a0_2, .int .u32 ((Int.tmod (wrap64 ((wrap64 (a0_3)) + 1)) 4294967296) % 4294967296), .int .u32 a0_4, .int .u32 a0_5, .int .u32 a0_6, .int .u32 x115007_2, .int .u32 a0_8] 24 (0, 0))) ∧ Aside0 (w'.heap[gb115]? = some (.cells #[.int .u32 0, .int .u32 0, .int .u32 0, .int .u32 0, .int .u32 0, .int .u32 0, .int .u32 0, .int .u32 0, .int .u32 0] 24 (0, 0))) ∧ Aside0 (Below w.heap.size w w'))
      case atStart => exact ⟨(0), (x115007_2), (by first | rfl | (simp; done) | (simp [*]; done)), H', ⟨Nat.le_refl _⟩, ⟨by (with_reducible repeat (first | refine blk_drewN ?_ _ | refine blk_drew ?_ | refine blk_alloc ?_ _)); exact BK114.out⟩, ⟨by (with_reducible repeat (first | refine blk_drewN ?_ _ | refine blk_drew ?_ | refine blk_alloc ?_ _)); exact BK115.out⟩, ⟨by repeat (first | (with_reducible first | exact HB.out | apply below_alloc | apply pw_below_drewN | apply below_drew1 | refine below_set ?_ GE114.out | refine below_set ?_ GE115.out) | exact HB.out)⟩⟩
      case round =>
        clear H'
        try clear c1
        try clear c2
        try clear p2
        try clear c6
        try clear p6
        try clear c8
        try clear c8b0
        try clear c8b1
        try clear c10
        try clear hcz11_0
        try clear hcz11_1
        try clear hcz11_2
        try clear hcz11_3
        try clear hcz11_4
        try clear hcz11_5
        try clear hcz11_6
        try clear hcz11_7
        try clear hcz11_8
        try clear hcz7_0
        try clear hcz7_1
        try clear hcz7_2
        try clear hcz7_3
        try clear hcz7_4
        try clear hcz7_5
        try clear hcz7_6
        try clear hcz7_7
        try clear hcz7_8
        try clear hfz11_0
        try clear hfz11_1
        try clear hfz11_2
        try clear hfz11_3
        try clear hfz11_4
        try clear hfz11_5
        try clear hfz11_6
        try clear hfz11_7
        try clear hfz11_8
        try clear hfz7_0
        try clear hfz7_1
        try clear hfz7_2
        try clear hfz7_3
        try clear hfz7_4
        try clear hfz7_5
        try clear hfz7_6
        try clear hfz7_7
        try clear hfz7_8
        try clear p2
        try clear p6
        obtain ⟨x5_2, x115007_2, rfl, HA, HK2, BK114, BK115, HB⟩ := hrel
        cases gk with
        | zero => exact absurd HA.out (by simp [zoetroperef08_Tick.l0])
        | succ k2 =>
          have H := HA.out
          clear HA
          simp only [zoetroperef08_Tick.l0] at H
          by_cases c12 : x5_2 < 5
          · rw [if_pos c12] at H
            have c12b0 : decide (x5_2 < 5) = true := decide_eq_true c12
            clear c12
            replace H := Option.bind_eq_some_iff.mp H
            obtain ⟨t117, A130, H⟩ := H
            replace H : ((zoetroperef08_With.f x115007_2 (wrap64 (10 + x5_2)) t117).bind fun t118 => (zoetroperef08_Tick.l0 k2 a1 (wrap64 (x5_2 + 1)) a0_0 a0_1 a0_2 ((Int.tmod (wrap64 ((wrap64 (a0_3)) + 1)) 4294967296) % 4294967296) a0_4 a0_5 a0_6 t118 a0_8)) = some (r1, r2, r3, r4, r5, r6, r7, r8, r9) := H
            have A13 := Aside0.mk A130
            clear A130
            replace H := Option.bind_eq_some_iff.mp H
            obtain ⟨t118, A140, H⟩ := H
            replace H : (zoetroperef08_Tick.l0 k2 a1 (wrap64 (x5_2 + 1)) a0_0 a0_1 a0_2 ((Int.tmod (wrap64 ((wrap64 (a0_3)) + 1)) 4294967296) % 4294967296) a0_4 a0_5 a0_6 t118 a0_8) = some (r1, r2, r3, r4, r5, r6, r7, r8, r9) := H
            have A14 := Aside0.mk A140
            clear A140
            have H' := Aside0.mk H
            clear H
            try go_wp2
            have n0_ := Aside0.mk (blk_drew BK114.out)
            have n1_ := Aside0.mk (blk_drew BK115.out)
            have n2_ := Aside0.mk (below_drew1 HB.out)
            clear BK114
            clear BK115
            clear HB
            have BK114 := n0_
            have BK115 := n1_
            have HB := n2_
            clear n0_ n1_ n2_
            refine start_ (n := 10) (S := fun w' => w'.cell? ⟨gb114, 0, none⟩ = some (.int .u32 a0_0) ∧ w'.cell? ⟨gb114, 1, none⟩ = some (.int .u32 a0_1) ∧ w'.cell? ⟨gb114, 2, none⟩ = some (.int .u32 a0_2) ∧ w'.cell? ⟨gb114, 3, none⟩ = some (.int .u32 ((Int.tmod (wrap64 ((wrap64 (a0_3)) + 1)) 4294967296) % 4294967296)) ∧ w'.cell? ⟨gb114, 4, none⟩ = some (.int .u32 a0_4) ∧ w'.cell? ⟨gb114, 5, none⟩ = some (.int .u32 a0_5) ∧ w'.cell? ⟨gb114, 6, none⟩ = some (.int .u32 a0_6) ∧ w'.cell? ⟨gb114, 7, none⟩ = some (.int .u32 x115007_2) ∧ w'.cell? ⟨gb114, 8, none⟩ = some (.int .u32 a0_8)) (ds := [9]) #[false, false, false, false, false, false, false, false, false, false] (by kernel_rfl) rfl rfl ⟨(blk_cell BK114.out 0).trans rfl, (blk_cell BK114.out 1).trans rfl, (blk_cell BK114.out 2).trans rfl, (blk_cell BK114.out 3).trans rfl, (blk_cell BK114.out 4).trans rfl, (blk_cell BK114.out 5).trans rfl, (blk_cell BK114.out 6).trans rfl, (blk_cell BK114.out 7).trans rfl, (blk_cell BK114.out 8).trans rfl⟩ (fun hHeld => ?_); refine with_tabW zoetroperef08_Tick.tab7 zoetroperef08_Tick.bits7 (fun HT_ HW_ => ?_)
            generalize wr.drew = w15 at BK114 BK115 HB hHeld ⊢
            refine pure_ (i := 0) (N := some 26) (v := ?_) (a' := ?_) #[true, false, false, false, false, false, false, false, false, false] rfl rfl (any_of HT_.out (by kernel_rfl)) (fun _ _ _ h => h) (Or.inl ⟨by rfl, ?_⟩) ?_ ?_
            rotate_left
            · intro w'
              go_simp
              with_reducible rfl
            rotate_left
            · simp only [Act.put, List.setIfInBounds_toArray, List.set_cons_zero, List.set_cons_succ, i64_w, i32_w]
              rfl
            refine pure_ (i := 2) (N := some 28) (v := ?_) (a' := ?_) #[true, false, true, false, false, false, false, false, false, false] rfl rfl (any_of HT_.out (by kernel_rfl)) (fun _ _ _ h => h) (Or.inl ⟨by rfl, ?_⟩) ?_ ?_
            rotate_left
            · intro w'
              go_simp
              with_reducible rfl
            rotate_left
            · simp only [Act.put, List.setIfInBounds_toArray, List.set_cons_zero, List.set_cons_succ, i64_w, i32_w]
              rfl
            refine pure_ (i := 3) (N := some 29) (v := ?_) (a' := ?_) #[true, false, true, true, false, false, false, false, false, false] rfl rfl (any_of HT_.out (by kernel_rfl)) (fun _ _ _ h => h) (Or.inl ⟨by rfl, ?_⟩) ?_ ?_
            rotate_left
            · intro w'
              go_simp
              with_reducible rfl
            rotate_left
            · simp only [Act.put, List.setIfInBounds_toArray, List.set_cons_zero, List.set_cons_succ, i64_w, i32_w]
              rfl
            refine pure_ (i := 4) (N := some 30) (v := ?_) (a' := ?_) #[true, false, true, true, true, false, false, false, false, false] rfl rfl (any_of HT_.out (by kernel_rfl)) (fun _ _ _ h => h) (Or.inl ⟨by rfl, ?_⟩) ?_ ?_
            rotate_left
            · intro w'
              go_simp
              with_reducible rfl
            rotate_left
            · simp only [Act.put, List.setIfInBounds_toArray, List.set_cons_zero, List.set_cons_succ, i64_w, i32_w]
              rfl
            refine pure_ (i := 5) (N := some 31) (v := ?_) (a' := ?_) #[true, false, true, true, true, true, false, false, false, false] rfl rfl (any_of HT_.out (by kernel_rfl)) (fun _ _ _ h => h) (Or.inl ⟨by rfl, ?_⟩) ?_ ?_
            rotate_left
            · intro w'
              go_simp
              with_reducible rfl
            rotate_left
            · simp only [Act.put, List.setIfInBounds_toArray, List.set_cons_zero, List.set_cons_succ, i64_w, i32_w]
              rfl
            refine take_ (i := 1) (N := some 27) (v := ?_) (a' := ?_) #[true, true, true, true, true, true, false, false, false, false] rfl rfl (take_ofW HT_.out HW_.out (by kernel_rfl)) (fun _ _ _ h => h) (Or.inl ⟨by rfl, ?_⟩) hHeld ?_ ?_
            rotate_left
            · rintro w' ⟨s0, s1, s2, s3, s4, s5, s6, s7, s8⟩
              go_simp
              with_reducible rfl
            rotate_left
            · simp only [Act.put, List.setIfInBounds_toArray, List.set_cons_zero, List.set_cons_succ, i64_w, i32_w]
              rfl
            refine one_ (i := 6) (N := some 32) #[true, true, true, true, true, true, true, false, false, false] rfl rfl (one_of HT_.out (by kernel_rfl)) (by decide) (fun K hK => ?_)
            refine goes_ Try.func29 (by kernel_rfl) rfl #[.int .u32 a1, .int .i64 x5_2] (by rfl) rfl rfl (by (try simp only [List.map_toArray, List.map_cons, List.map_nil]); first | done | rfl | (simp only [List.length_drop, List.length_take]; rfl)) ?_
            with_reducible refine (zoetroperef08_Bit.calls a1 x5_2 t117 _ A13.out).mono ?_
            rintro e w' ⟨rfl, ⟨nd, rfl⟩⟩
            refine ⟨_, rfl, ?_⟩
            refine hK.out _ _ ⟨(blk_cell BK114.out 0).trans rfl, (blk_cell BK114.out 1).trans rfl, (blk_cell BK114.out 2).trans rfl, (blk_cell BK114.out 3).trans rfl, (blk_cell BK114.out 4).trans rfl, (blk_cell BK114.out 5).trans rfl, (blk_cell BK114.out 6).trans rfl, (blk_cell BK114.out 7).trans rfl, (blk_cell BK114.out 8).trans rfl⟩ (fun hHeld => ?_)
            clear hK K
            refine norm_ (a' := ?_) ?_ ?_
            rotate_left
            · show Act.put _ (some 32) _ = _
              simp only [Act.put, List.setIfInBounds_toArray, List.set_cons_zero, List.set_cons_succ, i64_w, i32_w]
              rfl
            refine one_ (i := 7) (N := some 33) #[true, true, true, true, true, true, true, true, false, false] rfl rfl (one_of HT_.out (by kernel_rfl)) (by decide) (fun K hK => ?_)
            refine goes_ Try.func28 (by kernel_rfl) rfl #[.int .u32 x115007_2, .int .i64 (wrap64 (10 + x5_2)), .bool t117] (by rfl) rfl rfl (by (try simp only [List.map_toArray, List.map_cons, List.map_nil]); first | done | rfl | (simp only [List.length_drop, List.length_take]; rfl)) ?_
            with_reducible refine (zoetroperef08_With.calls x115007_2 (wrap64 (10 + x5_2)) t117 t118 _ A14.out).mono ?_
            rintro e w' ⟨rfl, ⟨nd, rfl⟩⟩
            refine ⟨_, rfl, ?_⟩
            refine hK.out _ _ ⟨(blk_cell BK114.out 0).trans rfl, (blk_cell BK114.out 1).trans rfl, (blk_cell BK114.out 2).trans rfl, (blk_cell BK114.out 3).trans rfl, (blk_cell BK114.out 4).trans rfl, (blk_cell BK114.out 5).trans rfl, (blk_cell BK114.out 6).trans rfl, (blk_cell BK114.out 7).trans rfl, (blk_cell BK114.out 8).trans rfl⟩ (fun hHeld => ?_)
            clear hK K
            refine norm_ (a' := ?_) ?_ ?_
            rotate_left
            · show Act.put _ (some 33) _ = _
              simp only [Act.put, List.setIfInBounds_toArray, List.set_cons_zero, List.set_cons_succ, i64_w, i32_w]
              rfl
            refine pure_ (i := 8) (N := some 34) (v := ?_) (a' := ?_) #[true, true, true, true, true, true, true, true, true, false] rfl rfl (any_of HT_.out (by kernel_rfl)) (fun _ _ _ h => h) (Or.inl ⟨by rfl, ?_⟩) ?_ ?_
            rotate_left
            · intro w'
              go_simp
              with_reducible rfl
            rotate_left
            · simp only [Act.put, List.setIfInBounds_toArray, List.set_cons_zero, List.set_cons_succ, i64_w, i32_w]
              rfl
            refine last_ (i := 9) (N := none) #[true, true, true, true, true, true, true, true, true, true] rfl rfl (one_of HT_.out (by kernel_rfl)) (by decide) (fun K hK => ?_)
            have hs16 : w15.cell? ⟨gb114, 7, none⟩ = some (.int .u32 x115007_2) := (blk_cell BK114.out 7).trans rfl
            have hfs16 := blk_frozen BK114.out 7
            have hns16_1 := NB115_114.out
            have hms16_1 := NB114_115.out
            refine skip_ (w1 := ?_) (by rfl) rfl ?_ ?_
            rotate_left
            · go_simp
              rfl
            refine hK.out _ _ ?_
            clear hK K
            refine done_ (done_of HT_.out (by kernel_rfl)) ?_
            try go_wp2
            go_roundg k2
            case measure => have := HJ2.out; have := HK2.out; omega
            case rel => exact ⟨(wrap64 (x5_2 + 1)), (t118), (by first | rfl | (simp; done) | (simp [*]; done)), H', ⟨by have := HJ2.out; have := HK2.out; omega⟩, ⟨by (with_reducible repeat (first | refine blk_drewN ?_ _ | refine blk_drew ?_ | refine blk_alloc ?_ _)); refine blk_put (cs := #[.int .u32 a0_0, .int .u32 a0_1, .int .u32 a0_2, .int .u32 ((Int.tmod (wrap64 ((wrap64 (a0_3)) + 1)) 4294967296) % 4294967296), .int .u32 a0_4, .int .u32 a0_5, .int .u32 a0_6, .int .u32 x115007_2, .int .u32 a0_8]) ?_ 7 _ rfl; (with_reducible repeat (first | refine blk_drewN ?_ _ | refine blk_drew ?_ | refine blk_alloc ?_ _)); exact BK114.out⟩, ⟨by (with_reducible repeat (first | refine blk_drewN ?_ _ | refine blk_drew ?_ | refine blk_alloc ?_ _)); refine blk_far ?_ NB115_114.out _; (with_reducible repeat (first | refine blk_drewN ?_ _ | refine blk_drew ?_ | refine blk_alloc ?_ _)); exact BK115.out⟩, ⟨by repeat (first | (with_reducible first | exact HB.out | apply below_alloc | apply pw_below_drewN | apply below_drew1 | refine below_set ?_ GE114.out | refine below_set ?_ GE115.out) | exact HB.out)⟩⟩
          · rw [if_neg c12] at H
            have c12b0 : decide (x5_2 < 5) = false := decide_eq_false c12
            clear c12
            simp only [Option.some.injEq, Prod.mk.injEq] at H
            obtain ⟨rfl, rfl, rfl, rfl, rfl, rfl, rfl, rfl, rfl⟩ := H
            have hnb17 := NB114_115.out
            have hnc17 := NB115_114.out
            have hcz18_0 : wr.cell? ⟨gb114, 0, none⟩ = some (.int .u32 a0_0) := (blk_cell BK114.out 0).trans rfl
            have hcz18_1 : wr.cell? ⟨gb114, 1, none⟩ = some (.int .u32 a0_1) := (blk_cell BK114.out 1).trans rfl
            have hcz18_2 : wr.cell? ⟨gb114, 2, none⟩ = some (.int .u32 a0_2) := (blk_cell BK114.out 2).trans rfl
            have hcz18_3 : wr.cell? ⟨gb114, 3, none⟩ = some (.int .u32 ((Int.tmod (wrap64 ((wrap64 (a0_3)) + 1)) 4294967296) % 4294967296)) := (blk_cell BK114.out 3).trans rfl
            have hcz18_4 : wr.cell? ⟨gb114, 4, none⟩ = some (.int .u32 a0_4) := (blk_cell BK114.out 4).trans rfl
            have hcz18_5 : wr.cell? ⟨gb114, 5, none⟩ = some (.int .u32 a0_5) := (blk_cell BK114.out 5).trans rfl
            have hcz18_6 : wr.cell? ⟨gb114, 6, none⟩ = some (.int .u32 a0_6) := (blk_cell BK114.out 6).trans rfl
            have hcz18_7 : wr.cell? ⟨gb114, 7, none⟩ = some (.int .u32 x115007_2) := (blk_cell BK114.out 7).trans rfl
            have hcz18_8 : wr.cell? ⟨gb114, 8, none⟩ = some (.int .u32 a0_8) := (blk_cell BK114.out 8).trans rfl
            have hfz18_0 := blk_frozen BK114.out 0
            have hfz18_1 := blk_frozen BK114.out 1
            have hfz18_2 := blk_frozen BK114.out 2
            have hfz18_3 := blk_frozen BK114.out 3
            have hfz18_4 := blk_frozen BK114.out 4
            have hfz18_5 := blk_frozen BK114.out 5
            have hfz18_6 := blk_frozen BK114.out 6
            have hfz18_7 := blk_frozen BK114.out 7
            have hfz18_8 := blk_frozen BK114.out 8
            have hcz19_0 : wr.cell? ⟨gb115, 0, none⟩ = some (.int .u32 0) := (blk_cell BK115.out 0).trans rfl
            have hcz19_1 : wr.cell? ⟨gb115, 1, none⟩ = some (.int .u32 0) := (blk_cell BK115.out 1).trans rfl
            have hcz19_2 : wr.cell? ⟨gb115, 2, none⟩ = some (.int .u32 0) := (blk_cell BK115.out 2).trans rfl
            have hcz19_3 : wr.cell? ⟨gb115, 3, none⟩ = some (.int .u32 0) := (blk_cell BK115.out 3).trans rfl
            have hcz19_4 : wr.cell? ⟨gb115, 4, none⟩ = some (.int .u32 0) := (blk_cell BK115.out 4).trans rfl
            have hcz19_5 : wr.cell? ⟨gb115, 5, none⟩ = some (.int .u32 0) := (blk_cell BK115.out 5).trans rfl
            have hcz19_6 : wr.cell? ⟨gb115, 6, none⟩ = some (.int .u32 0) := (blk_cell BK115.out 6).trans rfl
            have hcz19_7 : wr.cell? ⟨gb115, 7, none⟩ = some (.int .u32 0) := (blk_cell BK115.out 7).trans rfl
            have hcz19_8 : wr.cell? ⟨gb115, 8, none⟩ = some (.int .u32 0) := (blk_cell BK115.out 8).trans rfl
            have hfz19_0 := blk_frozen BK115.out 0
            have hfz19_1 := blk_frozen BK115.out 1
            have hfz19_2 := blk_frozen BK115.out 2
            have hfz19_3 := blk_frozen BK115.out 3
            have hfz19_4 := blk_frozen BK115.out 4
            have hfz19_5 := blk_frozen BK115.out 5
            have hfz19_6 := blk_frozen BK115.out 6
            have hfz19_7 := blk_frozen BK115.out 7
            have hfz19_8 := blk_frozen BK115.out 8
            go_wp2
            refine bodyPost_ret (results_cell_row rfl _ _ gb115 24 #[.int .u32 a0_0, .int .u32 a0_1, .int .u32 a0_2, .int .u32 ((Int.tmod (wrap64 ((wrap64 (a0_3)) + 1)) 4294967296) % 4294967296), .int .u32 a0_4, .int .u32 a0_5, .int .u32 a0_6, .int .u32 x115007_2, .int .u32 a0_8] (0, 0) _ rfl (by (with_reducible repeat (first | refine blk_drewN ?_ _ | refine blk_drew ?_ | refine blk_alloc ?_ _)); refine blk_put (cs := #[.int .u32 a0_0, .int .u32 a0_1, .int .u32 a0_2, .int .u32 ((Int.tmod (wrap64 ((wrap64 (a0_3)) + 1)) 4294967296) % 4294967296), .int .u32 a0_4, .int .u32 a0_5, .int .u32 a0_6, .int .u32 x115007_2, .int .u32 0]) ?_ 8 _ rfl; (with_reducible repeat (first | refine blk_drewN ?_ _ | refine blk_drew ?_ | refine blk_alloc ?_ _)); refine blk_put (cs := #[.int .u32 a0_0, .int .u32 a0_1, .int .u32 a0_2, .int .u32 ((Int.tmod (wrap64 ((wrap64 (a0_3)) + 1)) 4294967296) % 4294967296), .int .u32 a0_4, .int .u32 a0_5, .int .u32 a0_6, .int .u32 0, .int .u32 0]) ?_ 7 _ rfl; (with_reducible repeat (first | refine blk_drewN ?_ _ | refine blk_drew ?_ | refine blk_alloc ?_ _)); refine blk_put (cs := #[.int .u32 a0_0, .int .u32 a0_1, .int .u32 a0_2, .int .u32 ((Int.tmod (wrap64 ((wrap64 (a0_3)) + 1)) 4294967296) % 4294967296), .int .u32 a0_4, .int .u32 a0_5, .int .u32 0, .int .u32 0, .int .u32 0]) ?_ 6 _ rfl; (with_reducible repeat (first | refine blk_drewN ?_ _ | refine blk_drew ?_ | refine blk_alloc ?_ _)); refine blk_put (cs := #[.int .u32 a0_0, .int .u32 a0_1, .int .u32 a0_2, .int .u32 ((Int.tmod (wrap64 ((wrap64 (a0_3)) + 1)) 4294967296) % 4294967296), .int .u32 a0_4, .int .u32 0, .int .u32 0, .int .u32 0, .int .u32 0]) ?_ 5 _ rfl; (with_reducible repeat (first | refine blk_drewN ?_ _ | refine blk_drew ?_ | refine blk_alloc ?_ _)); refine blk_put (cs := #[.int .u32 a0_0, .int .u32 a0_1, .int .u32 a0_2, .int .u32 ((Int.tmod (wrap64 ((wrap64 (a0_3)) + 1)) 4294967296) % 4294967296), .int .u32 0, .int .u32 0, .int .u32 0, .int .u32 0, .int .u32 0]) ?_ 4 _ rfl; (with_reducible repeat (first | refine blk_drewN ?_ _ | refine blk_drew ?_ | refine blk_alloc ?_ _)); refine blk_put (cs := #[.int .u32 a0_0, .int .u32 a0_1, .int .u32 a0_2, .int .u32 0, .int .u32 0, .int .u32 0, .int .u32 0, .int .u32 0, .int .u32 0]) ?_ 3 _ rfl; (with_reducible repeat (first | refine blk_drewN ?_ _ | refine blk_drew ?_ | refine blk_alloc ?_ _)); refine blk_put (cs := #[.int .u32 a0_0, .int .u32 a0_1, .int .u32 0, .int .u32 0, .int .u32 0, .int .u32 0, .int .u32 0, .int .u32 0, .int .u32 0]) ?_ 2 _ rfl; (with_reducible repeat (first | refine blk_drewN ?_ _ | refine blk_drew ?_ | refine blk_alloc ?_ _)); refine blk_put (cs := #[.int .u32 a0_0, .int .u32 0, .int .u32 0, .int .u32 0, .int .u32 0, .int .u32 0, .int .u32 0, .int .u32 0, .int .u32 0]) ?_ 1 _ rfl; (with_reducible repeat (first | refine blk_drewN ?_ _ | refine blk_drew ?_ | refine blk_alloc ?_ _)); refine blk_put (cs := #[.int .u32 0, .int .u32 0, .int .u32 0, .int .u32 0, .int .u32 0, .int .u32 0, .int .u32 0, .int .u32 0, .int .u32 0]) ?_ 0 _ rfl; (with_reducible repeat (first | refine blk_drewN ?_ _ | refine blk_drew ?_ | refine blk_alloc ?_ _)); exact BK115.out) Try.underlying24 rfl (by kernel_rfl)) rfl ?_
            exact ⟨by first | rfl | (simp [errW_none, errW_some] <;> rfl) | (simp [*, errW_none, errW_some] <;> rfl), by repeat (first | (with_reducible first | exact HB.out | apply below_alloc | apply pw_below_drewN | apply below_drew1 | refine below_set ?_ GE114.out | refine below_set ?_ GE115.out) | exact HB.out)⟩

end Go.Proofs.Yticibpginpkbfaa.Fun
