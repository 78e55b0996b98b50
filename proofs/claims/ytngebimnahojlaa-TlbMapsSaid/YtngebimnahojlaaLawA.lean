/- The walks of TlbMaps and TlbWrites: whatever the buffer and the words, the call answers true and leaves what lay in memory. Conditions: words are words, as the row has them. -/
import Derived.Test.YtngebimnahojlaaPair
import Derived.Outline
namespace Go.Proofs.Ytngebimnahojlaa.LawA
open Go.RowKit Go.Proofs.Ytngebimnahojlaa.Frm Go.Proofs.Ytngebimnahojlaa.Con Go.Proofs.Ytngebimnahojlaa.Num Go.Proofs.Ytngebimnahojlaa.Pair Go.Proofs.YtngebimnahojlaaW.PrintWords Go.Proofs.YtngebimnahojlaaW.PrintLast Go.Proofs.YtngebimnahojlaaW.PrintMore
set_option linter.unusedVariables false
set_option linter.unusedSimpArgs false
set_option maxHeartbeats 8000000 in
set_option maxRecDepth 100000 in
theorem maps_raw (h l : Nat → Int) (xs : List Value) (hxe : xs = cells16 h l) (hx : xs.length = 16) (a s x c x2 c2 r : Int)
    (p : Both 11 12 #[.agg xs.toArray, .int .u32 a, .int .u32 s, .bool false] (.tuple #[.int .u32 x, .int .i64 c])) (q : Both 11 12 #[.agg xs.toArray, .int .u32 a, .int .u32 s, .bool true] (.tuple #[.int .u32 x2, .int .i64 c2]))
    (f : Both 13 14 #[.agg xs.toArray, .int .u32 a, .int .u32 s] (.int .i64 r)) (w : World) :
    Calls Try.prog 4 #[.agg xs.toArray, .int .u32 a, .int .u32 s] w fun e w' => e = .returned (.bool true) ∧ Below w.heap.size w w' := by
  have HX := Aside0.mk hx
  have HXE := Aside0.mk hxe
  clear hxe
  have P1 := Aside0.mk p.1
  have P2 := Aside0.mk p.2
  have Q1 := Aside0.mk q.1
  have Q2 := Aside0.mk q.2
  have F1 := Aside0.mk f.1
  have F2 := Aside0.mk f.2
  clear hx p q f
  go_enter Try.func4, Try.ntmps4
  go_upto_region 1 with fail
  have O0 : Aside0 (Owns w (w.alloc (.cells xs.toArray 26)) [(w.heap.size, xs)]) := ⟨(Owns.start w).new xs 26⟩
  generalize w.alloc (.cells xs.toArray 26) = W0 at O0 ⊢
  go_upto_region 2 with (first | (refine wpList_load_mid rfl 26 _ rfl (w.heap.size) 0 rfl xs _ (O0.out.range 0 _ _ rfl) Try.underlying26 rfl (size26.trans (by rw [HX.out])) ?_) | (go_at_call 11; (with_reducible refine (P1.out _).mono ?_); rintro e w1 ⟨rfl, hb⟩; have O1 : Aside0 (Owns w w1 [(w.heap.size, xs)]) := ⟨O0.out.call hb⟩; clear hb))
  go_upto_region 3 with (first | (refine wpList_load_mid rfl 26 _ rfl (w.heap.size) 0 rfl xs _ (O1.out.range 0 _ _ rfl) Try.underlying26 rfl (size26.trans (by rw [HX.out])) ?_) | (go_at_call 12; (with_reducible refine (P2.out _).mono ?_); rintro e w2 ⟨rfl, hb⟩; have O2 : Aside0 (Owns w w2 [(w.heap.size, xs)]) := ⟨O1.out.call hb⟩; clear hb))
  go_upto_region 4 with (first | (refine wpList_load_mid rfl 26 _ rfl (w.heap.size) 0 rfl xs _ (O2.out.range 0 _ _ rfl) Try.underlying26 rfl (size26.trans (by rw [HX.out])) ?_) | (go_at_call 11; (with_reducible refine (Q1.out _).mono ?_); rintro e w3 ⟨rfl, hb⟩; have O3 : Aside0 (Owns w w3 [(w.heap.size, xs)]) := ⟨O2.out.call hb⟩; clear hb))
  go_upto_region 5 with (first | (refine wpList_load_mid rfl 26 _ rfl (w.heap.size) 0 rfl xs _ (O3.out.range 0 _ _ rfl) Try.underlying26 rfl (size26.trans (by rw [HX.out])) ?_) | (go_at_call 12; (with_reducible refine (Q2.out _).mono ?_); rintro e w4 ⟨rfl, hb⟩; have O4 : Aside0 (Owns w w4 [(w.heap.size, xs)]) := ⟨O3.out.call hb⟩; clear hb))
  have hxe := HXE.out
  clear HXE HX
  subst hxe
  have r0 := fun (W : World) (q : Owns w W [(w.heap.size, cells16 h l)]) => q.cell 0 (w.heap.size) _ rfl 0 _ rfl
  have r1 := fun (W : World) (q : Owns w W [(w.heap.size, cells16 h l)]) => q.cell 0 (w.heap.size) _ rfl 1 _ rfl
  have r2 := fun (W : World) (q : Owns w W [(w.heap.size, cells16 h l)]) => q.cell 0 (w.heap.size) _ rfl 2 _ rfl
  have r3 := fun (W : World) (q : Owns w W [(w.heap.size, cells16 h l)]) => q.cell 0 (w.heap.size) _ rfl 3 _ rfl
  have r4 := fun (W : World) (q : Owns w W [(w.heap.size, cells16 h l)]) => q.cell 0 (w.heap.size) _ rfl 4 _ rfl
  have r5 := fun (W : World) (q : Owns w W [(w.heap.size, cells16 h l)]) => q.cell 0 (w.heap.size) _ rfl 5 _ rfl
  have r6 := fun (W : World) (q : Owns w W [(w.heap.size, cells16 h l)]) => q.cell 0 (w.heap.size) _ rfl 6 _ rfl
  have r7 := fun (W : World) (q : Owns w W [(w.heap.size, cells16 h l)]) => q.cell 0 (w.heap.size) _ rfl 7 _ rfl
  have r8 := fun (W : World) (q : Owns w W [(w.heap.size, cells16 h l)]) => q.cell 0 (w.heap.size) _ rfl 8 _ rfl
  have r9 := fun (W : World) (q : Owns w W [(w.heap.size, cells16 h l)]) => q.cell 0 (w.heap.size) _ rfl 9 _ rfl
  have r10 := fun (W : World) (q : Owns w W [(w.heap.size, cells16 h l)]) => q.cell 0 (w.heap.size) _ rfl 10 _ rfl
  have r11 := fun (W : World) (q : Owns w W [(w.heap.size, cells16 h l)]) => q.cell 0 (w.heap.size) _ rfl 11 _ rfl
  have r12 := fun (W : World) (q : Owns w W [(w.heap.size, cells16 h l)]) => q.cell 0 (w.heap.size) _ rfl 12 _ rfl
  have r13 := fun (W : World) (q : Owns w W [(w.heap.size, cells16 h l)]) => q.cell 0 (w.heap.size) _ rfl 13 _ rfl
  have r14 := fun (W : World) (q : Owns w W [(w.heap.size, cells16 h l)]) => q.cell 0 (w.heap.size) _ rfl 14 _ rfl
  have r15 := fun (W : World) (q : Owns w W [(w.heap.size, cells16 h l)]) => q.cell 0 (w.heap.size) _ rfl 15 _ rfl
  go_region_held3 (fun w' => Owns w w' [(w.heap.size, cells16 h l)]) (first | exact O4.out.drew | exact Owns.call' (by assumption) (by assumption)) (first | (go_at_call 10; (with_reducible refine (fixed_c _).mono ?_); rintro e w9 ⟨rfl, hb⟩) | (go_at_call 13; (with_reducible refine (F1.out _).mono ?_); rintro e w9 ⟨rfl, hb⟩) | (go_at_call 14; (with_reducible refine (F2.out _).mono ?_); rintro e w9 ⟨rfl, hb⟩))
  go_wp2
  go_ret
  exact ⟨rfl, by first | exact Owns.below (by assumption) | exact Owns.below (And.left (by assumption))⟩
theorem tlbMaps {h l : Nat → Int} (hh : Ws h) (hl : Ws l) {a s : Int} (ha : Wd a) (hs : Wd s) (w : World) : Calls Try.prog 4 #[tlb h l, .int .u32 a, .int .u32 s] w fun e w' => e = .returned (.bool true) ∧ Below w.heap.size w w' := by
  obtain ⟨x, c, p, _⟩ := map_pair hh hl ha hs false
  obtain ⟨x2, c2, q, _⟩ := map_pair hh hl ha hs true
  exact maps_raw h l (cells16 h l) rfl rfl a s x c x2 c2 _ p q (find_pair hh hl ha hs) w
set_option maxHeartbeats 8000000 in
set_option maxRecDepth 100000 in
theorem writes_in (xs ys : List Value) (hx : xs.length = 16) (hy : ys.length = 16) (hny : Nums ys) (a b x0 x1 : Int) (k : Nat) (hk : k < 8) (hc0 : xs[k * 2]? = some (.int .u32 x0)) (hc1 : xs[k * 2 + 1]? = some (.int .u32 x1))
    (p : Both 7 8 #[.agg xs.toArray, .int .i64 k, .agg #[.int .u32 a, .int .u32 b]] (.tuple #[.agg ys.toArray, .int .i64 0])) (q : Ans 9 #[.agg xs.toArray, .int .i64 k] (.tuple #[.agg #[.int .u32 x0, .int .u32 x1], .int .i64 0]))
    (e1 : ∀ w : World, (binOp .eql 26 (.agg ys.toArray) (.agg ys.toArray)).run Try.prog w = .ok (.bool true) w) (e2 : ∀ w : World, (binOp .eql 24 (.agg #[.int .u32 x0, .int .u32 x1]) (.agg #[.int .u32 x0, .int .u32 x1])).run Try.prog w = .ok (.bool true) w) (w : World) :
    Calls Try.prog 3 #[.agg xs.toArray, .int .i64 k, .agg #[.int .u32 a, .int .u32 b]] w fun e w' => e = .returned (.bool true) ∧ Below w.heap.size w w' := by
  have HX := Aside0.mk hx
  have HY := Aside0.mk hy
  have HNY := Aside0.mk hny
  have P1 := Aside0.mk p.1
  have P2 := Aside0.mk p.2
  have Q1 := Aside0.mk q
  clear hx hy hny p q
  have C0 := Aside0.mk hc0
  have C1 := Aside0.mk hc1
  clear hc0 hc1
  have k0 : (0 : Int) ≤ (k : Int) := by omega
  have k1 : (k : Int) < 8 := by omega
  go_enter Try.func3, Try.ntmps3
  go_upto_region 1 with fail
  have O0 : Aside0 (Owns w ((w.alloc (.cells xs.toArray 26)).alloc (.cells (List.toArray [.int .u32 a, .int .u32 b]) 24)) [(w.heap.size + 1, [.int .u32 a, .int .u32 b]), (w.heap.size, xs)]) := by
    have h := ((Owns.start w).new xs 26).new [.int .u32 a, .int .u32 b] 24
    simp only [World.size_alloc] at h
    exact ⟨h⟩
  generalize (w.alloc (.cells xs.toArray 26)).alloc (.cells (List.toArray [.int .u32 a, .int .u32 b]) 24) = W0 at O0 ⊢
  have g0 := O0.out.cell 0 (w.heap.size + 1) _ rfl 0 _ rfl
  have g1 := O0.out.cell 0 (w.heap.size + 1) _ rfl 1 _ rfl
  have gl := O0.out.lt 0 (w.heap.size + 1) _ rfl
  go_upto_region 2 with (first | (refine wpList_load_mid rfl 26 _ rfl (w.heap.size) 0 rfl xs _ (O0.out.range 1 _ _ rfl) Try.underlying26 rfl (size26.trans (by rw [HX.out])) ?_) | (go_at_call 7; (with_reducible refine (P1.out _).mono ?_); rintro e w1 ⟨rfl, hb⟩; have O1 : Aside0 (Owns w w1 [(w.heap.size + 1, [.int .u32 a, .int .u32 b]), (w.heap.size, xs)]) := ⟨O0.out.call hb⟩; clear hb) | (refine wpList_store_mid rfl 26 _ _ rfl (w1.heap.size) 0 (List.toArray ys) rfl rfl ((O1.out.new z16 26).there 0 _ _ rfl _ (by simp [HY.out])) (size26.trans (by simp [HY.out])) (all_oneCell_toArray HNY.out.one) ?_))
  clear g0 g1 gl
  have lt0 := O1.out.lt 0 (w.heap.size + 1) _ rfl
  have lt1 := O1.out.lt 1 (w.heap.size) _ rfl
  have O1n : Aside0 (Owns w ((w1.alloc (.cells (List.toArray z16) 26)).setCells w1.heap.size 0 ys) [(w1.heap.size, ys), (w.heap.size + 1, [.int .u32 a, .int .u32 b]), (w.heap.size, xs)]) := ⟨(O1.out.new z16 26).setCells 0 _ _ rfl ys (by simp [HY.out]) (by intro p hp; simp at hp; rcases hp with rfl | rfl <;> simp <;> omega)⟩
  generalize (w1.alloc (.cells (List.toArray z16) 26)).setCells w1.heap.size 0 ys = W1 at O1n ⊢
  clear O1
  have g0 := O1n.out.cell 1 (w.heap.size + 1) _ rfl 0 _ rfl
  have g1 := O1n.out.cell 1 (w.heap.size + 1) _ rfl 1 _ rfl
  have gl := O1n.out.lt 1 (w.heap.size + 1) _ rfl
  go_upto_region 3 with (first | (refine wpList_load_mid rfl 26 _ rfl (w.heap.size) 0 rfl xs _ (O1n.out.range 2 _ _ rfl) Try.underlying26 rfl (size26.trans (by rw [HX.out])) ?_) | (go_at_call 8; (with_reducible refine (P2.out _).mono ?_); rintro e w2 ⟨rfl, hb⟩; have O2 : Aside0 (Owns w w2 [(w1.heap.size, ys), (w.heap.size + 1, [.int .u32 a, .int .u32 b]), (w.heap.size, xs)]) := ⟨O1n.out.call hb⟩; clear hb) | (refine wpList_store_mid rfl 26 _ _ rfl (w2.heap.size) 0 (List.toArray ys) rfl rfl ((O2.out.new z16 26).there 0 _ _ rfl _ (by simp [HY.out])) (size26.trans (by simp [HY.out])) (all_oneCell_toArray HNY.out.one) ?_))
  clear g0 g1 gl
  have lt0 := O2.out.lt 0 (w1.heap.size) _ rfl
  have lt1 := O2.out.lt 1 (w.heap.size + 1) _ rfl
  have lt2 := O2.out.lt 2 (w.heap.size) _ rfl
  have O2n : Aside0 (Owns w ((w2.alloc (.cells (List.toArray z16) 26)).setCells w2.heap.size 0 ys) [(w2.heap.size, ys), (w1.heap.size, ys), (w.heap.size + 1, [.int .u32 a, .int .u32 b]), (w.heap.size, xs)]) := ⟨(O2.out.new z16 26).setCells 0 _ _ rfl ys (by simp [HY.out]) (by intro p hp; simp at hp; rcases hp with rfl | rfl | rfl <;> simp <;> omega)⟩
  generalize (w2.alloc (.cells (List.toArray z16) 26)).setCells w2.heap.size 0 ys = W2 at O2n ⊢
  clear O2
  go_upto_region 4 with (first | (refine wpList_load_mid rfl 26 _ rfl (w.heap.size) 0 rfl xs _ (O2n.out.range 3 _ _ rfl) Try.underlying26 rfl (size26.trans (by rw [HX.out])) ?_) | (go_at_call 9; (with_reducible refine (Q1.out _).mono ?_); rintro e w3 ⟨rfl, hb⟩; have O3 : Aside0 (Owns w w3 [(w2.heap.size, ys), (w1.heap.size, ys), (w.heap.size + 1, [.int .u32 a, .int .u32 b]), (w.heap.size, xs)]) := ⟨O2n.out.call hb⟩; clear hb))
  have O3n : Aside0 (Owns w (w3.alloc (.cells (List.toArray [.int .u32 x0, .int .u32 x1]) 24)) [(w3.heap.size, [.int .u32 x0, .int .u32 x1]), (w2.heap.size, ys), (w1.heap.size, ys), (w.heap.size + 1, [.int .u32 a, .int .u32 b]), (w.heap.size, xs)]) := ⟨O3.out.new [.int .u32 x0, .int .u32 x1] 24⟩
  generalize w3.alloc (.cells (List.toArray [.int .u32 x0, .int .u32 x1]) 24) = W3 at O3n ⊢
  clear O3
  go_upto_region 5 with fail
  have l3_0 := O3n.out.lt 0 (w3.heap.size) _ rfl
  have l3_1 := O3n.out.lt 1 (w2.heap.size) _ rfl
  have l3_2 := O3n.out.lt 2 (w1.heap.size) _ rfl
  have l3_3 := O3n.out.lt 3 (w.heap.size + 1) _ rfl
  have l3_4 := O3n.out.lt 4 (w.heap.size) _ rfl
  have O4 : Aside0 (Owns w (W3.alloc (.cells (List.toArray [.int .u32 0, .int .u32 0]) 24)) [(W3.heap.size, [.int .u32 0, .int .u32 0]), (w3.heap.size, [.int .u32 x0, .int .u32 x1]), (w2.heap.size, ys), (w1.heap.size, ys), (w.heap.size + 1, [.int .u32 a, .int .u32 b]), (w.heap.size, xs)]) := ⟨O3n.out.new [.int .u32 0, .int .u32 0] 24⟩
  generalize hW4 : W3.alloc (.cells (List.toArray [.int .u32 0, .int .u32 0]) 24) = W4 at O4 ⊢
  clear hW4
  have t0 := O4.out.cell 5 (w.heap.size) _ rfl (k * 2) _ C0.out
  have t1 := O4.out.cell 5 (w.heap.size) _ rfl (k * 2 + 1) _ C1.out
  have z0 := O4.out.cell 0 (W3.heap.size) _ rfl 0 _ rfl
  have z1 := O4.out.cell 0 (W3.heap.size) _ rfl 1 _ rfl
  have zl := O4.out.lt 0 (W3.heap.size) _ rfl
  have zf0 := (O4.out.box 0 (W3.heap.size) _ rfl).free 0 (by simp)
  have zf1 := (O4.out.box 0 (W3.heap.size) _ rfl).free 1 (by simp)
  have lt1 := O4.out.lt 1 (w3.heap.size) _ rfl
  have lt2 := O4.out.lt 2 (w2.heap.size) _ rfl
  have lt3 := O4.out.lt 3 (w1.heap.size) _ rfl
  have lt4 := O4.out.lt 4 (w.heap.size + 1) _ rfl
  have lt5 := O4.out.lt 5 (w.heap.size) _ rfl
  go_upto_region 8 with fail
  have O5 : Aside0 (Owns w ((W4.setCell ⟨W3.heap.size, 0, none⟩ (.int .u32 x0)).setCell ⟨W3.heap.size, 1, none⟩ (.int .u32 x1)) [(W3.heap.size, [.int .u32 x0, .int .u32 x1]), (w3.heap.size, [.int .u32 x0, .int .u32 x1]), (w2.heap.size, ys), (w1.heap.size, ys), (w.heap.size + 1, [.int .u32 a, .int .u32 b]), (w.heap.size, xs)]) := ⟨(O4.out.set 0 _ _ rfl 0 (.int .u32 x0) (by simp) (by intro p hp; simp at hp; rcases hp with rfl | rfl | rfl | rfl | rfl <;> simp <;> omega)).set 0 _ _ rfl 1 (.int .u32 x1) (by simp) (by intro p hp; simp at hp; rcases hp with rfl | rfl | rfl | rfl | rfl <;> simp <;> omega)⟩
  generalize (W4.setCell ⟨W3.heap.size, 0, none⟩ (.int .u32 x0)).setCell ⟨W3.heap.size, 1, none⟩ (.int .u32 x1) = W5 at O5 ⊢
  clear t0 t1 z0 z1 zf0 zf1 O4
  go_wp2_with (first | (go_at_call 10; (with_reducible refine (fixed_c _).mono ?_); rintro e w9 ⟨rfl, hb⟩; have O9 : Aside0 (Owns w w9 [(W3.heap.size, [.int .u32 x0, .int .u32 x1]), (w3.heap.size, [.int .u32 x0, .int .u32 x1]), (w2.heap.size, ys), (w1.heap.size, ys), (w.heap.size + 1, [.int .u32 a, .int .u32 b]), (w.heap.size, xs)]) := ⟨O5.out.call hb⟩; clear hb; have q0_0 := O9.out.cell 0 (W3.heap.size) _ rfl 0 _ rfl; have q0_1 := O9.out.cell 0 (W3.heap.size) _ rfl 1 _ rfl; have q1_0 := O9.out.cell 1 (w3.heap.size) _ rfl 0 _ rfl; have q1_1 := O9.out.cell 1 (w3.heap.size) _ rfl 1 _ rfl) | (refine wpList_load_want rfl 26 _ rfl (w2.heap.size) 0 rfl ys _ (O9.out.range 2 _ _ rfl) Try.underlying26 rfl (size26.trans (by rw [HY.out])) ?_) | (refine wpList_load_want rfl 26 _ rfl (w1.heap.size) 0 rfl ys _ (O9.out.range 3 _ _ rfl) Try.underlying26 rfl (size26.trans (by rw [HY.out])) ?_))
  go_ret
  exact ⟨rfl, O9.out.below⟩
set_option maxHeartbeats 8000000 in
set_option maxRecDepth 100000 in
theorem writes_out (xs ys : List Value) (hx : xs.length = 16) (hy : ys.length = 16) (hny : Nums ys) (a b x0 x1 : Int) (slot : Int) (hk : slot < 0 ∨ 8 ≤ slot)
    (p : Both 7 8 #[.agg xs.toArray, .int .i64 slot, .agg #[.int .u32 a, .int .u32 b]] (.tuple #[.agg ys.toArray, .int .i64 70])) (q : Ans 9 #[.agg xs.toArray, .int .i64 slot] (.tuple #[.agg #[.int .u32 0, .int .u32 0], .int .i64 70]))
    (e1 : ∀ w : World, (binOp .eql 26 (.agg ys.toArray) (.agg ys.toArray)).run Try.prog w = .ok (.bool true) w) (e2 : ∀ w : World, (binOp .eql 24 (.agg #[.int .u32 0, .int .u32 0]) (.agg #[.int .u32 0, .int .u32 0])).run Try.prog w = .ok (.bool true) w) (w : World) :
    Calls Try.prog 3 #[.agg xs.toArray, .int .i64 slot, .agg #[.int .u32 a, .int .u32 b]] w fun e w' => e = .returned (.bool true) ∧ Below w.heap.size w w' := by
  have HX := Aside0.mk hx
  have HY := Aside0.mk hy
  have HNY := Aside0.mk hny
  have P1 := Aside0.mk p.1
  have P2 := Aside0.mk p.2
  have Q1 := Aside0.mk q
  clear hx hy hny p q
  rcases hk with hk | hk
  all_goals
    go_enter Try.func3, Try.ntmps3
    go_upto_region 1 with fail
    have O0 : Aside0 (Owns w ((w.alloc (.cells xs.toArray 26)).alloc (.cells (List.toArray [.int .u32 a, .int .u32 b]) 24)) [(w.heap.size + 1, [.int .u32 a, .int .u32 b]), (w.heap.size, xs)]) := by
      have h := ((Owns.start w).new xs 26).new [.int .u32 a, .int .u32 b] 24
      simp only [World.size_alloc] at h
      exact ⟨h⟩
    generalize (w.alloc (.cells xs.toArray 26)).alloc (.cells (List.toArray [.int .u32 a, .int .u32 b]) 24) = W0 at O0 ⊢
    have g0 := O0.out.cell 0 (w.heap.size + 1) _ rfl 0 _ rfl
    have g1 := O0.out.cell 0 (w.heap.size + 1) _ rfl 1 _ rfl
    have gl := O0.out.lt 0 (w.heap.size + 1) _ rfl
    go_upto_region 2 with (first | (refine wpList_load_mid rfl 26 _ rfl (w.heap.size) 0 rfl xs _ (O0.out.range 1 _ _ rfl) Try.underlying26 rfl (size26.trans (by rw [HX.out])) ?_) | (go_at_call 7; (with_reducible refine (P1.out _).mono ?_); rintro e w1 ⟨rfl, hb⟩; have O1 : Aside0 (Owns w w1 [(w.heap.size + 1, [.int .u32 a, .int .u32 b]), (w.heap.size, xs)]) := ⟨O0.out.call hb⟩; clear hb) | (refine wpList_store_mid rfl 26 _ _ rfl (w1.heap.size) 0 (List.toArray ys) rfl rfl ((O1.out.new z16 26).there 0 _ _ rfl _ (by simp [HY.out])) (size26.trans (by simp [HY.out])) (all_oneCell_toArray HNY.out.one) ?_))
    clear g0 g1 gl
    have lt0 := O1.out.lt 0 (w.heap.size + 1) _ rfl
    have lt1 := O1.out.lt 1 (w.heap.size) _ rfl
    have O1n : Aside0 (Owns w ((w1.alloc (.cells (List.toArray z16) 26)).setCells w1.heap.size 0 ys) [(w1.heap.size, ys), (w.heap.size + 1, [.int .u32 a, .int .u32 b]), (w.heap.size, xs)]) := ⟨(O1.out.new z16 26).setCells 0 _ _ rfl ys (by simp [HY.out]) (by intro p hp; simp at hp; rcases hp with rfl | rfl <;> simp <;> omega)⟩
    generalize (w1.alloc (.cells (List.toArray z16) 26)).setCells w1.heap.size 0 ys = W1 at O1n ⊢
    clear O1
    have g0 := O1n.out.cell 1 (w.heap.size + 1) _ rfl 0 _ rfl
    have g1 := O1n.out.cell 1 (w.heap.size + 1) _ rfl 1 _ rfl
    have gl := O1n.out.lt 1 (w.heap.size + 1) _ rfl
    go_upto_region 3 with (first | (refine wpList_load_mid rfl 26 _ rfl (w.heap.size) 0 rfl xs _ (O1n.out.range 2 _ _ rfl) Try.underlying26 rfl (size26.trans (by rw [HX.out])) ?_) | (go_at_call 8; (with_reducible refine (P2.out _).mono ?_); rintro e w2 ⟨rfl, hb⟩; have O2 : Aside0 (Owns w w2 [(w1.heap.size, ys), (w.heap.size + 1, [.int .u32 a, .int .u32 b]), (w.heap.size, xs)]) := ⟨O1n.out.call hb⟩; clear hb) | (refine wpList_store_mid rfl 26 _ _ rfl (w2.heap.size) 0 (List.toArray ys) rfl rfl ((O2.out.new z16 26).there 0 _ _ rfl _ (by simp [HY.out])) (size26.trans (by simp [HY.out])) (all_oneCell_toArray HNY.out.one) ?_))
    clear g0 g1 gl
    have lt0 := O2.out.lt 0 (w1.heap.size) _ rfl
    have lt1 := O2.out.lt 1 (w.heap.size + 1) _ rfl
    have lt2 := O2.out.lt 2 (w.heap.size) _ rfl
    have O2n : Aside0 (Owns w ((w2.alloc (.cells (List.toArray z16) 26)).setCells w2.heap.size 0 ys) [(w2.heap.size, ys), (w1.heap.size, ys), (w.heap.size + 1, [.int .u32 a, .int .u32 b]), (w.heap.size, xs)]) := ⟨(O2.out.new z16 26).setCells 0 _ _ rfl ys (by simp [HY.out]) (by intro p hp; simp at hp; rcases hp with rfl | rfl | rfl <;> simp <;> omega)⟩
    generalize (w2.alloc (.cells (List.toArray z16) 26)).setCells w2.heap.size 0 ys = W2 at O2n ⊢
    clear O2
    go_upto_region 4 with (first | (refine wpList_load_mid rfl 26 _ rfl (w.heap.size) 0 rfl xs _ (O2n.out.range 3 _ _ rfl) Try.underlying26 rfl (size26.trans (by rw [HX.out])) ?_) | (go_at_call 9; (with_reducible refine (Q1.out _).mono ?_); rintro e w3 ⟨rfl, hb⟩; have O3 : Aside0 (Owns w w3 [(w2.heap.size, ys), (w1.heap.size, ys), (w.heap.size + 1, [.int .u32 a, .int .u32 b]), (w.heap.size, xs)]) := ⟨O2n.out.call hb⟩; clear hb))
    have O3n : Aside0 (Owns w (w3.alloc (.cells (List.toArray [.int .u32 0, .int .u32 0]) 24)) [(w3.heap.size, [.int .u32 0, .int .u32 0]), (w2.heap.size, ys), (w1.heap.size, ys), (w.heap.size + 1, [.int .u32 a, .int .u32 b]), (w.heap.size, xs)]) := ⟨O3.out.new [.int .u32 0, .int .u32 0] 24⟩
    generalize w3.alloc (.cells (List.toArray [.int .u32 0, .int .u32 0]) 24) = W3 at O3n ⊢
    clear O3
    go_upto_region 5 with fail
    have l3_0 := O3n.out.lt 0 (w3.heap.size) _ rfl
    have l3_1 := O3n.out.lt 1 (w2.heap.size) _ rfl
    have l3_2 := O3n.out.lt 2 (w1.heap.size) _ rfl
    have l3_3 := O3n.out.lt 3 (w.heap.size + 1) _ rfl
    have l3_4 := O3n.out.lt 4 (w.heap.size) _ rfl
    have O4 : Aside0 (Owns w (W3.alloc (.cells (List.toArray [.int .u32 0, .int .u32 0]) 24)) [(W3.heap.size, [.int .u32 0, .int .u32 0]), (w3.heap.size, [.int .u32 0, .int .u32 0]), (w2.heap.size, ys), (w1.heap.size, ys), (w.heap.size + 1, [.int .u32 a, .int .u32 b]), (w.heap.size, xs)]) := ⟨O3n.out.new [.int .u32 0, .int .u32 0] 24⟩
    generalize hW4 : W3.alloc (.cells (List.toArray [.int .u32 0, .int .u32 0]) 24) = W4 at O4 ⊢
    clear hW4
    go_upto_region 8 with fail
    go_wp2_with (first | (go_at_call 10; (with_reducible refine (fixed_c _).mono ?_); rintro e w9 ⟨rfl, hb⟩; have O9 : Aside0 (Owns w w9 [(W3.heap.size, [.int .u32 0, .int .u32 0]), (w3.heap.size, [.int .u32 0, .int .u32 0]), (w2.heap.size, ys), (w1.heap.size, ys), (w.heap.size + 1, [.int .u32 a, .int .u32 b]), (w.heap.size, xs)]) := ⟨O4.out.call hb⟩; clear hb; have q0_0 := O9.out.cell 0 (W3.heap.size) _ rfl 0 _ rfl; have q0_1 := O9.out.cell 0 (W3.heap.size) _ rfl 1 _ rfl; have q1_0 := O9.out.cell 1 (w3.heap.size) _ rfl 0 _ rfl; have q1_1 := O9.out.cell 1 (w3.heap.size) _ rfl 1 _ rfl) | (refine wpList_load_want rfl 26 _ rfl (w2.heap.size) 0 rfl ys _ (O9.out.range 2 _ _ rfl) Try.underlying26 rfl (size26.trans (by rw [HY.out])) ?_) | (refine wpList_load_want rfl 26 _ rfl (w1.heap.size) 0 rfl ys _ (O9.out.range 3 _ _ rfl) Try.underlying26 rfl (size26.trans (by rw [HY.out])) ?_))
    go_ret
    exact ⟨rfl, O9.out.below⟩
theorem tlbWrites {h l : Nat → Int} (hh : Ws h) (hl : Ws l) {a b : Int} (ha : Wd a) (hb : Wd b) (slot : Int) (w : World) : Calls Try.prog 3 #[tlb h l, .int .i64 slot, .agg #[.int .u32 a, .int .u32 b]] w fun e w' => e = .returned (.bool true) ∧ Below w.heap.size w w' := by
  have e24 : ∀ x y : Int, Wd x → Wd y → ∀ w : World, (binOp .eql 24 (.agg #[.int .u32 x, .int .u32 y]) (.agg #[.int .u32 x, .int .u32 y])).run Try.prog w = .ok (.bool true) w := fun x y hx hy w => by
    obtain ⟨r, hr, _, hi⟩ := eq24 hx hy hx hy w
    rw [hr, hi.2 ⟨rfl, rfl⟩]
  have e26 : ∀ h l : Nat → Int, Ws h → Ws l → ∀ w : World, (binOp .eql 26 (tlb h l) (tlb h l)).run Try.prog w = .ok (.bool true) w := fun h l hh hl w => by
    obtain ⟨r, hr, _, hi⟩ := eq26 hh hl hh hl w
    rw [hr, hi.2 (fun i _ => ⟨rfl, rfl⟩)]
  by_cases c : 0 ≤ slot ∧ slot < 8
  · obtain ⟨k, rfl⟩ : ∃ k : Nat, slot = (k : Int) := ⟨slot.toNat, by omega⟩
    have hk : k < 8 := by omega
    exact writes_in (cells16 h l) (cells16 (put h k a) (put l k (lowI b))) rfl rfl (nums16 _ _) a b (h k) (l k) k hk (cell_h h l k hk) (cell_l h l k hk) (write_in hh hl ha hb k hk) (fun w => read_at h l k hk w) (e26 _ _ (put_ws hh k ha) (put_ws hl k (low_wd hb))) (e24 _ _ (hh k) (hl k)) w
  · exact writes_out (cells16 h l) z16 rfl rfl z16_nums a b 0 0 slot (by omega) (write_out h l a b slot (by omega)) (fun w => read_no h l slot (by omega) w) (e26 z0 z0 z0_ws z0_ws) (e24 0 0 (wd _ (by omega)) (wd _ (by omega))) w
end Go.Proofs.Ytngebimnahojlaa.LawA
