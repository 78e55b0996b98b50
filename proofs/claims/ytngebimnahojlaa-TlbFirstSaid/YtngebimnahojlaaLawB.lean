/- The walk of TlbBack: whatever the buffer, the slot and the entry, the call answers true and leaves what lay in memory. Conditions: the premises of the plain law (LawC). -/
import Derived.Test.YtngebimnahojlaaPair
import Derived.BigQuiet
import Derived.Deep.QuietTactic
import Derived.Outline
namespace Go.Proofs.Ytngebimnahojlaa.LawB
open Go.RowKit Go.Proofs.Ytngebimnahojlaa.Frm Go.Proofs.Ytngebimnahojlaa.Con Go.Proofs.Ytngebimnahojlaa.Num Go.Proofs.Ytngebimnahojlaa.Pair Go.Proofs.YtngebimnahojlaaW.PrintWords Go.Proofs.YtngebimnahojlaaW.PrintLast Go.Proofs.YtngebimnahojlaaW.PrintMore
set_option linter.unusedVariables false
set_option linter.unusedSimpArgs false
set_option maxHeartbeats 8000000 in
set_option maxRecDepth 100000 in
theorem back_out (xs ys : List Value) (hx : xs.length = 16) (hy : ys.length = 16) (hny : Nums ys) (a b slot : Int)
    (p : Ans 7 #[.agg xs.toArray, .int .i64 slot, .agg #[.int .u32 a, .int .u32 b]] (.tuple #[.agg ys.toArray, .int .i64 70])) (e1 : ∀ w : World, (binOp .eql 26 (.agg ys.toArray) (.agg #[.int .u32 0, .int .u32 0, .int .u32 0, .int .u32 0, .int .u32 0, .int .u32 0, .int .u32 0, .int .u32 0, .int .u32 0, .int .u32 0, .int .u32 0, .int .u32 0, .int .u32 0, .int .u32 0, .int .u32 0, .int .u32 0])).run Try.prog w = .ok (.bool true) w) (w : World) :
    Calls Try.prog 5 #[.agg xs.toArray, .int .i64 slot, .agg #[.int .u32 a, .int .u32 b]] w fun e w' => e = .returned (.bool true) ∧ Below w.heap.size w w' := by
  have HX := Aside0.mk hx
  have HY := Aside0.mk hy
  have HNY := Aside0.mk hny
  have P1 := Aside0.mk p
  clear hx hy hny p
  go_enter Try.func5, Try.ntmps5
  go_upto_region 1 with fail
  have O0 : Aside0 (Owns w ((w.alloc (.cells xs.toArray 26)).alloc (.cells (List.toArray [.int .u32 a, .int .u32 b]) 24)) [(w.heap.size + 1, [.int .u32 a, .int .u32 b]), (w.heap.size, xs)]) := by
    have h := ((Owns.start w).new xs 26).new [.int .u32 a, .int .u32 b] 24
    simp only [World.size_alloc] at h
    exact ⟨h⟩
  generalize (w.alloc (.cells xs.toArray 26)).alloc (.cells (List.toArray [.int .u32 a, .int .u32 b]) 24) = W0 at O0 ⊢
  have g0 := O0.out.cell 0 (w.heap.size + 1) _ rfl 0 _ rfl
  have g1 := O0.out.cell 0 (w.heap.size + 1) _ rfl 1 _ rfl
  have gl := O0.out.lt 0 (w.heap.size + 1) _ rfl
  go_upto_region 2 with (first | (refine wpList_load_mid rfl 26 _ rfl (w.heap.size) 0 rfl xs _ (O0.out.range 1 _ _ rfl) Try.underlying26 rfl (size26.trans (by rw [HX.out])) ?_) | (go_at_call 7; (with_reducible refine (P1.out _).mono ?_); rintro e w1 ⟨rfl, hb⟩; have O1 : Aside0 (Owns w w1 [(w.heap.size + 1, [.int .u32 a, .int .u32 b]), (w.heap.size, xs)]) := ⟨O0.out.call hb⟩; clear hb) | (refine wpList_store_mid rfl 26 _ _ rfl (w1.heap.size) 0 (List.toArray ys) rfl rfl ((O1.out.new z16 26).there 0 _ _ rfl _ (by simp [HY.out])) (size26.trans (by simp [HY.out])) (all_oneCell_toArray HNY.out.one) ?_))
  clear g0 g1 gl
  have lt0 := O1.out.lt 0 (w.heap.size + 1) _ rfl
  have lt1 := O1.out.lt 1 (w.heap.size) _ rfl
  have O1n : Aside0 (Owns w ((w1.alloc (.cells (List.toArray z16) 26)).setCells w1.heap.size 0 ys) [(w1.heap.size, ys), (w.heap.size + 1, [.int .u32 a, .int .u32 b]), (w.heap.size, xs)]) := ⟨(O1.out.new z16 26).setCells 0 _ _ rfl ys (by simp [HY.out]) (by intro p hp; simp at hp; rcases hp with rfl | rfl <;> simp <;> omega)⟩
  generalize (w1.alloc (.cells (List.toArray z16) 26)).setCells w1.heap.size 0 ys = W1 at O1n ⊢
  clear O1
  go_wp2_with (first | (go_at_call 10; (with_reducible refine (fixed_c _).mono ?_); rintro e w9 ⟨rfl, hb⟩; have O9 : Aside0 (Owns w w9 [(w1.heap.size, ys), (w.heap.size + 1, [.int .u32 a, .int .u32 b]), (w.heap.size, xs)]) := ⟨O1n.out.call hb⟩; clear hb) | (refine wpList_load_mid rfl 26 _ rfl (w1.heap.size) 0 rfl ys _ (O1n.out.range 0 _ _ rfl) Try.underlying26 rfl (size26.trans (by rw [HY.out])) ?_))
  go_ret
  exact ⟨rfl, O9.out.below⟩
set_option maxHeartbeats 8000000 in
set_option maxRecDepth 100000 in
theorem back_in (h l h' l' : Nat → Int) (xs ys : List Value) (hxe : xs = cells16 h l) (hye : ys = cells16 h' l') (hx : xs.length = 16) (hy : ys.length = 16) (hny : Nums ys) (a b ad sp r x c x2 c2 : Int) (k : Nat) (hk : k < 8)
    (p : Ans 7 #[.agg xs.toArray, .int .i64 k, .agg #[.int .u32 a, .int .u32 b]] (.tuple #[.agg ys.toArray, .int .i64 0]))
    (q : ∀ j : Nat, j < 8 → Ans 9 #[.agg ys.toArray, .int .i64 j] (.tuple #[.agg #[.int .u32 (h' j), .int .u32 (l' j)], .int .i64 0]))
    (e1 : ∀ j : Nat, j < 8 → j ≠ k → ∀ w : World, (binOp .neq 24 (.agg #[.int .u32 (h' j), .int .u32 (l' j)]) (.agg #[.int .u32 (h j), .int .u32 (l j)])).run Try.prog w = .ok (.bool false) w)
    (e2 : (h' k != a) = false) (e3 : (Go.bits .and .u32 (l' k) 4294967047 != Go.bits .and .u32 b 4294967047) = false) (e4 : (Go.bits .and .u32 (l' k) 248 != 0) = false)
    (had : Go.bits .or .u32 (Go.bits .and .u32 a 4294967040) (Go.bits .and .u32 b 255) = ad) (hsp : Go.bits .and .u32 a 255 = sp)
    (f : Ans 13 #[.agg ys.toArray, .int .u32 ad, .int .u32 sp] (.int .i64 r)) (m1 : Ans 11 #[.agg ys.toArray, .int .u32 ad, .int .u32 sp, .bool false] (.tuple #[.int .u32 x, .int .i64 c])) (m2 : Ans 11 #[.agg ys.toArray, .int .u32 ad, .int .u32 sp, .bool true] (.tuple #[.int .u32 x2, .int .i64 c2]))
    (r0 : 0 ≤ r) (r1 : r ≤ (k : Int)) (hc : (c = 0 ∧ c2 = 0 ∧ x2 = x) ∨ (c = 0 ∧ c2 = 3 ∧ x2 = 0) ∨ (c = 2 ∧ c2 = 2 ∧ x = 0 ∧ x2 = 0)) (hxa : c = 0 → (Go.bits .and .u32 x 255 != Go.bits .and .u32 ad 255) = false) (w : World) :
    Calls Try.prog 5 #[.agg xs.toArray, .int .i64 k, .agg #[.int .u32 a, .int .u32 b]] w fun e w' => e = .returned (.bool true) ∧ Below w.heap.size w w' := by
  have HX := Aside0.mk hx
  clear hx
  have HY := Aside0.mk hy
  clear hy
  have HNY := Aside0.mk hny
  clear hny
  have P1 := Aside0.mk p
  clear p
  have Q1 := Aside0.mk q
  clear q
  have E1 := Aside0.mk e1
  clear e1
  have E2 := Aside0.mk e2
  clear e2
  have E3 := Aside0.mk e3
  clear e3
  have E4 := Aside0.mk e4
  clear e4
  have F1 := Aside0.mk f
  clear f
  have M1 := Aside0.mk m1
  clear m1
  have M2 := Aside0.mk m2
  clear m2
  have HC := Aside0.mk hc
  clear hc
  have HXA := Aside0.mk hxa
  clear hxa
  have HXE := Aside0.mk hxe
  clear hxe
  have HYE := Aside0.mk hye
  clear hye
  have HAD := Aside0.mk had
  clear had
  have HSP := Aside0.mk hsp
  clear hsp
  have k0 : (0 : Int) ≤ (k : Int) := by omega
  have k1 : (k : Int) < 8 := by omega
  go_enter Try.func5, Try.ntmps5
  go_upto_region 1 with fail
  have O0 : Aside0 (Owns w ((w.alloc (.cells xs.toArray 26)).alloc (.cells (List.toArray [.int .u32 a, .int .u32 b]) 24)) [(w.heap.size + 1, [.int .u32 a, .int .u32 b]), (w.heap.size, xs)]) := by
    have h := ((Owns.start w).new xs 26).new [.int .u32 a, .int .u32 b] 24
    simp only [World.size_alloc] at h
    exact ⟨h⟩
  generalize (w.alloc (.cells xs.toArray 26)).alloc (.cells (List.toArray [.int .u32 a, .int .u32 b]) 24) = W0 at O0 ⊢
  have g0 := O0.out.cell 0 (w.heap.size + 1) _ rfl 0 _ rfl
  have g1 := O0.out.cell 0 (w.heap.size + 1) _ rfl 1 _ rfl
  have gl := O0.out.lt 0 (w.heap.size + 1) _ rfl
  go_upto_region 2 with (first | (refine wpList_load_mid rfl 26 _ rfl (w.heap.size) 0 rfl xs _ (O0.out.range 1 _ _ rfl) Try.underlying26 rfl (size26.trans (by rw [HX.out])) ?_) | (go_at_call 7; (with_reducible refine (P1.out _).mono ?_); rintro e w1 ⟨rfl, hb⟩; have O1 : Aside0 (Owns w w1 [(w.heap.size + 1, [.int .u32 a, .int .u32 b]), (w.heap.size, xs)]) := ⟨O0.out.call hb⟩; clear hb) | (refine wpList_store_mid rfl 26 _ _ rfl (w1.heap.size) 0 (List.toArray ys) rfl rfl ((O1.out.new z16 26).there 0 _ _ rfl _ (by simp [HY.out])) (size26.trans (by simp [HY.out])) (all_oneCell_toArray HNY.out.one) ?_))
  clear g0 g1 gl
  have lt0 := O1.out.lt 0 (w.heap.size + 1) _ rfl
  have lt1 := O1.out.lt 1 (w.heap.size) _ rfl
  have O1n : Aside0 (Owns w ((w1.alloc (.cells (List.toArray z16) 26)).setCells w1.heap.size 0 ys) [(w1.heap.size, ys), (w.heap.size + 1, [.int .u32 a, .int .u32 b]), (w.heap.size, xs)]) := ⟨(O1.out.new z16 26).setCells 0 _ _ rfl ys (by simp [HY.out]) (by intro p hp; simp at hp; rcases hp with rfl | rfl <;> simp <;> omega)⟩
  generalize (w1.alloc (.cells (List.toArray z16) 26)).setCells w1.heap.size 0 ys = W1 at O1n ⊢
  clear O1
  go_wp2_with fail
  have OW : Aside0 (Owns w W1 [(w1.heap.size, ys), (w.heap.size + 1, [.int .u32 a, .int .u32 b]), (w.heap.size, xs)]) := O1n
  go_loopw [9] (fun i wr => ∃ j : Nat, j ≤ 8 ∧ i = .int .i64 j ∧ Aside0 (Owns w wr [(w1.heap.size, ys), (w.heap.size + 1, [.int .u32 a, .int .u32 b]), (w.heap.size, xs)])) (fun i _ => 8 - (intOf i).toNat)
  case atStart => exact ⟨0, by omega, rfl, OW⟩
  case round =>
    clear OW O1n
    obtain ⟨j, hj, rfl, OW⟩ := hrel
    by_cases hlt : j < 8
    · have j0 : (0 : Int) ≤ (j : Int) := by omega
      have j1 : (j : Int) < 8 := by omega
      go_upto_region 8 with (first | (refine wpList_load_mid rfl 26 _ rfl (w1.heap.size) 0 rfl ys _ (OW.out.range 0 _ _ rfl) Try.underlying26 rfl (size26.trans (by rw [HY.out])) ?_) | (go_at_call 9; (with_reducible refine (Q1.out j hlt _).mono ?_); rintro e w2 ⟨rfl, hb⟩; have O2 : Aside0 (Owns w w2 [(w1.heap.size, ys), (w.heap.size + 1, [.int .u32 a, .int .u32 b]), (w.heap.size, xs)]) := ⟨OW.out.call hb⟩; clear hb))
      have O3 : Aside0 (Owns w (w2.alloc (.cells (List.toArray [.int .u32 (h' j), .int .u32 (l' j)]) 24)) [(w2.heap.size, [.int .u32 (h' j), .int .u32 (l' j)]), (w1.heap.size, ys), (w.heap.size + 1, [.int .u32 a, .int .u32 b]), (w.heap.size, xs)]) := ⟨O2.out.new [.int .u32 (h' j), .int .u32 (l' j)] 24⟩
      generalize w2.alloc (.cells (List.toArray [.int .u32 (h' j), .int .u32 (l' j)]) 24) = W3 at O3 ⊢
      have hxe := HXE.out
      have t0 := O3.out.cell 3 (w.heap.size) _ rfl (j * 2) (.int .u32 (h j)) (by rw [hxe]; exact cell_h h l j hlt)
      have t1 := O3.out.cell 3 (w.heap.size) _ rfl (j * 2 + 1) (.int .u32 (l j)) (by rw [hxe]; exact cell_l h l j hlt)
      clear hxe
      have x0' := O3.out.cell 0 (w2.heap.size) _ rfl 0 _ rfl
      have g0 := O3.out.cell 2 (w.heap.size + 1) _ rfl 0 _ rfl
      have x1' := O3.out.cell 0 (w2.heap.size) _ rfl 1 _ rfl
      have g1 := O3.out.cell 2 (w.heap.size + 1) _ rfl 1 _ rfl
      by_cases hjk : j = k
      · subst hjk
        have d1 : ((j : Int) != (j : Int)) = false := by simp
        have d2 : ((j : Int) == (j : Int)) = true := by simp
        have d3 := E2.out
        have d4 := E3.out
        have d5 := E4.out
        go_quiet (fail)
        go_wp2_with fail
        exact ⟨⟨j + 1, by omega, by go_num, ⟨(O3.out.drewN _).sub (fun p hp => List.mem_cons_of_mem _ hp)⟩⟩, by simp [intOf]; omega⟩
      · have d1 : ((j : Int) != (k : Int)) = true := by simp; omega
        have d2 : ((j : Int) == (k : Int)) = false := by simp; omega
        have d3 := E1.out j hlt hjk
        go_quiet (fail)
        go_wp2_with fail
        exact ⟨⟨j + 1, by omega, by go_num, ⟨(O3.out.drewN _).sub (fun p hp => List.mem_cons_of_mem _ hp)⟩⟩, by simp [intOf]; omega⟩
    · obtain rfl : j = 8 := by omega
      have g0 := OW.out.cell 1 (w.heap.size + 1) _ rfl 0 _ rfl
      have g1 := OW.out.cell 1 (w.heap.size + 1) _ rfl 1 _ rfl
      have a1 := HAD.out
      have a2 := HSP.out
      go_upto_region 10 with fail
      go_quiet (fail)
      rename_i nq
      have O5 : Aside0 (Owns w (wr.drewN nq) [(w1.heap.size, ys), (w.heap.size + 1, [.int .u32 a, .int .u32 b]), (w.heap.size, xs)]) := ⟨OW.out.drewN nq⟩
      generalize wr.drewN nq = W5 at O5 ⊢
      clear OW g0 g1 a1 a2
      go_upto_region 12 with (first | (refine wpList_load_mid rfl 26 _ rfl (w1.heap.size) 0 rfl ys _ (O5.out.range 0 _ _ rfl) Try.underlying26 rfl (size26.trans (by rw [HY.out])) ?_) | (go_at_call 13; (with_reducible refine (F1.out _).mono ?_); rintro e w6 ⟨rfl, hb⟩; have O6 : Aside0 (Owns w w6 [(w1.heap.size, ys), (w.heap.size + 1, [.int .u32 a, .int .u32 b]), (w.heap.size, xs)]) := ⟨O5.out.call hb⟩; clear hb))
      go_upto_region 13 with (first | (refine wpList_load_mid rfl 26 _ rfl (w1.heap.size) 0 rfl ys _ (O6.out.range 0 _ _ rfl) Try.underlying26 rfl (size26.trans (by rw [HY.out])) ?_) | (go_at_call 11; (with_reducible refine (M1.out _).mono ?_); rintro e w7 ⟨rfl, hb⟩; have O7 : Aside0 (Owns w w7 [(w1.heap.size, ys), (w.heap.size + 1, [.int .u32 a, .int .u32 b]), (w.heap.size, xs)]) := ⟨O6.out.call hb⟩; clear hb))
      go_upto_region 14 with (first | (refine wpList_load_mid rfl 26 _ rfl (w1.heap.size) 0 rfl ys _ (O7.out.range 0 _ _ rfl) Try.underlying26 rfl (size26.trans (by rw [HY.out])) ?_) | (go_at_call 11; (with_reducible refine (M2.out _).mono ?_); rintro e w8 ⟨rfl, hb⟩; have O8 : Aside0 (Owns w w8 [(w1.heap.size, ys), (w.heap.size + 1, [.int .u32 a, .int .u32 b]), (w.heap.size, xs)]) := ⟨O7.out.call hb⟩; clear hb))
      have hc := HC.out
      have hxa := HXA.out
      clear HC HXA
      rcases hc with ⟨rfl, rfl, rfl⟩ | ⟨rfl, rfl, rfl⟩ | ⟨rfl, rfl, rfl, rfl⟩
      · have ha := hxa rfl
        clear hxa
        go_wp2_with (go_at_call 10; (with_reducible refine (fixed_c _).mono ?_); rintro e w9 ⟨rfl, hb⟩; have O9 : Aside0 (Owns w w9 [(w1.heap.size, ys), (w.heap.size + 1, [.int .u32 a, .int .u32 b]), (w.heap.size, xs)]) := ⟨O8.out.call hb⟩; clear hb)
        go_ret
        exact ⟨rfl, O9.out.below⟩
      · have ha := hxa rfl
        clear hxa
        go_wp2_with (go_at_call 10; (with_reducible refine (fixed_c _).mono ?_); rintro e w9 ⟨rfl, hb⟩; have O9 : Aside0 (Owns w w9 [(w1.heap.size, ys), (w.heap.size + 1, [.int .u32 a, .int .u32 b]), (w.heap.size, xs)]) := ⟨O8.out.call hb⟩; clear hb)
        go_ret
        exact ⟨rfl, O9.out.below⟩
      · clear hxa
        go_wp2_with (go_at_call 10; (with_reducible refine (fixed_c _).mono ?_); rintro e w9 ⟨rfl, hb⟩; have O9 : Aside0 (Owns w w9 [(w1.heap.size, ys), (w.heap.size + 1, [.int .u32 a, .int .u32 b]), (w.heap.size, xs)]) := ⟨O8.out.call hb⟩; clear hb)
        go_ret
        exact ⟨rfl, O9.out.below⟩
end Go.Proofs.Ytngebimnahojlaa.LawB
