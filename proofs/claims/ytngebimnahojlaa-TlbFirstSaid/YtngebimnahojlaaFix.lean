/- The calls whose answers the document fixes: the law's own check is true. No conditions. -/
import Derived.Test.YtngebimnahojlaaConD
import Derived.Test.YtngebimnahojlaaRng
import Derived.Test.YtngebimnahojlaaConC
import Derived.Outline
namespace Go.Proofs.Ytngebimnahojlaa.Con
open Go.RowKit Go.Proofs.Ytngebimnahojlaa.Frm Go.Proofs.YtngebimnahojlaaW.PrintWords Go.Proofs.YtngebimnahojlaaW.PrintLast Go.Proofs.YtngebimnahojlaaW.PrintMore
set_option linter.unusedVariables false
set_option linter.unusedSimpArgs false
/-- The call answers v, and leaves old memory. -/
abbrev Ans (f : Nat) (args : Array Value) (v : Value) : Prop := ∀ w : World, Calls Try.prog f args w fun e w' => e = .returned v ∧ Below w.heap.size w w'
set_option maxHeartbeats 8000000 in
set_option maxRecDepth 100000 in
theorem fixed_raw (ts ys zs : List Value) (hz : zs.length = 16) (hnz : Nums zs) (ht : ts.length = 16) (hy : ys.length = 16) (hnt : Nums ts) (hny : Nums ys) (hy3 : ys[3]? = some (.int .u32 7))
    (c1 : Ans 7 #[.agg (List.toArray z16), .int .i64 0, .agg #[.int .u32 1280, .int .u32 4614]] (.tuple #[.agg ts.toArray, .int .i64 0]))
    (m1 : Ans 11 #[.agg ts.toArray, .int .u32 1332, .int .u32 0, .bool false] (.tuple #[.int .u32 4660, .int .i64 0]))
    (m2 : Ans 11 #[.agg ts.toArray, .int .u32 1332, .int .u32 1, .bool false] (.tuple #[.int .u32 0, .int .i64 1]))
    (r1 : Ans 9 #[.agg ts.toArray, .int .i64 0] (.tuple #[.agg #[.int .u32 1280, .int .u32 4614], .int .i64 0]))
    (r2 : Ans 9 #[.agg ts.toArray, .int .i64 8] (.tuple #[.agg #[.int .u32 0, .int .u32 0], .int .i64 70]))
    (x1 : Ans 7 #[.agg ts.toArray, .int .i64 (-1), .agg #[.int .u32 1280, .int .u32 4614]] (.tuple #[.agg zs.toArray, .int .i64 70]))
    (x2 : Ans 7 #[.agg ts.toArray, .int .i64 1, .agg #[.int .u32 0, .int .u32 255]] (.tuple #[.agg ys.toArray, .int .i64 0]))
    (f1 : Ans 13 #[.agg ts.toArray, .int .u32 1535, .int .u32 0] (.int .i64 0)) (f2 : Ans 13 #[.agg ts.toArray, .int .u32 1536, .int .u32 0] (.int .i64 (-1)))
    (hq : ∀ w : World, (binOp .eql 24 (.agg #[.int .u32 1280, .int .u32 4614]) (.agg #[.int .u32 1280, .int .u32 4614])).run Try.prog w = .ok (.bool true) w) (w : World) :
    Calls Try.prog 10 #[] w fun e w' => e = .returned (.bool true) ∧ Below w.heap.size w w' := by
  have HZ_ := Aside0.mk hz
  clear hz
  have HNZ_ := Aside0.mk hnz
  clear hnz
  have HT_ := Aside0.mk ht
  clear ht
  have HY_ := Aside0.mk hy
  clear hy
  have HNT_ := Aside0.mk hnt
  clear hnt
  have HNY_ := Aside0.mk hny
  clear hny
  have HY3_ := Aside0.mk hy3
  clear hy3
  have C1_ := Aside0.mk c1
  clear c1
  have M1_ := Aside0.mk m1
  clear m1
  have M2_ := Aside0.mk m2
  clear m2
  have R1_ := Aside0.mk r1
  clear r1
  have R2_ := Aside0.mk r2
  clear r2
  have X1_ := Aside0.mk x1
  clear x1
  have X2_ := Aside0.mk x2
  clear x2
  have F1_ := Aside0.mk f1
  clear f1
  have F2_ := Aside0.mk f2
  clear f2
  go_enter Try.func10, Try.ntmps10
  have O0 : Aside0 (Owns w w []) := ⟨Owns.start w⟩
  go_upto_region 2 with (first | (go_at_call 7; (with_reducible refine (C1_.out _).mono ?_); rintro e w1 ⟨rfl, hb⟩; have O1 : Aside0 (Owns w w1 []) := ⟨O0.out.call hb⟩; clear hb) | (refine wpList_store_mid rfl 26 _ _ rfl (w1.heap.size) 0 (List.toArray ts) rfl rfl ((O1.out.new z16 26).there 0 _ _ rfl _ (by simp [HT_.out])) (size26.trans (by simp [HT_.out])) (all_oneCell_toArray HNT_.out.one) ?_))
  have O1n : Aside0 (Owns w ((w1.alloc (.cells (List.toArray z16) 26)).setCells w1.heap.size 0 ts) [(w1.heap.size, ts)]) := ⟨(O1.out.new z16 26).setCells 0 _ _ rfl ts (by simp [HT_.out]) (by intro p hp; simp at hp)⟩
  generalize (w1.alloc (.cells (List.toArray z16) 26)).setCells w1.heap.size 0 ts = W1 at O1n ⊢
  clear O1
  go_upto_region 3 with (first | (refine wpList_load_mid rfl 26 _ rfl (w1.heap.size) 0 rfl ts _ (O1n.out.range 0 _ _ rfl) Try.underlying26 rfl (size26.trans (by rw [HT_.out])) ?_) | (go_at_call 11; (with_reducible refine (M1_.out _).mono ?_); rintro e w2 ⟨rfl, hb⟩; have O2 : Aside0 (Owns w w2 [(w1.heap.size, ts)]) := ⟨O1n.out.call hb⟩; clear hb))
  go_upto_region 4 with (first | (refine wpList_load_mid rfl 26 _ rfl (w1.heap.size) 0 rfl ts _ (O2.out.range 0 _ _ rfl) Try.underlying26 rfl (size26.trans (by rw [HT_.out])) ?_) | (go_at_call 11; (with_reducible refine (M2_.out _).mono ?_); rintro e w3 ⟨rfl, hb⟩; have O3 : Aside0 (Owns w w3 [(w1.heap.size, ts)]) := ⟨O2.out.call hb⟩; clear hb))
  go_upto_region 5 with (first | (refine wpList_load_mid rfl 26 _ rfl (w1.heap.size) 0 rfl ts _ (O3.out.range 0 _ _ rfl) Try.underlying26 rfl (size26.trans (by rw [HT_.out])) ?_) | (go_at_call 9; (with_reducible refine (R1_.out _).mono ?_); rintro e w4 ⟨rfl, hb⟩; have O4 : Aside0 (Owns w w4 [(w1.heap.size, ts)]) := ⟨O3.out.call hb⟩; clear hb))
  have O4n : Aside0 (Owns w (w4.alloc (.cells (List.toArray [.int .u32 1280, .int .u32 4614]) 24)) [(w4.heap.size, [.int .u32 1280, .int .u32 4614]), (w1.heap.size, ts)]) := ⟨O4.out.new [.int .u32 1280, .int .u32 4614] 24⟩
  generalize w4.alloc (.cells (List.toArray [.int .u32 1280, .int .u32 4614]) 24) = W4 at O4n ⊢
  clear O4
  go_upto_region 6 with (first | (refine wpList_load_mid rfl 26 _ rfl (w1.heap.size) 0 rfl ts _ (O4n.out.range 1 _ _ rfl) Try.underlying26 rfl (size26.trans (by rw [HT_.out])) ?_) | (go_at_call 9; (with_reducible refine (R2_.out _).mono ?_); rintro e w5 ⟨rfl, hb⟩; have O5 : Aside0 (Owns w w5 [(w4.heap.size, [.int .u32 1280, .int .u32 4614]), (w1.heap.size, ts)]) := ⟨O4n.out.call hb⟩; clear hb))
  have O5n : Aside0 (Owns w (w5.alloc (.cells (List.toArray [.int .u32 0, .int .u32 0]) 24)) [(w5.heap.size, [.int .u32 0, .int .u32 0]), (w4.heap.size, [.int .u32 1280, .int .u32 4614]), (w1.heap.size, ts)]) := ⟨O5.out.new [.int .u32 0, .int .u32 0] 24⟩
  generalize w5.alloc (.cells (List.toArray [.int .u32 0, .int .u32 0]) 24) = W5 at O5n ⊢
  clear O5
  have x0 := O5n.out.cell 1 (w4.heap.size) _ rfl 0 _ rfl
  have x1 := O5n.out.cell 1 (w4.heap.size) _ rfl 1 _ rfl
  have xl := O5n.out.lt 1 (w4.heap.size) _ rfl
  go_upto_region 7 with (first | (refine wpList_load_mid rfl 26 _ rfl (w1.heap.size) 0 rfl ts _ (O5n.out.range 2 _ _ rfl) Try.underlying26 rfl (size26.trans (by rw [HT_.out])) ?_) | (go_at_call 7; (with_reducible refine (X1_.out _).mono ?_); rintro e w6 ⟨rfl, hb⟩; have O6 : Aside0 (Owns w w6 [(w5.heap.size, [.int .u32 0, .int .u32 0]), (w4.heap.size, [.int .u32 1280, .int .u32 4614]), (w1.heap.size, ts)]) := ⟨O5n.out.call hb⟩; clear hb) | (refine wpList_store_mid rfl 26 _ _ rfl (w6.heap.size) 0 (List.toArray zs) rfl rfl ((O6.out.new z16 26).there 0 _ _ rfl _ (by simp [HZ_.out])) (size26.trans (by simp [HZ_.out])) (all_oneCell_toArray HNZ_.out.one) ?_))
  clear x0 x1 xl
  have lt0 := O6.out.lt 0 (w5.heap.size) _ rfl
  have lt1 := O6.out.lt 1 (w4.heap.size) _ rfl
  have lt2 := O6.out.lt 2 (w1.heap.size) _ rfl
  have O6n : Aside0 (Owns w ((w6.alloc (.cells (List.toArray z16) 26)).setCells w6.heap.size 0 zs) [(w6.heap.size, zs), (w5.heap.size, [.int .u32 0, .int .u32 0]), (w4.heap.size, [.int .u32 1280, .int .u32 4614]), (w1.heap.size, ts)]) := ⟨(O6.out.new z16 26).setCells 0 _ _ rfl zs (by simp [HZ_.out]) (by intro p hp; simp at hp; rcases hp with rfl | rfl | rfl <;> simp <;> omega)⟩
  generalize (w6.alloc (.cells (List.toArray z16) 26)).setCells w6.heap.size 0 zs = W6 at O6n ⊢
  clear O6
  go_upto_region 8 with (first | (refine wpList_load_mid rfl 26 _ rfl (w1.heap.size) 0 rfl ts _ (O6n.out.range 3 _ _ rfl) Try.underlying26 rfl (size26.trans (by rw [HT_.out])) ?_) | (go_at_call 7; (with_reducible refine (X2_.out _).mono ?_); rintro e w7 ⟨rfl, hb⟩; have O7 : Aside0 (Owns w w7 [(w6.heap.size, zs), (w5.heap.size, [.int .u32 0, .int .u32 0]), (w4.heap.size, [.int .u32 1280, .int .u32 4614]), (w1.heap.size, ts)]) := ⟨O6n.out.call hb⟩; clear hb) | (refine wpList_store_mid rfl 26 _ _ rfl (w7.heap.size) 0 (List.toArray ys) rfl rfl ((O7.out.new z16 26).there 0 _ _ rfl _ (by simp [HY_.out])) (size26.trans (by simp [HY_.out])) (all_oneCell_toArray HNY_.out.one) ?_))
  have lt0 := O7.out.lt 0 (w6.heap.size) _ rfl
  have lt1 := O7.out.lt 1 (w5.heap.size) _ rfl
  have lt2 := O7.out.lt 2 (w4.heap.size) _ rfl
  have lt3 := O7.out.lt 3 (w1.heap.size) _ rfl
  have O7n : Aside0 (Owns w ((w7.alloc (.cells (List.toArray z16) 26)).setCells w7.heap.size 0 ys) [(w7.heap.size, ys), (w6.heap.size, zs), (w5.heap.size, [.int .u32 0, .int .u32 0]), (w4.heap.size, [.int .u32 1280, .int .u32 4614]), (w1.heap.size, ts)]) := ⟨(O7.out.new z16 26).setCells 0 _ _ rfl ys (by simp [HY_.out]) (by intro p hp; simp at hp; rcases hp with rfl | rfl | rfl | rfl <;> simp <;> omega)⟩
  generalize (w7.alloc (.cells (List.toArray z16) 26)).setCells w7.heap.size 0 ys = W7 at O7n ⊢
  clear O7
  have x0 := O7n.out.cell 3 (w4.heap.size) _ rfl 0 _ rfl
  have x1 := O7n.out.cell 3 (w4.heap.size) _ rfl 1 _ rfl
  have xl := O7n.out.lt 3 (w4.heap.size) _ rfl
  have y3 := O7n.out.cell 0 (w7.heap.size) _ rfl 3 _ HY3_.out
  go_wp2_with (first | (refine wpList_load_want rfl 26 _ rfl (w1.heap.size) 0 rfl ts _ (O7n.out.range 4 _ _ rfl) Try.underlying26 rfl (size26.trans (by rw [HT_.out])) ?_) | (go_at_call 13; (with_reducible refine (F1_.out _).mono ?_); rintro e w8 ⟨rfl, hb⟩; have O8 : Aside0 (Owns w w8 [(w7.heap.size, ys), (w6.heap.size, zs), (w5.heap.size, [.int .u32 0, .int .u32 0]), (w4.heap.size, [.int .u32 1280, .int .u32 4614]), (w1.heap.size, ts)]) := ⟨O7n.out.call hb⟩; clear hb) | (refine wpList_load_want rfl 26 _ rfl (w1.heap.size) 0 rfl ts _ (O8.out.range 4 _ _ rfl) Try.underlying26 rfl (size26.trans (by rw [HT_.out])) ?_) | (go_at_call 13; (with_reducible refine (F2_.out _).mono ?_); rintro e w9 ⟨rfl, hb⟩; have O9 : Aside0 (Owns w w9 [(w7.heap.size, ys), (w6.heap.size, zs), (w5.heap.size, [.int .u32 0, .int .u32 0]), (w4.heap.size, [.int .u32 1280, .int .u32 4614]), (w1.heap.size, ts)]) := ⟨O8.out.call hb⟩; clear hb))
  go_ret
  exact ⟨rfl, O9.out.below⟩
end Go.Proofs.Ytngebimnahojlaa.Con
