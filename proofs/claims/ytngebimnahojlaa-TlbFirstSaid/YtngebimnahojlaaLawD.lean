/- The walk of TlbFirst: whatever the buffer, the slot, the address and the space, the call answers true and leaves what lay in memory. Conditions: the premises of the plain law (LawE). -/
import Derived.Test.YtngebimnahojlaaPair
import Derived.BigQuiet
import Derived.Deep.QuietTactic
import Derived.Outline
namespace Go.Proofs.Ytngebimnahojlaa.LawD
open Go.RowKit Go.Proofs.Ytngebimnahojlaa.Frm Go.Proofs.Ytngebimnahojlaa.Con Go.Proofs.Ytngebimnahojlaa.Num Go.Proofs.Ytngebimnahojlaa.Pair Go.Proofs.YtngebimnahojlaaW.PrintWords Go.Proofs.YtngebimnahojlaaW.PrintLast Go.Proofs.YtngebimnahojlaaW.PrintMore
set_option linter.unusedVariables false
set_option linter.unusedSimpArgs false
/-- A Fit's cells. -/
abbrev fit19 (h l : Nat → Int) (slot a s : Int) : List Value := [.int .u32 (h 0), .int .u32 (l 0), .int .u32 (h 1), .int .u32 (l 1), .int .u32 (h 2), .int .u32 (l 2), .int .u32 (h 3), .int .u32 (l 3), .int .u32 (h 4), .int .u32 (l 4), .int .u32 (h 5), .int .u32 (l 5), .int .u32 (h 6), .int .u32 (l 6), .int .u32 (h 7), .int .u32 (l 7), .int .i64 slot, .int .u32 a, .int .u32 s]
set_option maxHeartbeats 8000000 in
set_option maxRecDepth 100000 in
theorem first_raw (h l h' l' : Nat → Int) (xs ys : List Value) (hxe : cells16 h l = xs) (hx : xs.length = 16) (hy : ys.length = 16) (hny : Nums ys) (slot a s hw r : Int) (k : Nat) (hk : k < 8)
    (hs : Go.bits .and .i64 slot 7 = (k : Int)) (hhw : (Go.bits .and .u32 a 4294967040 + Go.bits .and .u32 s 255) % 4294967296 = hw)
    (p : Ans 7 #[.agg xs.toArray, .int .i64 k, .agg #[.int .u32 hw, .int .u32 6]] (.tuple #[.agg ys.toArray, .int .i64 0]))
    (q : ∀ j : Nat, j < 8 → Ans 9 #[.agg ys.toArray, .int .i64 j] (.tuple #[.agg #[.int .u32 (h' j), .int .u32 (l' j)], .int .i64 0]))
    (f : Ans 13 #[.agg ys.toArray, .int .u32 a, .int .u32 s] (.int .i64 r)) (m : Nat) (hm : r = (m : Int)) (hmk : m ≤ k)
    (hn : ∀ j : Nat, j < m → ((Go.bits .and .u32 (h' j) 4294967040 == Go.bits .and .u32 a 4294967040) && ((Go.bits .and .u32 (l' j) 1 == 1) || (Go.bits .and .u32 (h' j) 255 == Go.bits .and .u32 s 255))) = false) (w : World) :
    Calls Try.prog 6 #[.agg (List.toArray (fit19 h l slot a s))] w fun e w' => e = .returned (.bool true) ∧ Below w.heap.size w w' := by
  subst hm
  have HX := Aside0.mk hx
  clear hx
  have HY := Aside0.mk hy
  clear hy
  have HNY := Aside0.mk hny
  clear hny
  have P1 := Aside0.mk p
  clear p
  have Q1 := Aside0.mk q
  clear q
  have F1 := Aside0.mk f
  clear f
  have HN := Aside0.mk hn
  clear hn
  have HXE := Aside0.mk hxe
  clear hxe
  have HS := Aside0.mk hs
  clear hs
  have HW := Aside0.mk hhw
  clear hhw
  have k0 : (0 : Int) ≤ (k : Int) := by omega
  have k1 : (k : Int) < 8 := by omega
  have m0 : (0 : Int) ≤ (m : Int) := by omega
  have mk : (m : Int) ≤ (k : Int) := by omega
  have mk1 : decide ((k : Int) < (m : Int)) = false := by simp; omega
  have mk2 : decide ((m : Int) < 0) = false := by simp
  have mk3 : decide (k < m) = false := by simp; omega
  go_enter Try.func6, Try.ntmps6
  go_upto_region 1 with fail
  have O0 : Aside0 (Owns w (w.alloc (.cells (List.toArray (fit19 h l slot a s)) 39)) [(w.heap.size, (fit19 h l slot a s))]) := ⟨(Owns.start w).new (fit19 h l slot a s) 39⟩
  generalize w.alloc (.cells (List.toArray (fit19 h l slot a s)) 39) = W0 at O0 ⊢
  have r0 := fun (W : World) (q : Owns w W [(w.heap.size, (fit19 h l slot a s))]) => q.cell 0 (w.heap.size) _ rfl 0 _ rfl
  have r1 := fun (W : World) (q : Owns w W [(w.heap.size, (fit19 h l slot a s))]) => q.cell 0 (w.heap.size) _ rfl 1 _ rfl
  have r2 := fun (W : World) (q : Owns w W [(w.heap.size, (fit19 h l slot a s))]) => q.cell 0 (w.heap.size) _ rfl 2 _ rfl
  have r3 := fun (W : World) (q : Owns w W [(w.heap.size, (fit19 h l slot a s))]) => q.cell 0 (w.heap.size) _ rfl 3 _ rfl
  have r4 := fun (W : World) (q : Owns w W [(w.heap.size, (fit19 h l slot a s))]) => q.cell 0 (w.heap.size) _ rfl 4 _ rfl
  have r5 := fun (W : World) (q : Owns w W [(w.heap.size, (fit19 h l slot a s))]) => q.cell 0 (w.heap.size) _ rfl 5 _ rfl
  have r6 := fun (W : World) (q : Owns w W [(w.heap.size, (fit19 h l slot a s))]) => q.cell 0 (w.heap.size) _ rfl 6 _ rfl
  have r7 := fun (W : World) (q : Owns w W [(w.heap.size, (fit19 h l slot a s))]) => q.cell 0 (w.heap.size) _ rfl 7 _ rfl
  have r8 := fun (W : World) (q : Owns w W [(w.heap.size, (fit19 h l slot a s))]) => q.cell 0 (w.heap.size) _ rfl 8 _ rfl
  have r9 := fun (W : World) (q : Owns w W [(w.heap.size, (fit19 h l slot a s))]) => q.cell 0 (w.heap.size) _ rfl 9 _ rfl
  have r10 := fun (W : World) (q : Owns w W [(w.heap.size, (fit19 h l slot a s))]) => q.cell 0 (w.heap.size) _ rfl 10 _ rfl
  have r11 := fun (W : World) (q : Owns w W [(w.heap.size, (fit19 h l slot a s))]) => q.cell 0 (w.heap.size) _ rfl 11 _ rfl
  have r12 := fun (W : World) (q : Owns w W [(w.heap.size, (fit19 h l slot a s))]) => q.cell 0 (w.heap.size) _ rfl 12 _ rfl
  have r13 := fun (W : World) (q : Owns w W [(w.heap.size, (fit19 h l slot a s))]) => q.cell 0 (w.heap.size) _ rfl 13 _ rfl
  have r14 := fun (W : World) (q : Owns w W [(w.heap.size, (fit19 h l slot a s))]) => q.cell 0 (w.heap.size) _ rfl 14 _ rfl
  have r15 := fun (W : World) (q : Owns w W [(w.heap.size, (fit19 h l slot a s))]) => q.cell 0 (w.heap.size) _ rfl 15 _ rfl
  have r16 := fun (W : World) (q : Owns w W [(w.heap.size, (fit19 h l slot a s))]) => q.cell 0 (w.heap.size) _ rfl 16 _ rfl
  have r17 := fun (W : World) (q : Owns w W [(w.heap.size, (fit19 h l slot a s))]) => q.cell 0 (w.heap.size) _ rfl 17 _ rfl
  have r18 := fun (W : World) (q : Owns w W [(w.heap.size, (fit19 h l slot a s))]) => q.cell 0 (w.heap.size) _ rfl 18 _ rfl
  go_region_held3 (fun w' => Owns w w' [(w.heap.size, (fit19 h l slot a s))]) (first | with_reducible exact O0.out.drew | with_reducible exact Owns.drew (Owns.alloc O0.out _) | with_reducible exact Owns.alloc (Owns.drew O0.out) _) (fail)
  clear r0 r1 r2 r3 r4 r5 r6 r7 r8 r9 r10 r11 r12 r13 r14 r15 r16 r17 r18
  go_upto_region 2 with fail
  have O1 : Aside0 (Owns w ((W0.alloc (.cells (List.toArray (cells16 h l)) 26)).drew) [(W0.heap.size, cells16 h l), (w.heap.size, (fit19 h l slot a s))]) := ⟨(O0.out.new (cells16 h l) 26).drew⟩
  generalize (W0.alloc (.cells (List.toArray (cells16 h l)) 26)).drew = W1 at O1 ⊢
  clear O0
  rw [HXE.out] at O1
  have a1 := HS.out
  have a2 := HW.out
  go_upto_region 3 with fail
  go_upto_region 4 with (first | (refine wpList_load_mid rfl 26 _ rfl (W0.heap.size) 0 rfl xs _ (O1.out.range 0 _ _ rfl) Try.underlying26 rfl (size26.trans (by rw [HX.out])) ?_) | (go_at_call 7; (with_reducible refine (P1.out _).mono ?_); rintro e w2 ⟨rfl, hb⟩; have O2 : Aside0 (Owns w w2 [(W0.heap.size, xs), (w.heap.size, (fit19 h l slot a s))]) := ⟨O1.out.call hb⟩; clear hb) | (refine wpList_store_mid rfl 26 _ _ rfl (w2.heap.size) 0 (List.toArray ys) rfl rfl ((O2.out.new z16 26).there 0 _ _ rfl _ (by simp [HY.out])) (size26.trans (by simp [HY.out])) (all_oneCell_toArray HNY.out.one) ?_))
  have lt0 := O2.out.lt 0 (W0.heap.size) _ rfl
  have lt1 := O2.out.lt 1 (w.heap.size) _ rfl
  have O2n : Aside0 (Owns w ((w2.alloc (.cells (List.toArray z16) 26)).setCells w2.heap.size 0 ys) [(w2.heap.size, ys), (W0.heap.size, xs), (w.heap.size, (fit19 h l slot a s))]) := ⟨(O2.out.new z16 26).setCells 0 _ _ rfl ys (by simp [HY.out]) (by intro p hp; simp at hp; rcases hp with rfl | rfl <;> simp <;> omega)⟩
  generalize (w2.alloc (.cells (List.toArray z16) 26)).setCells w2.heap.size 0 ys = W2 at O2n ⊢
  clear O2
  clear a1 a2
  go_wp2_with (first | (refine wpList_load_mid rfl 26 _ rfl (w2.heap.size) 0 rfl ys _ (O2n.out.range 0 _ _ rfl) Try.underlying26 rfl (size26.trans (by rw [HY.out])) ?_) | (go_at_call 13; (with_reducible refine (F1.out _).mono ?_); rintro e w6 ⟨rfl, hb⟩; have O6 : Aside0 (Owns w w6 [(w2.heap.size, ys), (W0.heap.size, xs), (w.heap.size, (fit19 h l slot a s))]) := ⟨O2n.out.call hb⟩; clear hb))
  go_loopw [11] (fun i wr => ∃ j : Nat, j ≤ m ∧ i = .int .i64 j ∧ Aside0 (Owns w wr [(w2.heap.size, ys), (W0.heap.size, xs), (w.heap.size, (fit19 h l slot a s))])) (fun i _ => m - (intOf i).toNat)
  case atStart => exact ⟨0, by omega, rfl, O6⟩
  case round =>
    clear O6
    obtain ⟨j, hj, rfl, OW⟩ := hrel
    by_cases hlt : j < m
    · have j0 : (0 : Int) ≤ (j : Int) := by omega
      have j1 : (j : Int) < (m : Int) := by omega
      have j8 : j < 8 := by omega
      go_upto_region 13 with (first | (refine wpList_load_mid rfl 26 _ rfl (w2.heap.size) 0 rfl ys _ (OW.out.range 0 _ _ rfl) Try.underlying26 rfl (size26.trans (by rw [HY.out])) ?_) | (go_at_call 9; (with_reducible refine (Q1.out j j8 _).mono ?_); rintro e w8 ⟨rfl, hb⟩; have O8 : Aside0 (Owns w w8 [(w2.heap.size, ys), (W0.heap.size, xs), (w.heap.size, (fit19 h l slot a s))]) := ⟨OW.out.call hb⟩; clear hb))
      have O3 : Aside0 (Owns w (w8.alloc (.cells (List.toArray [.int .u32 (h' j), .int .u32 (l' j)]) 24)) [(w8.heap.size, [.int .u32 (h' j), .int .u32 (l' j)]), (w2.heap.size, ys), (W0.heap.size, xs), (w.heap.size, (fit19 h l slot a s))]) := ⟨O8.out.new [.int .u32 (h' j), .int .u32 (l' j)] 24⟩
      generalize w8.alloc (.cells (List.toArray [.int .u32 (h' j), .int .u32 (l' j)]) 24) = W3 at O3 ⊢
      have x0' := O3.out.cell 0 (w8.heap.size) _ rfl 0 _ rfl
      have x1' := O3.out.cell 0 (w8.heap.size) _ rfl 1 _ rfl
      have hnj := HN.out j hlt
      obtain ⟨b1, hb1⟩ : ∃ b, (Go.bits .and .u32 (h' j) 4294967040 == Go.bits .and .u32 a 4294967040) = b := ⟨_, rfl⟩
      obtain ⟨b2, hb2⟩ : ∃ b, (Go.bits .and .u32 (l' j) 1 == 1) = b := ⟨_, rfl⟩
      obtain ⟨b3, hb3⟩ : ∃ b, (Go.bits .and .u32 (h' j) 255 == Go.bits .and .u32 s 255) = b := ⟨_, rfl⟩
      rw [hb1, hb2, hb3] at hnj
      have hcase : b1 = false ∨ (b1 = true ∧ b2 = false ∧ b3 = false) := by cases b1 <;> cases b2 <;> cases b3 <;> simp at hnj ⊢
      clear hnj
      rcases hcase with rfl | ⟨rfl, rfl, rfl⟩
      all_goals
        go_wp2_with fail
        go_roundw
        case rel => first | exact ⟨j + 1, by omega, by go_num, ⟨O3.out.sub (fun p hp => List.mem_cons_of_mem _ hp)⟩⟩ | ((repeat apply Exists.intro); exact ⟨⟨j + 1, by omega, by go_num, ⟨O3.out.sub (fun p hp => List.mem_cons_of_mem _ hp)⟩⟩, rfl⟩)
        case measure => simp [intOf]; omega
    · obtain rfl : j = m := by omega
      go_wp2_with (go_at_call 10; (with_reducible refine (fixed_c _).mono ?_); rintro e w9 ⟨rfl, hb⟩; have O9 : Aside0 (Owns w w9 [(w2.heap.size, ys), (W0.heap.size, xs), (w.heap.size, (fit19 h l slot a s))]) := ⟨OW.out.call hb⟩; clear hb)
      go_ret
      exact ⟨rfl, O9.out.below⟩
end Go.Proofs.Ytngebimnahojlaa.LawD
