/- What tlb.Write answers, and the document's Write, whatever the buffer's cells. Conditions as each says. -/
import Derived.Test.YtngebimnahojlaaConB
import Derived.Test.YtngebimnahojlaaRng
namespace Go.Proofs.Ytngebimnahojlaa.Con
open Go.RowKit Go.Proofs.Ytngebimnahojlaa.Frm Go.Proofs.YtngebimnahojlaaW.PrintWords Go.Proofs.YtngebimnahojlaaW.PrintLast Go.Proofs.YtngebimnahojlaaW.PrintMore
set_option linter.unusedVariables false
set_option linter.unusedSimpArgs false
abbrev z16 : List Value := [.int .u32 0, .int .u32 0, .int .u32 0, .int .u32 0, .int .u32 0, .int .u32 0, .int .u32 0, .int .u32 0, .int .u32 0, .int .u32 0, .int .u32 0, .int .u32 0, .int .u32 0, .int .u32 0, .int .u32 0, .int .u32 0]
theorem size26 : (Try.prog.info? 26).map (·.size) = some 16 := by kernel_rfl
def upd (xs : List Value) (k : Nat) (a b : Int) : List Value := (xs.set (k * 2) (.int .u32 a)).set (k * 2 + 1) (.int .u32 b)
theorem upd_len (xs : List Value) (k : Nat) (a b : Int) : (upd xs k a b).length = xs.length := by simp [upd]
/-- A row of whole numbers of the kind. -/
def Nums (xs : List Value) : Prop := ∀ v, v ∈ xs → ∃ n : Int, v = .int .u32 n
theorem Nums.one {xs : List Value} (h : Nums xs) : ∀ v, v ∈ xs → v.oneCell' = true := fun v hv => by obtain ⟨n, rfl⟩ := h v hv; rfl
theorem z16_nums : Nums z16 := fun v hv => ⟨0, by simpa [z16] using hv⟩
theorem Nums.upd {xs : List Value} (h : Nums xs) (k : Nat) (a b : Int) : Nums (upd xs k a b) := fun v hv => by
  unfold Con.upd at hv
  rcases List.mem_or_eq_of_mem_set hv with h1 | h1
  · rcases List.mem_or_eq_of_mem_set h1 with h2 | h2
    · exact h v h2
    · exact ⟨_, h2⟩
  · exact ⟨_, h1⟩
set_option maxHeartbeats 4000000 in
set_option maxRecDepth 100000 in
theorem write_any (xs : List Value) (hx : xs.length = 16) (hn : Nums xs) (a b b1 : Int) (k : Nat) (hk : k < 8) (r : Bool) (hb1 : Go.bits .or .u32 (Go.bits .andNot .u32 b 255) (Go.bits .and .u32 b 7) = b1)
    (hq : ∀ w : World, (binOp .eql 26 (.agg (upd xs k a b1).toArray) (.agg xs.toArray)).run Try.prog w = .ok (.bool r) w) (hr : r = true → upd xs k a b1 = xs) (w : World) :
    Calls Try.prog 7 #[.agg xs.toArray, .int .i64 k, .agg #[.int .u32 a, .int .u32 b]] w fun e w' => e = .returned (.tuple #[.agg (upd xs k a b1).toArray, .int .i64 0]) ∧ Below w.heap.size w w' := by
  have k0 : (0 : Int) ≤ (k : Int) := by omega
  have k1 : (k : Int) < 8 := by omega
  have HX := Aside0.mk hx
  have HR := Aside0.mk hr
  clear hx hr
  go_enter Try.func7, Try.ntmps7
  go_upto_region 1 with fail
  have O0 : Aside0 (Owns w (((w.alloc (.cells xs.toArray 26)).alloc (.cells #[.int .u32 a, .int .u32 b] 24)).alloc (.cells (List.toArray z16) 26)) [(w.heap.size + 2, z16), (w.heap.size + 1, [.int .u32 a, .int .u32 b]), (w.heap.size, xs)]) := by
    have h := (((Owns.start w).new xs 26).new [.int .u32 a, .int .u32 b] 24).new z16 26
    simp only [World.size_alloc] at h
    exact ⟨h⟩
  generalize (((w.alloc (.cells xs.toArray 26)).alloc (.cells #[.int .u32 a, .int .u32 b] 24)).alloc (.cells (List.toArray z16) 26)) = W0 at O0 ⊢
  have e0 := O0.out.cell 1 (w.heap.size + 1) _ rfl 0 _ rfl
  have e1 := O0.out.cell 1 (w.heap.size + 1) _ rfl 1 _ rfl
  have ef := (O0.out.box 1 (w.heap.size + 1) _ rfl).free 1 (by simp)
  have l0 := O0.out.lt 0 (w.heap.size + 2) _ rfl
  go_upto_region 4 with fail
  have O1 : Aside0 (Owns w (W0.setCell ⟨w.heap.size + 1, 1, none⟩ (.int .u32 b1)) [(w.heap.size + 2, z16), (w.heap.size + 1, [.int .u32 a, .int .u32 b1]), (w.heap.size, xs)]) := ⟨O0.out.set 1 _ _ rfl 1 _ (by simp) (by intro p hp; simp at hp; rcases hp with rfl | rfl <;> simp)⟩
  generalize W0.setCell ⟨w.heap.size + 1, 1, none⟩ (.int .u32 b1) = W1 at O1 ⊢
  clear e0 e1 ef O0
  have l1 := O1.out.lt 0 (w.heap.size + 2) _ rfl
  clear l0
  go_upto_region 5 with (first | (refine wpList_load_mid rfl 26 _ rfl (w.heap.size) 0 rfl xs _ (O1.out.range 2 _ _ rfl) Try.underlying26 rfl (size26.trans (by rw [HX.out])) ?_) | (refine wpList_store_mid rfl 26 _ _ rfl _ 0 xs.toArray rfl rfl ((O1.out.new z16 26).there 0 _ _ rfl _ (by simp [HX.out])) (size26.trans (by simp [HX.out])) (all_oneCell_toArray hn.one) ?_))
  have O2 : Aside0 (Owns w ((W1.alloc (.cells (List.toArray z16) 26)).setCells W1.heap.size 0 xs) [(W1.heap.size, xs), (w.heap.size + 2, z16), (w.heap.size + 1, [.int .u32 a, .int .u32 b1]), (w.heap.size, xs)]) :=
    ⟨(O1.out.new z16 26).setCells 0 _ _ rfl xs (by simp [HX.out]) (by intro p hp; simp at hp; rcases hp with rfl | rfl | rfl <;> simp <;> omega)⟩
  generalize (W1.alloc (.cells (List.toArray z16) 26)).setCells W1.heap.size 0 xs = W2 at O2 ⊢
  clear O1
  have e0 := O2.out.cell 2 (w.heap.size + 1) _ rfl 0 _ rfl
  have e1 := O2.out.cell 2 (w.heap.size + 1) _ rfl 1 _ rfl
  have t0 := O2.out.cell 3 (w.heap.size) _ rfl (k * 2) _ (List.getElem?_eq_getElem (by rw [HX.out]; omega))
  have t1 := O2.out.cell 3 (w.heap.size) _ rfl (k * 2 + 1) _ (List.getElem?_eq_getElem (by rw [HX.out]; omega))
  have f0 := (O2.out.box 3 (w.heap.size) _ rfl).free (k * 2) (by rw [HX.out]; omega)
  have f1 := (O2.out.box 3 (w.heap.size) _ rfl).free (k * 2 + 1) (by rw [HX.out]; omega)
  go_upto_region 6 with fail
  have O3 : Aside0 (Owns w ((W2.setCell ⟨w.heap.size, k * 2, none⟩ (.int .u32 a)).setCell ⟨w.heap.size, k * 2 + 1, none⟩ (.int .u32 b1)) [(W1.heap.size, xs), (w.heap.size + 2, z16), (w.heap.size + 1, [.int .u32 a, .int .u32 b1]), (w.heap.size, upd xs k a b1)]) :=
    ⟨(O2.out.set 3 _ _ rfl (k * 2) (.int .u32 a) (by rw [HX.out]; omega) (by intro p hp; simp at hp; rcases hp with rfl | rfl | rfl <;> simp <;> omega)).set 3 _ _ rfl (k * 2 + 1) (.int .u32 b1) (by simp [HX.out]; omega) (by intro p hp; simp at hp; rcases hp with rfl | rfl | rfl <;> simp <;> omega)⟩
  generalize (W2.setCell ⟨w.heap.size, k * 2, none⟩ (.int .u32 a)).setCell ⟨w.heap.size, k * 2 + 1, none⟩ (.int .u32 b1) = W3 at O3 ⊢
  clear O2 e0 e1 t0 t1 f0 f1
  have hul := (upd_len xs k a b1).trans HX.out
  have HU := Aside0.mk hul
  have HN := Aside0.mk (hn.upd k a b1)
  clear hul
  have hur : upd xs k a b1 = upd xs k a b1 := rfl
  clear hur
  generalize hy : upd xs k a b1 = ys at *
  have HY := Aside0.mk hy
  clear hy
  cases r
  · go_wp2_with (first | (refine wpList_load_mid rfl 26 _ rfl (w.heap.size) 0 rfl ys _ (O3.out.range 3 _ _ rfl) Try.underlying26 rfl (size26.trans (by rw [HU.out])) ?_) | (refine wpList_load_mid rfl 26 _ rfl (W1.heap.size) 0 rfl xs _ (O3.out.range 0 _ _ rfl) Try.underlying26 rfl (size26.trans (by rw [HX.out])) ?_) | (refine wpList_store_mid rfl 26 _ _ rfl (w.heap.size + 2) 0 ys.toArray rfl rfl (O3.out.there 1 _ _ rfl _ (by simp [HU.out])) (size26.trans (by simp [HU.out])) (all_oneCell_toArray HN.out.one) ?_))
    have O4 : Aside0 (Owns w (W3.setCells (w.heap.size + 2) 0 ys) [(W1.heap.size, xs), (w.heap.size + 2, ys), (w.heap.size + 1, [.int .u32 a, .int .u32 b1]), (w.heap.size, ys)]) :=
      ⟨O3.out.setCells 1 _ _ rfl ys (by simp [HU.out]) (by intro p hp; simp at hp; rcases hp with rfl | rfl | rfl <;> simp <;> omega)⟩
    have hrow := run_loadVar_mid (P := Try.prog) _ _ 0 26 ys _ (O4.out.range 1 _ _ rfl) Try.underlying26 rfl (size26.trans (by rw [HU.out]))
    refine bodyPost_ret (v := .tuple #[.agg ys.toArray, .int .i64 0]) ?_ rfl ⟨by rw [HY.out], O4.out.below⟩
    rw [results_cell_tmp Try.results7]
    simp [asAddr, hrow]
  · go_wp2_with (first | (refine wpList_load_mid rfl 26 _ rfl (w.heap.size) 0 rfl ys _ (O3.out.range 3 _ _ rfl) Try.underlying26 rfl (size26.trans (by rw [HU.out])) ?_) | (refine wpList_load_mid rfl 26 _ rfl (W1.heap.size) 0 rfl xs _ (O3.out.range 0 _ _ rfl) Try.underlying26 rfl (size26.trans (by rw [HX.out])) ?_) | (refine wpList_store_mid rfl 26 _ _ rfl (w.heap.size + 2) 0 xs.toArray rfl rfl (O3.out.there 1 _ _ rfl _ (by simp [HX.out])) (size26.trans (by simp [HX.out])) (all_oneCell_toArray hn.one) ?_))
    have O4 : Aside0 (Owns w (W3.setCells (w.heap.size + 2) 0 xs) [(W1.heap.size, xs), (w.heap.size + 2, xs), (w.heap.size + 1, [.int .u32 a, .int .u32 b1]), (w.heap.size, ys)]) :=
      ⟨O3.out.setCells 1 _ _ rfl xs (by simp [HX.out]) (by intro p hp; simp at hp; rcases hp with rfl | rfl | rfl <;> simp <;> omega)⟩
    have hrow := run_loadVar_mid (P := Try.prog) _ _ 0 26 xs _ (O4.out.range 1 _ _ rfl) Try.underlying26 rfl (size26.trans (by rw [HX.out]))
    refine bodyPost_ret (v := .tuple #[.agg xs.toArray, .int .i64 0]) ?_ rfl ⟨by rw [HY.out, HR.out trivial], O4.out.below⟩
    rw [results_cell_tmp Try.results7]
    simp [asAddr, hrow]
set_option maxHeartbeats 4000000 in
set_option maxRecDepth 100000 in
theorem write_no (xs : List Value) (a b k : Int) (hk : k < 0 ∨ 8 ≤ k) (w : World) :
    Calls Try.prog 7 #[.agg xs.toArray, .int .i64 k, .agg #[.int .u32 a, .int .u32 b]] w fun e w' => e = .returned (.tuple #[.agg (List.toArray z16), .int .i64 70]) ∧ Below w.heap.size w w' := by
  go_enter Try.func7, Try.ntmps7
  go_upto_region 1 with fail
  have O0 : Aside0 (Owns w (((w.alloc (.cells xs.toArray 26)).alloc (.cells #[.int .u32 a, .int .u32 b] 24)).alloc (.cells (List.toArray z16) 26)) [(w.heap.size + 2, z16), (w.heap.size + 1, [.int .u32 a, .int .u32 b]), (w.heap.size, xs)]) := by
    have h := (((Owns.start w).new xs 26).new [.int .u32 a, .int .u32 b] 24).new z16 26
    simp only [World.size_alloc] at h
    exact ⟨h⟩
  generalize (((w.alloc (.cells xs.toArray 26)).alloc (.cells #[.int .u32 a, .int .u32 b] 24)).alloc (.cells (List.toArray z16) 26)) = W0 at O0 ⊢
  rcases hk with hk | hk

  · go_wp2_with (refine wpList_store_mid rfl 26 _ _ rfl (w.heap.size + 2) 0 (List.toArray z16) rfl rfl (O0.out.there 0 _ _ rfl _ rfl) size26 (all_oneCell_toArray z16_nums.one) ?_)
    have O4 : Aside0 (Owns w (W0.setCells (w.heap.size + 2) 0 z16) [(w.heap.size + 2, z16), (w.heap.size + 1, [.int .u32 a, .int .u32 b]), (w.heap.size, xs)]) :=
      ⟨O0.out.setCells 0 _ _ rfl z16 (by rfl) (by intro p hp; simp at hp; rcases hp with rfl | rfl <;> simp)⟩
    have hrow := run_loadVar_mid (P := Try.prog) _ _ 0 26 z16 _ (O4.out.range 0 _ _ rfl) Try.underlying26 rfl (size26.trans (by rfl))
    refine bodyPost_ret (v := .tuple #[.agg (List.toArray z16), .int .i64 70]) ?_ rfl ⟨rfl, O4.out.below⟩
    rw [results_cell_tmp Try.results7]
    simp [asAddr, hrow]
  · have hk' : ¬ k < 0 := by omega
    have hk2 : 7 < k := by omega
    go_wp2_with (refine wpList_store_mid rfl 26 _ _ rfl (w.heap.size + 2) 0 (List.toArray z16) rfl rfl (O0.out.there 0 _ _ rfl _ rfl) size26 (all_oneCell_toArray z16_nums.one) ?_)
    have O4 : Aside0 (Owns w (W0.setCells (w.heap.size + 2) 0 z16) [(w.heap.size + 2, z16), (w.heap.size + 1, [.int .u32 a, .int .u32 b]), (w.heap.size, xs)]) :=
      ⟨O0.out.setCells 0 _ _ rfl z16 (by rfl) (by intro p hp; simp at hp; rcases hp with rfl | rfl <;> simp)⟩
    have hrow := run_loadVar_mid (P := Try.prog) _ _ 0 26 z16 _ (O4.out.range 0 _ _ rfl) Try.underlying26 rfl (size26.trans (by rfl))
    refine bodyPost_ret (v := .tuple #[.agg (List.toArray z16), .int .i64 70]) ?_ rfl ⟨rfl, O4.out.below⟩
    rw [results_cell_tmp Try.results7]
    simp [asAddr, hrow]
set_option maxHeartbeats 4000000 in
set_option maxRecDepth 100000 in
theorem rwrite_no (xs : List Value) (a b k : Int) (hk : k < 0 ∨ 8 ≤ k) (w : World) :
    Calls Try.prog 8 #[.agg xs.toArray, .int .i64 k, .agg #[.int .u32 a, .int .u32 b]] w fun e w' => e = .returned (.tuple #[.agg (List.toArray z16), .int .i64 70]) ∧ Below w.heap.size w w' := by
  go_enter Try.func8, Try.ntmps8
  go_upto_region 1 with fail
  have O0 : Aside0 (Owns w (((w.alloc (.cells xs.toArray 26)).alloc (.cells #[.int .u32 a, .int .u32 b] 24)).alloc (.cells (List.toArray z16) 26)) [(w.heap.size + 2, z16), (w.heap.size + 1, [.int .u32 a, .int .u32 b]), (w.heap.size, xs)]) := by
    have h := (((Owns.start w).new xs 26).new [.int .u32 a, .int .u32 b] 24).new z16 26
    simp only [World.size_alloc] at h
    exact ⟨h⟩
  generalize (((w.alloc (.cells xs.toArray 26)).alloc (.cells #[.int .u32 a, .int .u32 b] 24)).alloc (.cells (List.toArray z16) 26)) = W0 at O0 ⊢
  rcases hk with hk | hk

  · go_wp2_with (refine wpList_store_mid rfl 26 _ _ rfl (w.heap.size + 2) 0 (List.toArray z16) rfl rfl (O0.out.there 0 _ _ rfl _ rfl) size26 (all_oneCell_toArray z16_nums.one) ?_)
    have O4 : Aside0 (Owns w (W0.setCells (w.heap.size + 2) 0 z16) [(w.heap.size + 2, z16), (w.heap.size + 1, [.int .u32 a, .int .u32 b]), (w.heap.size, xs)]) :=
      ⟨O0.out.setCells 0 _ _ rfl z16 (by rfl) (by intro p hp; simp at hp; rcases hp with rfl | rfl <;> simp)⟩
    have hrow := run_loadVar_mid (P := Try.prog) _ _ 0 26 z16 _ (O4.out.range 0 _ _ rfl) Try.underlying26 rfl (size26.trans (by rfl))
    refine bodyPost_ret (v := .tuple #[.agg (List.toArray z16), .int .i64 70]) ?_ rfl ⟨rfl, O4.out.below⟩
    rw [results_cell_tmp Try.results8]
    simp [asAddr, hrow]
  · have hk' : ¬ k < 0 := by omega
    have hk2 : 7 < k := by omega
    go_wp2_with (refine wpList_store_mid rfl 26 _ _ rfl (w.heap.size + 2) 0 (List.toArray z16) rfl rfl (O0.out.there 0 _ _ rfl _ rfl) size26 (all_oneCell_toArray z16_nums.one) ?_)
    have O4 : Aside0 (Owns w (W0.setCells (w.heap.size + 2) 0 z16) [(w.heap.size + 2, z16), (w.heap.size + 1, [.int .u32 a, .int .u32 b]), (w.heap.size, xs)]) :=
      ⟨O0.out.setCells 0 _ _ rfl z16 (by rfl) (by intro p hp; simp at hp; rcases hp with rfl | rfl <;> simp)⟩
    have hrow := run_loadVar_mid (P := Try.prog) _ _ 0 26 z16 _ (O4.out.range 0 _ _ rfl) Try.underlying26 rfl (size26.trans (by rfl))
    refine bodyPost_ret (v := .tuple #[.agg (List.toArray z16), .int .i64 70]) ?_ rfl ⟨rfl, O4.out.below⟩
    rw [results_cell_tmp Try.results8]
    simp [asAddr, hrow]
set_option maxHeartbeats 4000000 in
set_option maxRecDepth 100000 in
theorem rwrite_any (xs : List Value) (hx : xs.length = 16) (hn : Nums xs) (a b b1 : Int) (k : Nat) (hk : k < 8) (b0 : 0 ≤ b) (b2 : b < 4294967296) (hb1 : b / 256 * 256 + b % 8 = b1) (w : World) :
    Calls Try.prog 8 #[.agg xs.toArray, .int .i64 k, .agg #[.int .u32 a, .int .u32 b]] w fun e w' => e = .returned (.tuple #[.agg (upd xs k a b1).toArray, .int .i64 0]) ∧ Below w.heap.size w w' := by
  have k0 : (0 : Int) ≤ (k : Int) := by omega
  have k1 : (k : Int) < 8 := by omega
  have HX := Aside0.mk hx
  clear hx
  go_enter Try.func8, Try.ntmps8
  go_upto_region 1 with fail
  have O0 : Aside0 (Owns w (((w.alloc (.cells xs.toArray 26)).alloc (.cells #[.int .u32 a, .int .u32 b] 24)).alloc (.cells (List.toArray z16) 26)) [(w.heap.size + 2, z16), (w.heap.size + 1, [.int .u32 a, .int .u32 b]), (w.heap.size, xs)]) := by
    have h := (((Owns.start w).new xs 26).new [.int .u32 a, .int .u32 b] 24).new z16 26
    simp only [World.size_alloc] at h
    exact ⟨h⟩
  generalize (((w.alloc (.cells xs.toArray 26)).alloc (.cells #[.int .u32 a, .int .u32 b] 24)).alloc (.cells (List.toArray z16) 26)) = W0 at O0 ⊢
  have e0 := O0.out.cell 1 (w.heap.size + 1) _ rfl 0 _ rfl
  have e1 := O0.out.cell 1 (w.heap.size + 1) _ rfl 1 _ rfl
  have l0 := O0.out.lt 0 (w.heap.size + 2) _ rfl
  have t0 := O0.out.cell 2 (w.heap.size) _ rfl (k * 2) _ (List.getElem?_eq_getElem (by rw [HX.out]; omega))
  have t1 := O0.out.cell 2 (w.heap.size) _ rfl (k * 2 + 1) _ (List.getElem?_eq_getElem (by rw [HX.out]; omega))
  have f0 := (O0.out.box 2 (w.heap.size) _ rfl).free (k * 2) (by rw [HX.out]; omega)
  have f1 := (O0.out.box 2 (w.heap.size) _ rfl).free (k * 2 + 1) (by rw [HX.out]; omega)
  go_upto_region 5 with fail
  have O3 : Aside0 (Owns w ((W0.setCell ⟨w.heap.size, k * 2, none⟩ (.int .u32 a)).setCell ⟨w.heap.size, k * 2 + 1, none⟩ (.int .u32 b1)) [(w.heap.size + 2, z16), (w.heap.size + 1, [.int .u32 a, .int .u32 b]), (w.heap.size, upd xs k a b1)]) :=
    ⟨(O0.out.set 2 _ _ rfl (k * 2) (.int .u32 a) (by rw [HX.out]; omega) (by intro p hp; simp at hp; rcases hp with rfl | rfl <;> simp)).set 2 _ _ rfl (k * 2 + 1) (.int .u32 b1) (by simp [HX.out]; omega) (by intro p hp; simp at hp; rcases hp with rfl | rfl <;> simp)⟩
  generalize (W0.setCell ⟨w.heap.size, k * 2, none⟩ (.int .u32 a)).setCell ⟨w.heap.size, k * 2 + 1, none⟩ (.int .u32 b1) = W3 at O3 ⊢
  clear O0 e0 e1 t0 t1 f0 f1
  have hul := (upd_len xs k a b1).trans HX.out
  have HU := Aside0.mk hul
  have HN := Aside0.mk (hn.upd k a b1)
  clear hul
  generalize hy : upd xs k a b1 = ys at *
  have HY := Aside0.mk hy
  clear hy
  · go_wp2_with (first | (refine wpList_load_mid rfl 26 _ rfl (w.heap.size) 0 rfl ys _ (O3.out.range 2 _ _ rfl) Try.underlying26 rfl (size26.trans (by rw [HU.out])) ?_) | (refine wpList_store_mid rfl 26 _ _ rfl (w.heap.size + 2) 0 ys.toArray rfl rfl (O3.out.there 0 _ _ rfl _ (by simp [HU.out])) (size26.trans (by simp [HU.out])) (all_oneCell_toArray HN.out.one) ?_))
    have O4 : Aside0 (Owns w (W3.setCells (w.heap.size + 2) 0 ys) [(w.heap.size + 2, ys), (w.heap.size + 1, [.int .u32 a, .int .u32 b]), (w.heap.size, ys)]) :=
      ⟨O3.out.setCells 0 _ _ rfl ys (by simp [HU.out]) (by intro p hp; simp at hp; rcases hp with rfl | rfl <;> simp)⟩
    have hrow := run_loadVar_mid (P := Try.prog) _ _ 0 26 ys _ (O4.out.range 0 _ _ rfl) Try.underlying26 rfl (size26.trans (by simp [HU.out]))
    refine bodyPost_ret (v := .tuple #[.agg ys.toArray, .int .i64 0]) ?_ rfl ⟨by rw [HY.out], O4.out.below⟩
    rw [results_cell_tmp Try.results8]
    simp [asAddr, hrow]

end Go.Proofs.Ytngebimnahojlaa.Con
