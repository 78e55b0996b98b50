/- The buffer as a value; '==' of buffers and of entries. No conditions of their own but that words are words. -/
import Derived.Test.YtngebimnahojlaaProg
import Derived.Below
import Derived.Deep.Draws
import Derived.Deep.AppendLies
import Derived.Maps.AppendAt
import Derived.OwnWalk
import Derived.Laws.BytesArg
import Derived.Laws.MakeOwn
import Derived.Laws.OwnMore
import Derived.Deep.OwnRows
import Derived.Tactics
import Derived.Lib.ConvBytes
import Derived.Laws.Slices
import Derived.WalkKit
import Derived.KernelRfl
import Derived.RowKit3
import Derived.Deep.LoopGhost
import Derived.Deep.QuietTactic
import Derived.BigQuiet
import Derived.WideLaws
import Derived.Deep.DeepCutAuto
import Derived.Deep.CutBlock
import Derived.Deep.RegionHeld3
import Derived.Laws.Rows
import Derived.Lib.AppendStr
import Derived.ArgAppend
import Derived.Laws.IdiomCopy
import Derived.OrdersHeld
import Derived.Laws.BitsLemmas
import Derived.RowKit
import Derived.Test.YtngebimnahojlaaWWords
import Derived.Test.YtngebimnahojlaaWLast
import Derived.Test.YtngebimnahojlaaWTab
import Derived.Test.YtngebimnahojlaaWFour
import Derived.Test.YtngebimnahojlaaWQPut
import Derived.Test.YtngebimnahojlaaWApart
import Derived.Test.YtngebimnahojlaaWArr
import Derived.Test.YtngebimnahojlaaWZeros
import Derived.Test.YtngebimnahojlaaWFoot
import Derived.Test.YtngebimnahojlaaWKept
import Derived.Test.YtngebimnahojlaaWShare
import Derived.Test.YtngebimnahojlaaWN
import Derived.Test.YtngebimnahojlaaWFootNe
import Derived.Test.YtngebimnahojlaaWAt
import Derived.Test.YtngebimnahojlaaWEqStruct
import Derived.Test.YtngebimnahojlaaWRepsOne
import Derived.Test.YtngebimnahojlaaWInv
import Derived.Test.YtngebimnahojlaaWInvWords
import Derived.Test.YtngebimnahojlaaWGuard
import Derived.Test.YtngebimnahojlaaWNEv
import Derived.Test.YtngebimnahojlaaWMore
import Derived.WalkLawsBesides
import Derived.DeepKeys
import Derived.KernelRfl
namespace Go.Proofs.Ytngebimnahojlaa.Con
open Go.RowKit Go.Proofs.YtngebimnahojlaaW.PrintWords Go.Proofs.YtngebimnahojlaaW.PrintLast Go.Proofs.YtngebimnahojlaaW.PrintMore
set_option linter.unusedVariables false
set_option linter.unusedSimpArgs false
abbrev tlb (h l : Nat → Int) : Value := .agg #[.int .u32 (h 0), .int .u32 (l 0), .int .u32 (h 1), .int .u32 (l 1), .int .u32 (h 2), .int .u32 (l 2), .int .u32 (h 3), .int .u32 (l 3), .int .u32 (h 4), .int .u32 (l 4), .int .u32 (h 5), .int .u32 (l 5), .int .u32 (h 6), .int .u32 (l 6), .int .u32 (h 7), .int .u32 (l 7)]
theorem wf32 {x : Int} (h0 : 0 ≤ x) (h1 : x < 4294967296) : (Lit.int .u32 x).wf = true := WalkArith.wf_u32 (by omega)
theorem kl22 (d : Nat) {x : Int} (h0 : 0 ≤ x) (h1 : x < 4294967296) : Try.prog.keyLits (d + 1) 22 [.int .u32 x] = some [.int .u32 x] := by
  simp [Program.keyLits, Try.underlying22, wf32 h0 h1]
theorem cells24 : Try.prog.cellsOf 24 = 2 := by kernel_rfl
theorem cells22 : Try.prog.cellsOf 22 = 1 := by kernel_rfl
theorem cells26 : Try.prog.cellsOf 26 = 16 := by kernel_rfl
theorem kl24 (d : Nat) {x y : Int} (h0 : 0 ≤ x) (h1 : x < 4294967296) (h2 : 0 ≤ y) (h3 : y < 4294967296) : Try.prog.keyLits (d + 2) 24 [.int .u32 x, .int .u32 y] = some [.int .u32 x, .int .u32 y] := by
  unfold Program.keyLits
  simp [Try.underlying24, cells24, cells22, kl22 d h0 h1, kl22 d h2 h3]
theorem kl26 {h l : Nat → Int} (hh : ∀ i, 0 ≤ h i ∧ h i < 4294967296) (hl : ∀ i, 0 ≤ l i ∧ l i < 4294967296) : Try.prog.keyLits 3 26 (tlb h l).cells.toList = some [.int .u32 (h 0), .int .u32 (l 0), .int .u32 (h 1), .int .u32 (l 1), .int .u32 (h 2), .int .u32 (l 2), .int .u32 (h 3), .int .u32 (l 3), .int .u32 (h 4), .int .u32 (l 4), .int .u32 (h 5), .int .u32 (l 5), .int .u32 (h 6), .int .u32 (l 6), .int .u32 (h 7), .int .u32 (l 7)] := by
  have k : ∀ i, Try.prog.keyLits 2 24 [.int .u32 (h i), .int .u32 (l i)] = some [.int .u32 (h i), .int .u32 (l i)] := fun i => kl24 0 (hh i).1 (hh i).2 (hl i).1 (hl i).2
  unfold Program.keyLits
  simp [Try.underlying26, cells24, cells26, Value.cells, List.range_succ, k]
theorem formed26 (h l : Nat → Int) : (tlb h l).formed Try.prog 26 = true := by simp [Value.formed, Try.underlying26, cells26]
theorem eq26 {h l h' l' : Nat → Int} (hh : ∀ i, 0 ≤ h i ∧ h i < 4294967296) (hl : ∀ i, 0 ≤ l i ∧ l i < 4294967296) (hh' : ∀ i, 0 ≤ h' i ∧ h' i < 4294967296) (hl' : ∀ i, 0 ≤ l' i ∧ l' i < 4294967296) (w : World) :
    ∃ r : Bool, (binOp .eql 26 (tlb h l) (tlb h' l')).run Try.prog w = .ok (.bool r) w ∧ (binOp .neq 26 (tlb h l) (tlb h' l')).run Try.prog w = .ok (.bool (!r)) w ∧ (r = true ↔ ∀ i, i < 8 → h i = h' i ∧ l i = l' i) := by
  obtain ⟨r, hr, hi⟩ := run_equalIn_deep (P := Try.prog) 9990 10 26 (by kernel_rfl) w 3 3 (tlb h l) (tlb h' l') _ _ (formed26 _ _) (formed26 _ _) (kl26 hh hl) (kl26 hh' hl')
  refine ⟨r, by rw [run_eql_struct, hr]; rfl, by rw [run_neq_struct, hr]; rfl, hi.trans ?_⟩
  simp only [List.cons.injEq, Lit.int.injEq, true_and, and_true]
  constructor
  · rintro ⟨a0, b0, a1, b1, a2, b2, a3, b3, a4, b4, a5, b5, a6, b6, a7, b7⟩ i hi
    match i, hi with
    | 0, _ => exact ⟨a0, b0⟩
    | 1, _ => exact ⟨a1, b1⟩
    | 2, _ => exact ⟨a2, b2⟩
    | 3, _ => exact ⟨a3, b3⟩
    | 4, _ => exact ⟨a4, b4⟩
    | 5, _ => exact ⟨a5, b5⟩
    | 6, _ => exact ⟨a6, b6⟩
    | 7, _ => exact ⟨a7, b7⟩
  · intro q
    have q0 := q 0 (by omega); have q1 := q 1 (by omega); have q2 := q 2 (by omega); have q3 := q 3 (by omega)
    have q4 := q 4 (by omega); have q5 := q 5 (by omega); have q6 := q 6 (by omega); have q7 := q 7 (by omega)
    exact ⟨q0.1, q0.2, q1.1, q1.2, q2.1, q2.2, q3.1, q3.2, q4.1, q4.2, q5.1, q5.2, q6.1, q6.2, q7.1, q7.2⟩
theorem eq24 {x y x' y' : Int} (h0 : 0 ≤ x ∧ x < 4294967296) (h1 : 0 ≤ y ∧ y < 4294967296) (h2 : 0 ≤ x' ∧ x' < 4294967296) (h3 : 0 ≤ y' ∧ y' < 4294967296) (w : World) :
    ∃ r : Bool, (binOp .eql 24 (.agg #[.int .u32 x, .int .u32 y]) (.agg #[.int .u32 x', .int .u32 y'])).run Try.prog w = .ok (.bool r) w ∧ (binOp .neq 24 (.agg #[.int .u32 x, .int .u32 y]) (.agg #[.int .u32 x', .int .u32 y'])).run Try.prog w = .ok (.bool (!r)) w ∧ (r = true ↔ x = x' ∧ y = y') := by
  obtain ⟨r, hr, hi⟩ := run_equalIn_deep (P := Try.prog) 9990 10 24 (by kernel_rfl) w 2 2 (.agg #[.int .u32 x, .int .u32 y]) (.agg #[.int .u32 x', .int .u32 y']) _ _ (by simp [Value.formed, Try.underlying24, cells24]) (by simp [Value.formed, Try.underlying24, cells24]) (by simpa [Value.cells] using kl24 0 h0.1 h0.2 h1.1 h1.2) (by simpa [Value.cells] using kl24 0 h2.1 h2.2 h3.1 h3.2)
  refine ⟨r, by rw [run_eql_struct, hr]; rfl, by rw [run_neq_struct, hr]; rfl, hi.trans ?_⟩
  simp only [List.cons.injEq, Lit.int.injEq, true_and, and_true]
/-- The cells of a slot, whatever its number. -/
theorem cell_h (h l : Nat → Int) (k : Nat) (hk : k < 8) : ([.int .u32 (h 0), .int .u32 (l 0), .int .u32 (h 1), .int .u32 (l 1), .int .u32 (h 2), .int .u32 (l 2), .int .u32 (h 3), .int .u32 (l 3), .int .u32 (h 4), .int .u32 (l 4), .int .u32 (h 5), .int .u32 (l 5), .int .u32 (h 6), .int .u32 (l 6), .int .u32 (h 7), .int .u32 (l 7)] : List Value)[k * 2]? = some (.int .u32 (h k)) := by
  match k, hk with
  | 0, _ => rfl
  | 1, _ => rfl
  | 2, _ => rfl
  | 3, _ => rfl
  | 4, _ => rfl
  | 5, _ => rfl
  | 6, _ => rfl
  | 7, _ => rfl
theorem cell_l (h l : Nat → Int) (k : Nat) (hk : k < 8) : ([.int .u32 (h 0), .int .u32 (l 0), .int .u32 (h 1), .int .u32 (l 1), .int .u32 (h 2), .int .u32 (l 2), .int .u32 (h 3), .int .u32 (l 3), .int .u32 (h 4), .int .u32 (l 4), .int .u32 (h 5), .int .u32 (l 5), .int .u32 (h 6), .int .u32 (l 6), .int .u32 (h 7), .int .u32 (l 7)] : List Value)[k * 2 + 1]? = some (.int .u32 (l k)) := by
  match k, hk with
  | 0, _ => rfl
  | 1, _ => rfl
  | 2, _ => rfl
  | 3, _ => rfl
  | 4, _ => rfl
  | 5, _ => rfl
  | 6, _ => rfl
  | 7, _ => rfl
theorem index_0 (h l : Nat → Int) (w : World) : (Instr.index 26 (tlb h l) (.int .i64 0)).run Try.prog w = .ok (.agg #[.int .u32 (h 0), .int .u32 (l 0)]) w := by kernel_rfl
theorem index_1 (h l : Nat → Int) (w : World) : (Instr.index 26 (tlb h l) (.int .i64 1)).run Try.prog w = .ok (.agg #[.int .u32 (h 1), .int .u32 (l 1)]) w := by kernel_rfl
theorem index_2 (h l : Nat → Int) (w : World) : (Instr.index 26 (tlb h l) (.int .i64 2)).run Try.prog w = .ok (.agg #[.int .u32 (h 2), .int .u32 (l 2)]) w := by kernel_rfl
theorem index_3 (h l : Nat → Int) (w : World) : (Instr.index 26 (tlb h l) (.int .i64 3)).run Try.prog w = .ok (.agg #[.int .u32 (h 3), .int .u32 (l 3)]) w := by kernel_rfl
theorem index_4 (h l : Nat → Int) (w : World) : (Instr.index 26 (tlb h l) (.int .i64 4)).run Try.prog w = .ok (.agg #[.int .u32 (h 4), .int .u32 (l 4)]) w := by kernel_rfl
theorem index_5 (h l : Nat → Int) (w : World) : (Instr.index 26 (tlb h l) (.int .i64 5)).run Try.prog w = .ok (.agg #[.int .u32 (h 5), .int .u32 (l 5)]) w := by kernel_rfl
theorem index_6 (h l : Nat → Int) (w : World) : (Instr.index 26 (tlb h l) (.int .i64 6)).run Try.prog w = .ok (.agg #[.int .u32 (h 6), .int .u32 (l 6)]) w := by kernel_rfl
theorem index_7 (h l : Nat → Int) (w : World) : (Instr.index 26 (tlb h l) (.int .i64 7)).run Try.prog w = .ok (.agg #[.int .u32 (h 7), .int .u32 (l 7)]) w := by kernel_rfl
theorem index_at (h l : Nat → Int) (k : Nat) (hk : k < 8) (w : World) : (Instr.index 26 (tlb h l) (.int .i64 k)).run Try.prog w = .ok (.agg #[.int .u32 (h k), .int .u32 (l k)]) w := by
  have hk' : k = 0 ∨ k = 1 ∨ k = 2 ∨ k = 3 ∨ k = 4 ∨ k = 5 ∨ k = 6 ∨ k = 7 := by omega
  rcases hk' with rfl | rfl | rfl | rfl | rfl | rfl | rfl | rfl
  · exact index_0 h l w
  · exact index_1 h l w
  · exact index_2 h l w
  · exact index_3 h l w
  · exact index_4 h l w
  · exact index_5 h l w
  · exact index_6 h l w
  · exact index_7 h l w
end Go.Proofs.Ytngebimnahojlaa.Con
