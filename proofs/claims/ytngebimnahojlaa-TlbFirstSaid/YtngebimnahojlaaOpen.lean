/- A buffer and an entry as arguments: each word is below 2^32. No conditions. -/
import Derived.Test.YtngebimnahojlaaPair
import Derived.ProofKit
import Derived.OpenShut
import Derived.Deep.Fields
namespace Go.Proofs.Ytngebimnahojlaa.Open
open Go.ChangeShapes Go.WideShapes Go.RowKit Go.Deep Go.Proofs.Ytngebimnahojlaa.Con Go.Proofs.Ytngebimnahojlaa.Num Go.Proofs.Ytngebimnahojlaa.Pair
set_option linter.unusedVariables false
set_option linter.unusedSimpArgs false
section
variable {H : Type} {enc : TypeId × Value → H} {w : World} {base : Nat} {spare : Nat → Bool} {held : Bool}
theorem u32_wd {x : Int} (h : (Lit.int .u32 x).wf = true) : Wd x := by
  have h1 : 0 ≤ x ∧ x ≤ 4294967295 := by simpa [Lit.wf, IntKind.min, IntKind.max, IntKind.signed, IntKind.bits] using h
  exact ⟨h1.1, by omega⟩
theorem okWide_array {P : Program} {r : Reach} {b0 : Nat} {t e : TypeId} {n : Nat} {v : Value} (ht : P.underlying t = some (.array n e)) (h : Value.okWide P w r b0 t v) : ∃ cs, v = .agg cs ∧ cs.size = P.cellsOf t := by
  simp only [Value.okWide, ht] at h
  obtain ⟨cs, h1, h2, _⟩ := h
  exact ⟨cs, h1, h2⟩
/-- An entry's two cells. -/
theorem entry_cells {fuel : Nat} {cs : List Value} {x : DataW H × List MemPlace} (h : DataW.trod enc Try.prog w base spare held fuel 24 cs = some x) : ∃ a b : Int, cs = [.int .u32 a, .int .u32 b] ∧ Wd a ∧ Wd b := by
  obtain ⟨xs, n, _, hx, hlen, hxl, hf⟩ := DataW.trod_struct Try.underlying24 h
  have hl2 : cs.length = 2 := hlen.trans cells24
  match cs, hl2 with
  | [c0, c1], _ =>
    have f0 := hf 0 _ rfl
    have f1 := hf 1 _ rfl
    have e0 : DataW.trod enc Try.prog w base spare held n 22 [c0] = xs[0]? := by simpa [cells22] using f0
    have e1 : DataW.trod enc Try.prog w base spare held n 22 [c1] = xs[1]? := by simpa [cells22] using f1
    have l2 : xs.length = 2 := hxl
    rw [List.getElem?_eq_getElem (by omega)] at e0 e1
    obtain ⟨a, g0, _, w0⟩ := DataW.trod_int Try.underlying22 e0
    obtain ⟨b, g1, _, w1⟩ := DataW.trod_int Try.underlying22 e1
    simp only [List.cons.injEq, and_true] at g0 g1
    subst g0 g1
    exact ⟨a, b, rfl, u32_wd w0, u32_wd w1⟩
theorem open_entry {r : Reach} {b0 : Nat} {v : Value} {d : DataW H} {p : List MemPlace} (hv : Value.okWide Try.prog w r b0 24 v) (h : DataW.Trod enc Try.prog w base spare held 24 v d p) : ∃ a b : Int, v = .agg #[.int .u32 a, .int .u32 b] ∧ Wd a ∧ Wd b := by
  obtain ⟨cs, rfl, hsz⟩ := okWide_struct Try.underlying24 hv
  obtain ⟨fuel, hf⟩ := h
  have hf2 : DataW.trod enc Try.prog w base spare held fuel 24 cs.toList = some (d, p) := by simpa [Value.cells] using hf
  obtain ⟨a, b, hc, ha, hb⟩ := entry_cells hf2
  refine ⟨a, b, ?_, ha, hb⟩
  congr 1
  rw [← Array.toList_inj, hc]
/-- A buffer's cells. -/
theorem tlb_cells {fuel : Nat} {cs : List Value} {x : DataW H × List MemPlace} (h : DataW.trod enc Try.prog w base spare held fuel 26 cs = some x) : ∃ h l : Nat → Int, cs = cells16 h l ∧ Ws h ∧ Ws l := by
  obtain ⟨xs, m, _, hx, hlen, hxl, hf⟩ := DataW.trod_array Try.underlying26 h
  have hl16 : cs.length = 16 := hlen.trans cells26
  have hall : ∀ i : Nat, ∃ (a b : Int), Wd a ∧ Wd b ∧ (i < 8 → (cs.drop (i * 2)).take 2 = [.int .u32 a, .int .u32 b]) := by
    intro i
    by_cases hi : i < 8
    · have q := hf i hi
      rw [cells24, List.getElem?_eq_getElem (by omega)] at q
      obtain ⟨a, b, hc, ha, hb⟩ := entry_cells q
      exact ⟨a, b, ha, hb, fun _ => hc⟩
    · exact ⟨0, 0, wd _ (by omega), wd _ (by omega), fun x => absurd x hi⟩
  obtain ⟨hF, hhF⟩ := Classical.axiomOfChoice hall
  obtain ⟨lF, hlF⟩ := Classical.axiomOfChoice hhF
  refine ⟨hF, lF, ?_, fun i => (hlF i).1, fun i => (hlF i).2.1⟩
  match cs, hl16 with
  | [c0, c1, c2, c3, c4, c5, c6, c7, c8, c9, c10, c11, c12, c13, c14, c15], _ =>
    have q0 := (hlF 0).2.2 (by omega)
    have q1 := (hlF 1).2.2 (by omega)
    have q2 := (hlF 2).2.2 (by omega)
    have q3 := (hlF 3).2.2 (by omega)
    have q4 := (hlF 4).2.2 (by omega)
    have q5 := (hlF 5).2.2 (by omega)
    have q6 := (hlF 6).2.2 (by omega)
    have q7 := (hlF 7).2.2 (by omega)
    simp at q0 q1 q2 q3 q4 q5 q6 q7
    simp [cells16, q0, q1, q2, q3, q4, q5, q6, q7]
theorem open_tlb {r : Reach} {b0 : Nat} {v : Value} {d : DataW H} {p : List MemPlace} (hv : Value.okWide Try.prog w r b0 26 v) (h : DataW.Trod enc Try.prog w base spare held 26 v d p) : ∃ h l : Nat → Int, v = tlb h l ∧ Ws h ∧ Ws l := by
  obtain ⟨cs, rfl, hsz⟩ := okWide_array Try.underlying26 hv
  obtain ⟨fuel, hf⟩ := h
  have hf2 : DataW.trod enc Try.prog w base spare held fuel 26 cs.toList = some (d, p) := by simpa [Value.cells] using hf
  obtain ⟨h, l, hc, hh, hl⟩ := tlb_cells hf2
  refine ⟨h, l, ?_, hh, hl⟩
  congr 1
  rw [← Array.toList_inj, hc]
end
end Go.Proofs.Ytngebimnahojlaa.Open
