/- The box that holds the nine registers, behind calls that make memory of their own. No conditions. -/
import Derived.Test.YticibpginpkbfaaConA
namespace Go.Proofs.Yticibpginpkbfaa.Held
open Go.RowKit Go.Proofs.YticibpginpkbfaaW.PrintWords Go.Proofs.YticibpginpkbfaaW.PrintLast Go.Proofs.YticibpginpkbfaaW.PrintMore
set_option linter.unusedVariables false
/-- The nine cells of a box as a conjunction that the walk's simp can use. -/
theorem keep9 {B : Nat} {w W W' : World} {b : Nat} {v0 v1 v2 v3 v4 v5 v6 v7 v8 : Value} (hb : Below W.heap.size W W')
    (h : (W.cell? ⟨b, 0, none⟩ = some v0 ∧ W.cell? ⟨b, 1, none⟩ = some v1 ∧ W.cell? ⟨b, 2, none⟩ = some v2 ∧ W.cell? ⟨b, 3, none⟩ = some v3 ∧ W.cell? ⟨b, 4, none⟩ = some v4 ∧ W.cell? ⟨b, 5, none⟩ = some v5 ∧ W.cell? ⟨b, 6, none⟩ = some v6 ∧ W.cell? ⟨b, 7, none⟩ = some v7 ∧ W.cell? ⟨b, 8, none⟩ = some v8) ∧ b < W.heap.size ∧ B ≤ W.heap.size ∧ Below B w W) :
    (W'.cell? ⟨b, 0, none⟩ = some v0 ∧ W'.cell? ⟨b, 1, none⟩ = some v1 ∧ W'.cell? ⟨b, 2, none⟩ = some v2 ∧ W'.cell? ⟨b, 3, none⟩ = some v3 ∧ W'.cell? ⟨b, 4, none⟩ = some v4 ∧ W'.cell? ⟨b, 5, none⟩ = some v5 ∧ W'.cell? ⟨b, 6, none⟩ = some v6 ∧ W'.cell? ⟨b, 7, none⟩ = some v7 ∧ W'.cell? ⟨b, 8, none⟩ = some v8) ∧ b < W'.heap.size ∧ B ≤ W'.heap.size ∧ Below B w W' := by
  obtain ⟨⟨h0, h1, h2, h3, h4, h5, h6, h7, h8⟩, hl, hB, hw⟩ := h
  have hs := hb.size
  have g : ∀ o, W'.cell? ⟨b, o, none⟩ = W.cell? ⟨b, o, none⟩ := fun o => hb.cell (p := ⟨b, o, none⟩) hl
  refine ⟨⟨?_, ?_, ?_, ?_, ?_, ?_, ?_, ?_, ?_⟩, by omega, by omega, hw.trans (hb.mono hB)⟩ <;> (rw [g]; assumption)
theorem start9 (w : World) (v0 v1 v2 v3 v4 v5 v6 v7 v8 : Value) (t : TypeId) :
    ((w.alloc (.cells #[v0, v1, v2, v3, v4, v5, v6, v7, v8] t)).cell? ⟨w.heap.size, 0, none⟩ = some v0 ∧ (w.alloc (.cells #[v0, v1, v2, v3, v4, v5, v6, v7, v8] t)).cell? ⟨w.heap.size, 1, none⟩ = some v1 ∧ (w.alloc (.cells #[v0, v1, v2, v3, v4, v5, v6, v7, v8] t)).cell? ⟨w.heap.size, 2, none⟩ = some v2 ∧ (w.alloc (.cells #[v0, v1, v2, v3, v4, v5, v6, v7, v8] t)).cell? ⟨w.heap.size, 3, none⟩ = some v3 ∧ (w.alloc (.cells #[v0, v1, v2, v3, v4, v5, v6, v7, v8] t)).cell? ⟨w.heap.size, 4, none⟩ = some v4 ∧ (w.alloc (.cells #[v0, v1, v2, v3, v4, v5, v6, v7, v8] t)).cell? ⟨w.heap.size, 5, none⟩ = some v5 ∧ (w.alloc (.cells #[v0, v1, v2, v3, v4, v5, v6, v7, v8] t)).cell? ⟨w.heap.size, 6, none⟩ = some v6 ∧ (w.alloc (.cells #[v0, v1, v2, v3, v4, v5, v6, v7, v8] t)).cell? ⟨w.heap.size, 7, none⟩ = some v7 ∧ (w.alloc (.cells #[v0, v1, v2, v3, v4, v5, v6, v7, v8] t)).cell? ⟨w.heap.size, 8, none⟩ = some v8)
    ∧ w.heap.size < (w.alloc (.cells #[v0, v1, v2, v3, v4, v5, v6, v7, v8] t)).heap.size ∧ w.heap.size ≤ (w.alloc (.cells #[v0, v1, v2, v3, v4, v5, v6, v7, v8] t)).heap.size ∧ Below w.heap.size w (w.alloc (.cells #[v0, v1, v2, v3, v4, v5, v6, v7, v8] t)) := by
  refine ⟨⟨?_, ?_, ?_, ?_, ?_, ?_, ?_, ?_, ?_⟩, by simp, by simp, (Below.refl _ _).alloc (Nat.le_refl _) _⟩ <;> (rw [World.cell?_alloc_at _ _ _ _ rfl]; rfl)
theorem drew9 {B : Nat} {w W : World} {b : Nat} {v0 v1 v2 v3 v4 v5 v6 v7 v8 : Value} 
    (h : (W.cell? ⟨b, 0, none⟩ = some v0 ∧ W.cell? ⟨b, 1, none⟩ = some v1 ∧ W.cell? ⟨b, 2, none⟩ = some v2 ∧ W.cell? ⟨b, 3, none⟩ = some v3 ∧ W.cell? ⟨b, 4, none⟩ = some v4 ∧ W.cell? ⟨b, 5, none⟩ = some v5 ∧ W.cell? ⟨b, 6, none⟩ = some v6 ∧ W.cell? ⟨b, 7, none⟩ = some v7 ∧ W.cell? ⟨b, 8, none⟩ = some v8) ∧ b < W.heap.size ∧ B ≤ W.heap.size ∧ Below B w W) :
    (W.drew.cell? ⟨b, 0, none⟩ = some v0 ∧ W.drew.cell? ⟨b, 1, none⟩ = some v1 ∧ W.drew.cell? ⟨b, 2, none⟩ = some v2 ∧ W.drew.cell? ⟨b, 3, none⟩ = some v3 ∧ W.drew.cell? ⟨b, 4, none⟩ = some v4 ∧ W.drew.cell? ⟨b, 5, none⟩ = some v5 ∧ W.drew.cell? ⟨b, 6, none⟩ = some v6 ∧ W.drew.cell? ⟨b, 7, none⟩ = some v7 ∧ W.drew.cell? ⟨b, 8, none⟩ = some v8) ∧ b < W.drew.heap.size ∧ B ≤ W.drew.heap.size ∧ Below B w W.drew :=
  ⟨h.1, h.2.1, h.2.2.1, h.2.2.2.drew⟩
theorem out9 {B : Nat} {w W : World} {P Q R : Prop} (h : P ∧ Q ∧ R ∧ Below B w W) : Below B w W := h.2.2.2
end Go.Proofs.Yticibpginpkbfaa.Held
