/- The boxes of a call's own variables, behind calls that make memory of their own: what they hold, that they may be written, and that old memory is as it was. No conditions. -/
import Derived.Test.YtngebimnahojlaaKit
namespace Go.Proofs.Ytngebimnahojlaa.Frm
open Go.RowKit Go.Proofs.YtngebimnahojlaaW.PrintWords Go.Proofs.YtngebimnahojlaaW.PrintLast Go.Proofs.YtngebimnahojlaaW.PrintMore
set_option linter.unusedVariables false
/-- Block b holds these values, and may be written. -/
structure Box (W : World) (b : Nat) (vs : List Value) : Prop where
  lt : b < W.heap.size
  cell : ∀ (i : Nat) (v : Value), vs[i]? = some v → W.cell? ⟨b, i, none⟩ = some v
  free : ∀ i, i < vs.length → W.frozen? ⟨b, i, none⟩ = false
/-- The boxes bs, all others of before as they were. -/
structure Owns (w W : World) (bs : List (Nat × List Value)) : Prop where
  below : Below w.heap.size w W
  boxes : ∀ p, p ∈ bs → w.heap.size ≤ p.1 ∧ Box W p.1 p.2
theorem Box.below {W W' : World} {b : Nat} {vs : List Value} (h : Box W b vs) (hb : Below W.heap.size W W') : Box W' b vs :=
  ⟨Nat.lt_of_lt_of_le h.lt hb.size, fun i v e => (hb.cell (p := ⟨b, i, none⟩) h.lt).trans (h.cell i v e), fun i e => (hb.frozen (p := ⟨b, i, none⟩) h.lt).trans (h.free i e)⟩
theorem Box.new (W : World) (vs : List Value) (t : TypeId) : Box (W.alloc (.cells vs.toArray t)) W.heap.size vs :=
  ⟨by simp, fun i v e => by rw [World.cell?_alloc_at _ _ _ _ rfl]; simpa using e, fun i _ => World.frozen?_alloc_at _ _ _ _ rfl⟩
theorem Box.alloc {W : World} {b : Nat} {vs : List Value} (h : Box W b vs) (o : Obj) : Box (W.alloc o) b vs :=
  h.below ((Below.refl _ _).alloc (Nat.le_refl _) _)
theorem Box.drew {W : World} {b : Nat} {vs : List Value} (h : Box W b vs) : Box W.drew b vs := ⟨h.lt, h.cell, h.free⟩
theorem Box.set {W : World} {b : Nat} {vs : List Value} (h : Box W b vs) (i : Nat) (v : Value) (hi : i < vs.length) : Box (W.setCell ⟨b, i, none⟩ v) b (vs.set i v) := by
  refine ⟨by rw [World.size_setCell]; exact h.lt, fun j u e => ?_, fun j e => by rw [World.frozen?_setCell]; exact h.free j (by simpa using e)⟩
  by_cases c : j = i
  · subst c
    rw [List.getElem?_set_self hi] at e
    injection e with e
    subst e
    exact World.cell?_setCell_same _ _ _ (h.cell j _ (List.getElem?_eq_getElem hi))
  · rw [List.getElem?_set_ne (fun x => c x.symm)] at e
    rw [World.cell?_setCell_other (h := by intro he; injection he with _ h2; exact c h2.symm)]
    exact h.cell j u e
theorem Box.set_other {W : World} {b b' : Nat} {vs : List Value} (h : Box W b vs) (i : Nat) (v : Value) (hb : b' ≠ b) : Box (W.setCell ⟨b', i, none⟩ v) b vs :=
  ⟨by rw [World.size_setCell]; exact h.lt, fun j u e => by rw [World.cell?_setCell_other (h := by intro he; injection he with h1 _; exact hb h1)]; exact h.cell j u e, fun j e => by rw [World.frozen?_setCell]; exact h.free j e⟩
theorem Owns.start (w : World) : Owns w w [] := ⟨Below.refl _ _, fun p hp => by cases hp⟩
theorem Owns.call {w W W' : World} {bs : List (Nat × List Value)} (h : Owns w W bs) (hb : Below W.heap.size W W') : Owns w W' bs :=
  ⟨h.below.trans (hb.mono h.below.size), fun p hp => ⟨(h.boxes p hp).1, (h.boxes p hp).2.below hb⟩⟩
theorem Owns.call' {w W W' : World} {bs : List (Nat × List Value)} (hb : Below W.heap.size W W') (h : Owns w W bs) : Owns w W' bs := h.call hb
theorem Owns.alloc {w W : World} {bs : List (Nat × List Value)} (h : Owns w W bs) (o : Obj) : Owns w (W.alloc o) bs :=
  h.call ((Below.refl _ _).alloc (Nat.le_refl _) _)
theorem Owns.new {w W : World} {bs : List (Nat × List Value)} (h : Owns w W bs) (vs : List Value) (t : TypeId) : Owns w (W.alloc (.cells vs.toArray t)) ((W.heap.size, vs) :: bs) :=
  ⟨(h.alloc _).below, fun p hp => by
    rcases List.mem_cons.1 hp with e | e
    · subst e; exact ⟨h.below.size, Box.new W vs t⟩
    · exact (h.alloc _).boxes p e⟩
theorem Owns.drew {w W : World} {bs : List (Nat × List Value)} (h : Owns w W bs) : Owns w W.drew bs :=
  ⟨h.below.drew, fun p hp => ⟨(h.boxes p hp).1, (h.boxes p hp).2.drew⟩⟩
theorem Owns.drewN {w W : World} {bs : List (Nat × List Value)} (h : Owns w W bs) (n : Nat) : Owns w (W.drewN n) bs :=
  ⟨⟨h.below.os, h.below.tape, h.below.output, h.below.size, h.below.block⟩, fun p hp => ⟨(h.boxes p hp).1, ⟨(h.boxes p hp).2.lt, (h.boxes p hp).2.cell, (h.boxes p hp).2.free⟩⟩⟩
theorem Owns.sub {w W : World} {bs cs : List (Nat × List Value)} (h : Owns w W bs) (hs : ∀ p, p ∈ cs → p ∈ bs) : Owns w W cs :=
  ⟨h.below, fun p hp => h.boxes p (hs p hp)⟩
theorem Owns.box' {w W : World} {bs : List (Nat × List Value)} (h : Owns w W bs) (k : Nat) (b : Nat) (vs : List Value) (hk : bs[k]? = some (b, vs)) : Box W b vs :=
  (h.boxes (b, vs) (List.mem_of_getElem? hk)).2
theorem Owns.set {w W : World} {bs : List (Nat × List Value)} (h : Owns w W bs) (k b : Nat) (vs : List Value) (hk : bs[k]? = some (b, vs)) (i : Nat) (v : Value) (hi : i < vs.length) (hd : ∀ p, p ∈ bs.eraseIdx k → p.1 ≠ b) :
    Owns w (W.setCell ⟨b, i, none⟩ v) (bs.set k (b, vs.set i v)) := by
  have hm := h.boxes (b, vs) (List.mem_of_getElem? hk)
  refine ⟨h.below.setCell hm.1 _, fun p hp => ?_⟩
  obtain ⟨j, hj⟩ := List.getElem?_of_mem hp
  by_cases c : j = k
  · subst c
    have hl : j < bs.length := (List.getElem?_eq_some_iff.1 hk).1
    rw [List.getElem?_set_self hl] at hj
    injection hj with hj
    subst hj
    exact ⟨hm.1, hm.2.set i v hi⟩
  · rw [List.getElem?_set_ne (fun x => c x.symm)] at hj
    have hb := h.boxes p (List.mem_of_getElem? hj)
    have hne : p.1 ≠ b := by
      refine hd p ?_
      rw [List.mem_eraseIdx_iff_getElem?]
      exact ⟨j, c, hj⟩
    exact ⟨hb.1, hb.2.set_other i v (fun x => hne x.symm)⟩
theorem Owns.lt {w W : World} {bs : List (Nat × List Value)} (h : Owns w W bs) (k b : Nat) (vs : List Value) (hk : bs[k]? = some (b, vs)) : b < W.heap.size := (h.box' k b vs hk).lt
/-- A box, by its place in the list. -/
theorem Owns.box {w W : World} {bs : List (Nat × List Value)} (h : Owns w W bs) (k : Nat) (b : Nat) (vs : List Value) (hk : bs[k]? = some (b, vs)) : Box W b vs :=
  (h.boxes (b, vs) (List.mem_of_getElem? hk)).2
theorem Owns.cell {w W : World} {bs : List (Nat × List Value)} (h : Owns w W bs) (k b : Nat) (vs : List Value) (hk : bs[k]? = some (b, vs)) (i : Nat) (v : Value) (hi : vs[i]? = some v) : W.cell? ⟨b, i, none⟩ = some v :=
  (h.box k b vs hk).cell i v hi
theorem Owns.nine {w W : World} {bs : List (Nat × List Value)} (h : Owns w W bs) (k b : Nat) (v0 v1 v2 v3 v4 v5 v6 v7 v8 : Value) (hk : bs[k]? = some (b, [v0, v1, v2, v3, v4, v5, v6, v7, v8])) :
    W.cell? ⟨b, 0, none⟩ = some v0 ∧ W.cell? ⟨b, 1, none⟩ = some v1 ∧ W.cell? ⟨b, 2, none⟩ = some v2 ∧ W.cell? ⟨b, 3, none⟩ = some v3 ∧ W.cell? ⟨b, 4, none⟩ = some v4 ∧ W.cell? ⟨b, 5, none⟩ = some v5 ∧ W.cell? ⟨b, 6, none⟩ = some v6 ∧ W.cell? ⟨b, 7, none⟩ = some v7 ∧ W.cell? ⟨b, 8, none⟩ = some v8 := by
  have g := (h.box k b _ hk).cell
  exact ⟨g 0 _ rfl, g 1 _ rfl, g 2 _ rfl, g 3 _ rfl, g 4 _ rfl, g 5 _ rfl, g 6 _ rfl, g 7 _ rfl, g 8 _ rfl⟩
theorem Owns.four {w W : World} {bs : List (Nat × List Value)} (h : Owns w W bs) (k b : Nat) (v0 v1 v2 v3 : Value) (hk : bs[k]? = some (b, [v0, v1, v2, v3])) :
    W.cell? ⟨b, 0, none⟩ = some v0 ∧ W.cell? ⟨b, 1, none⟩ = some v1 ∧ W.cell? ⟨b, 2, none⟩ = some v2 ∧ W.cell? ⟨b, 3, none⟩ = some v3 := by
  have g := (h.box k b _ hk).cell
  exact ⟨g 0 _ rfl, g 1 _ rfl, g 2 _ rfl, g 3 _ rfl⟩
theorem Owns.set9 {w W : World} {b : Nat} {bs : List (Nat × List Value)} {u0 u1 u2 u3 u4 u5 u6 u7 u8 : Value} (v0 v1 v2 v3 v4 v5 v6 v7 v8 : Value) (h : Owns w W ((b, [u0, u1, u2, u3, u4, u5, u6, u7, u8]) :: bs)) (hd : ∀ p, p ∈ bs → p.1 ≠ b) : Owns w (((((((((W.setCell ⟨b, 0, none⟩ v0).setCell ⟨b, 1, none⟩ v1).setCell ⟨b, 2, none⟩ v2).setCell ⟨b, 3, none⟩ v3).setCell ⟨b, 4, none⟩ v4).setCell ⟨b, 5, none⟩ v5).setCell ⟨b, 6, none⟩ v6).setCell ⟨b, 7, none⟩ v7).setCell ⟨b, 8, none⟩ v8) ((b, [v0, v1, v2, v3, v4, v5, v6, v7, v8]) :: bs) :=
  ((((((((((((((((((h).set 0 b _ rfl 0 v0 (by simp) hd)).set 0 b _ rfl 1 v1 (by simp) hd)).set 0 b _ rfl 2 v2 (by simp) hd)).set 0 b _ rfl 3 v3 (by simp) hd)).set 0 b _ rfl 4 v4 (by simp) hd)).set 0 b _ rfl 5 v5 (by simp) hd)).set 0 b _ rfl 6 v6 (by simp) hd)).set 0 b _ rfl 7 v7 (by simp) hd)).set 0 b _ rfl 8 v8 (by simp) hd)
end Go.Proofs.Ytngebimnahojlaa.Frm
