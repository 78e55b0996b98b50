/- Boxes that hold a whole array, read and written at once, whatever their cells. No conditions. -/
import Derived.Test.YtngebimnahojlaaFrame
import Derived.Deep.MidRow
import Derived.Laws.ResultCell
namespace Go.Proofs.Ytngebimnahojlaa.Frm
open Go.RowKit
set_option linter.unusedVariables false
theorem Owns.range {w W : World} {bs : List (Nat × List Value)} (h : Owns w W bs) (k b : Nat) (vs : List Value) (hk : bs[k]? = some (b, vs)) : W.rangeAt b 0 vs :=
  fun j v hj => by rw [Nat.zero_add]; exact (h.box k b vs hk).cell j v hj
theorem Owns.there {w W : World} {bs : List (Nat × List Value)} (h : Owns w W bs) (k b : Nat) (vs : List Value) (hk : bs[k]? = some (b, vs)) (n : Nat) (hn : n = vs.length) : W.there b 0 n := by
  subst hn
  intro j hj
  rw [Nat.zero_add]
  exact ⟨by rw [(h.box k b vs hk).cell j _ (List.getElem?_eq_getElem hj)]; rfl, (h.box k b vs hk).free j hj⟩
theorem below_setCells {B b : Nat} {w : World} (hb : B ≤ b) : ∀ (us : List Value) (o : Nat) (W : World), Below B w W → Below B w (W.setCells b o us)
  | [], _, _, h => h
  | u :: us, o, W, h => below_setCells hb us (o + 1) _ (h.setCell hb u)
theorem size_setCells (b : Nat) : ∀ (us : List Value) (o : Nat) (W : World), (W.setCells b o us).heap.size = W.heap.size
  | [], _, _ => rfl
  | u :: us, o, W => by rw [World.setCells, size_setCells b us, World.size_setCell]
theorem Owns.setCells {w W : World} {bs : List (Nat × List Value)} (h : Owns w W bs) (k b : Nat) (vs : List Value) (hk : bs[k]? = some (b, vs)) (us : List Value) (hu : us.length = vs.length) (hd : ∀ p, p ∈ bs.eraseIdx k → p.1 ≠ b) :
    Owns w (W.setCells b 0 us) (bs.set k (b, us)) := by
  have hm := h.boxes (b, vs) (List.mem_of_getElem? hk)
  refine ⟨below_setCells hm.1 us 0 W h.below, fun p hp => ?_⟩
  obtain ⟨j, hj⟩ := List.getElem?_of_mem hp
  by_cases c : j = k
  · subst c
    have hl : j < bs.length := (List.getElem?_eq_some_iff.1 hk).1
    rw [List.getElem?_set_self hl] at hj
    injection hj with hj
    subst hj
    refine ⟨hm.1, ⟨by rw [size_setCells]; exact hm.2.lt, fun i v e => ?_, fun i e => ?_⟩⟩
    · have hi : i < us.length := (List.getElem?_eq_some_iff.1 e).1
      have q := World.cell?_setCells_in b us 0 W (fun m hm => ((h.there j b vs hk _ rfl) m (by omega)).1) i hi
      rw [Nat.zero_add] at q
      rw [q, ← e, List.getElem?_eq_getElem hi]
    · rw [World.frozen?_setCells]
      exact hm.2.free i (by rw [← hu]; exact e)
  · rw [List.getElem?_set_ne (fun x => c x.symm)] at hj
    have hb := h.boxes p (List.mem_of_getElem? hj)
    have hne : p.1 ≠ b := by
      refine hd p ?_
      rw [List.mem_eraseIdx_iff_getElem?]
      exact ⟨j, c, hj⟩
    refine ⟨hb.1, ⟨by rw [size_setCells]; exact hb.2.lt, fun i v e => ?_, fun i e => by rw [World.frozen?_setCells]; exact hb.2.free i e⟩⟩
    rw [World.cell?_setCells_out b us 0 W _ (fun e1 _ => absurd e1 hne)]
    exact hb.2.cell i v e
theorem Owns.keepR {w W W' : World} {b : Nat} {xs : List Value} (hb : Below W.heap.size W W') (h : Owns w W [(b, xs)]) : Owns w W' [(b, xs)] ∧ W'.rangeAt b 0 xs := ⟨h.call hb, (h.call hb).range 0 _ _ rfl⟩
/-- A whole array is read by a guarded operation whose guard holds. -/
theorem wpList_load_want {P : Program} {ops : Array Oper} {rest : List Oper} {op : Oper} {a : Act} {w : World} {Q : Exit → Act → World → Prop} (hw : Region.wanted op (yielded ops a.tmps) = true) (ty : TypeId) (x : Operand) (ho : op.op = .load ty x)
    (b o : Nat) (hx : a.eval x = .pointer (some ⟨b, o, none⟩)) (cs : List Value) (d : TypeDesc) (hc : w.rangeAt b o cs)
    (hu : P.underlying ty = some d) (hd : d.isRow = true) (hi : (P.info? ty).map (·.size) = some cs.length)
    (h : wpList P ops Q rest (a.put op.dst (.agg cs.toArray)) w) : wpList P ops Q (op :: rest) a w :=
  wpList_step fun K hK => by rw [if_pos hw]; exact wp_load_mid ty x ho b o hx cs d hc hu hd hi (hK _ _ h)
end Go.Proofs.Ytngebimnahojlaa.Frm
