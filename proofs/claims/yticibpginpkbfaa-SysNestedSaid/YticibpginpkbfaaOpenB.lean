/- A slice of exceptions, as an argument: its cells. No conditions. -/
import Derived.Test.YticibpginpkbfaaOpen
import Derived.Test.YticibpginpkbfaaLawH
import Derived.Deep.Slices
namespace Go.Proofs.Yticibpginpkbfaa.Open
open Go.ChangeShapes Go.WideShapes Go.RowKit Go.Deep Go.Proofs.Yticibpginpkbfaa.Con Go.Proofs.Yticibpginpkbfaa.Pair Go.Proofs.Yticibpginpkbfaa.LawH
set_option linter.unusedVariables false
set_option linter.unusedSimpArgs false
section
variable {H : Type} {enc : TypeId × Value → H} {P : Program} {w : World} {base : Nat} {spare : Nat → Bool} {held : Bool}
theorem open_slice_fields {t e : TypeId} {fs : Array Field} {fuel : Nat} {cs : List Value} {x : DataW H × List MemPlace} (ht : P.underlying t = some (.slice e)) (he : P.underlying e = some (.struct fs))
    (hone : oneCellFields P fs = true) (hC : P.cellsOf e = fs.size) (h : DataW.trod enc P w base spare held fuel t cs = some x) :
    (cs = [.slice none 0 0] ∧ x = (.nil, [])) ∨
    ∃ (a : Addr) (len cap m : Nat), cs = [.slice (some a) len cap] ∧ len ≤ cap ∧ cap ≤ maxLen ∧ len ≤ m ∧
      ∀ i, i < m → ∃ n : Nat, ∀ (j : Nat) (f : Field), fs[j]? = some f → ∃ (v : Value) (y : DataW H × List MemPlace), w.cell? (a.add (i * fs.size + j)) = some v ∧ DataW.trod enc P w base spare held n f.type [v] = some y := by
  rcases open_slice ht h with h0 | ⟨a, len, cap, m, n, D, Pl, hcs, hb, hl, hm, hmm, hx, hi⟩
  · exact .inl h0
  · refine .inr ⟨a, len, cap, m, hcs, hl, hm, by rw [hmm]; split <;> omega, fun i him => ?_⟩
    obtain ⟨cs', hc, ht'⟩ := hi i him
    rw [hC] at hc
    obtain ⟨ys, n', hn', hy, hlen, hyl, hf⟩ := DataW.trod_struct he ht'
    obtain ⟨_, hcl, hat⟩ := World.cells?_some hc
    refine ⟨n', fun j f hj => ?_⟩
    obtain ⟨ho, hk⟩ := hone_of hone j f hj
    have hjl : j < fs.size := (Array.getElem?_eq_some_iff.1 hj).1
    have hcell := hat j hjl
    have hv : cs'[j]? = some (cs'[j]'(by omega)) := List.getElem?_eq_getElem (by omega)
    have h1 := hf j f hj
    rw [ho, hk] at h1
    have hone' : (cs'.drop j).take 1 = [cs'[j]'(by omega)] := by
      rw [List.drop_eq_getElem_cons (by omega)]
      rfl
    rw [hone'] at h1
    have hys : ys[j]? = some (ys[j]'(by omega)) := List.getElem?_eq_getElem (by omega)
    refine ⟨_, _, ?_, h1.trans hys⟩
    rw [← Go.Deep.add_add, hcell, hv]
theorem at_plain {a : Addr} {v : Value} {o : Nat} (h : w.cell? (a.add o) = some v) (hs : a.spot = none) : w.cell? ⟨a.block, a.off + o, none⟩ = some v := by
  obtain ⟨b, off, s⟩ := a
  have hs : s = none := hs
  subst hs
  rw [Go.WideShapes.add_plain] at h
  exact h
theorem spot_none {a : Addr} {v : Value} (h : w.cell? (a.add 0) = some v) : a.spot = none := by simpa [Addr.add] using World.cell?_spot h
theorem cell_lt {b o : Nat} {v : Value} (h : w.cell? ⟨b, o, none⟩ = some v) : b < w.heap.size := by
  rcases Nat.lt_or_ge b w.heap.size with h' | h'
  · exact h'
  · unfold World.cell? at h
    rw [Array.getElem?_eq_none h'] at h
    cases h
end
section
variable {H : Type} {enc : TypeId × Value → H} {w : World} {base : Nat} {spare : Nat → Bool} {held : Bool}
theorem open_excs {r : Reach} {b0 : Nat} {v : Value} {d : DataW H} {p : List MemPlace} (hv : Value.okWide Try.prog w r b0 41 v) (h : DataW.Trod enc Try.prog w base spare held 41 v d p) :
    ∃ (A : Option Addr) (len cap : Nat) (cd : Nat → Int) (rf dl : Nat → Bool) (pc : Nat → Nat), v = .slice A len cap ∧ (∀ i, pc i < 4294967296) ∧ Excs w A len cd rf dl (fun i => (pc i : Int)) := by
  obtain ⟨A, len, cap, rfl⟩ := okWide_slice Try.underlying41 hv
  obtain ⟨fuel, hf⟩ := h
  have hf2 : DataW.trod enc Try.prog w base spare held fuel 41 [.slice A len cap] = some (d, p) := by simpa [Value.cells] using hf
  rcases open_slice_fields Try.underlying41 Try.underlying30 (by kernel_rfl) (by kernel_rfl) hf2 with ⟨hcs, _⟩ | ⟨a, len', cap', m, hcs, hl, hcap, hlm, hi⟩
  · simp only [List.cons.injEq, Value.slice.injEq, and_true] at hcs
    obtain ⟨rfl, rfl, rfl⟩ := hcs
    exact ⟨none, 0, 0, fun _ => 0, fun _ => false, fun _ => false, fun _ => 0, rfl, fun _ => (by show (0 : Nat) < 4294967296; omega), by omega, fun h => absurd h (by omega)⟩
  · simp only [List.cons.injEq, Value.slice.injEq, and_true] at hcs
    obtain ⟨rfl, rfl, rfl⟩ := hcs
    unfold maxLen at hcap
    have hall : ∀ i : Nat, ∃ (c : Int) (x y : Bool) (q : Nat), q < 4294967296 ∧ (i < len → w.cell? (a.add (i * 4 + 0)) = some (.int .i64 c) ∧ w.cell? (a.add (i * 4 + 1)) = some (.bool x) ∧ w.cell? (a.add (i * 4 + 2)) = some (.bool y) ∧ w.cell? (a.add (i * 4 + 3)) = some (.int .u32 q)) := by
      intro i
      by_cases hil : i < len
      · obtain ⟨n, hn⟩ := hi i (by omega)
        obtain ⟨v0, y0, c0, t0⟩ := hn 0 _ rfl
        obtain ⟨v1, y1, c1, t1⟩ := hn 1 _ rfl
        obtain ⟨v2, y2, c2, t2⟩ := hn 2 _ rfl
        obtain ⟨v3, y3, c3, t3⟩ := hn 3 _ rfl
        obtain ⟨code, he0, _, _⟩ := DataW.trod_int Try.underlying3 t0
        obtain ⟨refill, he1, _⟩ := DataW.trod_bool Try.underlying4 t1
        obtain ⟨delay, he2, _⟩ := DataW.trod_bool Try.underlying4 t2
        obtain ⟨pc', he3, _, hw3⟩ := DataW.trod_int Try.underlying22 t3
        obtain ⟨pc, rfl, hl⟩ := u32_nat hw3
        simp only [List.cons.injEq, and_true] at he0 he1 he2 he3
        subst he0 he1 he2 he3
        exact ⟨code, refill, delay, pc, hl, fun _ => ⟨c0, c1, c2, c3⟩⟩
      · exact ⟨0, false, false, 0, by omega, fun h => absurd h hil⟩
    obtain ⟨cd, hcd⟩ := Classical.axiomOfChoice hall
    obtain ⟨rf, hrf⟩ := Classical.axiomOfChoice hcd
    obtain ⟨dl, hdl⟩ := Classical.axiomOfChoice hrf
    obtain ⟨pc, hpc⟩ := Classical.axiomOfChoice hdl
    refine ⟨some a, len, cap, cd, rf, dl, pc, rfl, fun i => (hpc i).1, by omega, fun hpos => ?_⟩
    have hs := spot_none ((hpc 0).2 hpos).1
    refine ⟨a.block, a.off, ?_, cell_lt (at_plain ((hpc 0).2 hpos).1 hs), fun i hil => ?_⟩
    · obtain ⟨b, off, s⟩ := a
      have hs : s = none := hs
      subst hs
      rfl
    · obtain ⟨g0, g1, g2, g3⟩ := (hpc i).2 hil
      exact ⟨at_plain g0 hs, at_plain g1 hs, at_plain g2 hs, at_plain g3 hs⟩
end
end Go.Proofs.Yticibpginpkbfaa.Open
