/- The nine registers and an exception, as arguments: each word is below 2^32. No conditions. -/
import Derived.Test.YticibpginpkbfaaPairA
import Derived.ProofKit
import Derived.OpenShut
import Derived.Deep.Fields
namespace Go.Proofs.Yticibpginpkbfaa.Open
open Go.ChangeShapes Go.WideShapes Go.RowKit Go.Deep Go.Proofs.Yticibpginpkbfaa.Con Go.Proofs.Yticibpginpkbfaa.Pair
set_option linter.unusedVariables false
set_option linter.unusedSimpArgs false
section
variable {H : Type} {enc : TypeId × Value → H} {w : World} {base : Nat} {spare : Nat → Bool} {held : Bool}
theorem u32_nat {x : Int} (h : (Lit.int .u32 x).wf = true) : ∃ n : Nat, x = (n : Int) ∧ n < 4294967296 := by
  have h1 : 0 ≤ x ∧ x ≤ 4294967295 := by simpa [Lit.wf, IntKind.min, IntKind.max, IntKind.signed, IntKind.bits] using h
  exact ⟨x.toNat, by omega, by omega⟩
theorem agg_cell {P : Program} {fs : Array Field} {t : TypeId} {fuel : Nat} {cs : Array Value} {x : DataW H × List MemPlace} (hs : P.underlying t = some (.struct fs)) (hone : oneCellFields P fs = true) (hC : P.cellsOf t = fs.size)
    (h : DataW.trod enc P w base spare held fuel t cs.toList = some x) (hsz : cs.size = P.cellsOf t) (i : Nat) (f : Field) (hi : fs[i]? = some f) : ∃ (n : Nat) (y : DataW H × List MemPlace) (v : Value), cs[i]? = some v ∧ DataW.trod enc P w base spare held n f.type [v] = some y := by
  obtain ⟨xs, n, _, hx, hlen, hxl, hf⟩ := DataW.trod_struct hs h
  obtain ⟨ho, hk⟩ := hone_of hone i f hi
  have hlt : i < fs.size := (Array.getElem?_eq_some_iff.1 hi).1
  have h1 := hf i f hi
  rw [ho, hk] at h1
  have hil : i < cs.toList.length := by simp; omega
  have hone' : (cs.toList.drop i).take 1 = [cs.toList[i]] := by
    rw [List.drop_eq_getElem_cons hil]; rfl
  rw [hone'] at h1
  refine ⟨n, xs[i]'(by omega), cs.toList[i], ?_, ?_⟩
  · simp
  · rw [h1]; exact List.getElem?_eq_getElem (by omega)
theorem open_cp0 {r : Reach} {b0 : Nat} {v : Value} {d : DataW H} {p : List MemPlace} (hv : Value.okWide Try.prog w r b0 24 v) (h : DataW.Trod enc Try.prog w base spare held 24 v d p) : ∃ c0 c1 c2 c3 c4 c5 c6 c7 c8 : Nat, v = regs c0 c1 c2 c3 c4 c5 c6 c7 c8 ∧ Words c0 c1 c2 c3 c4 c5 c6 c7 c8 := by
  obtain ⟨cs, rfl, hsz⟩ := okWide_struct Try.underlying24 hv
  obtain ⟨fuel, hf⟩ := h
  have hf' := hf
  have hC : Try.prog.cellsOf 24 = 9 := by kernel_rfl
  have hf2 : DataW.trod enc Try.prog w base spare held fuel 24 cs.toList = some (d, p) := by simpa [Value.cells] using hf
  clear hf hf'
  obtain ⟨n0, y0, v0, hc0, ht0⟩ := agg_cell Try.underlying24 (by kernel_rfl) (by kernel_rfl) hf2 hsz 0 _ rfl
  obtain ⟨a0, he0, _, hw0⟩ := DataW.trod_int Try.underlying22 ht0
  obtain ⟨c0, rfl, hl0⟩ := u32_nat hw0
  simp only [List.cons.injEq, and_true] at he0
  subst he0
  obtain ⟨n1, y1, v1, hc1, ht1⟩ := agg_cell Try.underlying24 (by kernel_rfl) (by kernel_rfl) hf2 hsz 1 _ rfl
  obtain ⟨a1, he1, _, hw1⟩ := DataW.trod_int Try.underlying22 ht1
  obtain ⟨c1, rfl, hl1⟩ := u32_nat hw1
  simp only [List.cons.injEq, and_true] at he1
  subst he1
  obtain ⟨n2, y2, v2, hc2, ht2⟩ := agg_cell Try.underlying24 (by kernel_rfl) (by kernel_rfl) hf2 hsz 2 _ rfl
  obtain ⟨a2, he2, _, hw2⟩ := DataW.trod_int Try.underlying22 ht2
  obtain ⟨c2, rfl, hl2⟩ := u32_nat hw2
  simp only [List.cons.injEq, and_true] at he2
  subst he2
  obtain ⟨n3, y3, v3, hc3, ht3⟩ := agg_cell Try.underlying24 (by kernel_rfl) (by kernel_rfl) hf2 hsz 3 _ rfl
  obtain ⟨a3, he3, _, hw3⟩ := DataW.trod_int Try.underlying22 ht3
  obtain ⟨c3, rfl, hl3⟩ := u32_nat hw3
  simp only [List.cons.injEq, and_true] at he3
  subst he3
  obtain ⟨n4, y4, v4, hc4, ht4⟩ := agg_cell Try.underlying24 (by kernel_rfl) (by kernel_rfl) hf2 hsz 4 _ rfl
  obtain ⟨a4, he4, _, hw4⟩ := DataW.trod_int Try.underlying22 ht4
  obtain ⟨c4, rfl, hl4⟩ := u32_nat hw4
  simp only [List.cons.injEq, and_true] at he4
  subst he4
  obtain ⟨n5, y5, v5, hc5, ht5⟩ := agg_cell Try.underlying24 (by kernel_rfl) (by kernel_rfl) hf2 hsz 5 _ rfl
  obtain ⟨a5, he5, _, hw5⟩ := DataW.trod_int Try.underlying22 ht5
  obtain ⟨c5, rfl, hl5⟩ := u32_nat hw5
  simp only [List.cons.injEq, and_true] at he5
  subst he5
  obtain ⟨n6, y6, v6, hc6, ht6⟩ := agg_cell Try.underlying24 (by kernel_rfl) (by kernel_rfl) hf2 hsz 6 _ rfl
  obtain ⟨a6, he6, _, hw6⟩ := DataW.trod_int Try.underlying22 ht6
  obtain ⟨c6, rfl, hl6⟩ := u32_nat hw6
  simp only [List.cons.injEq, and_true] at he6
  subst he6
  obtain ⟨n7, y7, v7, hc7, ht7⟩ := agg_cell Try.underlying24 (by kernel_rfl) (by kernel_rfl) hf2 hsz 7 _ rfl
  obtain ⟨a7, he7, _, hw7⟩ := DataW.trod_int Try.underlying22 ht7
  obtain ⟨c7, rfl, hl7⟩ := u32_nat hw7
  simp only [List.cons.injEq, and_true] at he7
  subst he7
  obtain ⟨n8, y8, v8, hc8, ht8⟩ := agg_cell Try.underlying24 (by kernel_rfl) (by kernel_rfl) hf2 hsz 8 _ rfl
  obtain ⟨a8, he8, _, hw8⟩ := DataW.trod_int Try.underlying22 ht8
  obtain ⟨c8, rfl, hl8⟩ := u32_nat hw8
  simp only [List.cons.injEq, and_true] at he8
  subst he8
  refine ⟨c0, c1, c2, c3, c4, c5, c6, c7, c8, ?_, hl0, hl1, hl2, hl3, hl4, hl5, hl6, hl7, hl8⟩
  congr 1
  apply Array.ext_getElem?
  intro i
  by_cases hi : i < 9
  · match i, hi with
    | 0, _ => rw [hc0]; rfl
    | 1, _ => rw [hc1]; rfl
    | 2, _ => rw [hc2]; rfl
    | 3, _ => rw [hc3]; rfl
    | 4, _ => rw [hc4]; rfl
    | 5, _ => rw [hc5]; rfl
    | 6, _ => rw [hc6]; rfl
    | 7, _ => rw [hc7]; rfl
    | 8, _ => rw [hc8]; rfl
  · rw [Array.getElem?_eq_none (by omega), Array.getElem?_eq_none (by simp; omega)]
theorem open_exc {r : Reach} {b0 : Nat} {v : Value} {d : DataW H} {p : List MemPlace} (hv : Value.okWide Try.prog w r b0 30 v) (h : DataW.Trod enc Try.prog w base spare held 30 v d p) : ∃ (code : Int) (refill delay : Bool) (pc : Nat), v = .agg #[.int .i64 code, .bool refill, .bool delay, .int .u32 pc] ∧ pc < 4294967296 := by
  obtain ⟨cs, rfl, hsz⟩ := okWide_struct Try.underlying30 hv
  obtain ⟨fuel, hf⟩ := h
  have hC : Try.prog.cellsOf 30 = 4 := by kernel_rfl
  have hf2 : DataW.trod enc Try.prog w base spare held fuel 30 cs.toList = some (d, p) := by simpa [Value.cells] using hf
  clear hf
  obtain ⟨n0, y0, v0, hc0, ht0⟩ := agg_cell Try.underlying30 (by kernel_rfl) (by kernel_rfl) hf2 hsz 0 _ rfl
  obtain ⟨n1, y1, v1, hc1, ht1⟩ := agg_cell Try.underlying30 (by kernel_rfl) (by kernel_rfl) hf2 hsz 1 _ rfl
  obtain ⟨n2, y2, v2, hc2, ht2⟩ := agg_cell Try.underlying30 (by kernel_rfl) (by kernel_rfl) hf2 hsz 2 _ rfl
  obtain ⟨n3, y3, v3, hc3, ht3⟩ := agg_cell Try.underlying30 (by kernel_rfl) (by kernel_rfl) hf2 hsz 3 _ rfl
  obtain ⟨code, he0, _, _⟩ := DataW.trod_int Try.underlying3 ht0
  obtain ⟨refill, he1, _⟩ := DataW.trod_bool Try.underlying4 ht1
  obtain ⟨delay, he2, _⟩ := DataW.trod_bool Try.underlying4 ht2
  obtain ⟨pc', he3, _, hw3⟩ := DataW.trod_int Try.underlying22 ht3
  obtain ⟨pc, rfl, hl⟩ := u32_nat hw3
  simp only [List.cons.injEq, and_true] at he0
  subst he0
  simp only [List.cons.injEq, and_true] at he1
  subst he1
  simp only [List.cons.injEq, and_true] at he2
  subst he2
  simp only [List.cons.injEq, and_true] at he3
  subst he3
  refine ⟨code, refill, delay, pc, ?_, hl⟩
  congr 1
  apply Array.ext_getElem?
  intro i
  by_cases hi : i < 4
  · match i, hi with
    | 0, _ => rw [hc0]; rfl
    | 1, _ => rw [hc1]; rfl
    | 2, _ => rw [hc2]; rfl
    | 3, _ => rw [hc3]; rfl
  · rw [Array.getElem?_eq_none (by omega), Array.getElem?_eq_none (by simp; omega)]
end
end Go.Proofs.Yticibpginpkbfaa.Open
