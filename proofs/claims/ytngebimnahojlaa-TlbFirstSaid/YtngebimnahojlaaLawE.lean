/- TlbFirst: of two slots that fit the first one counts; behind a write that fits it is found, if no slot ahead fits: the plain law, joined with the walk. Conditions: words are words. -/
import Derived.Test.YtngebimnahojlaaLawD
import Derived.Test.YtngebimnahojlaaLawC
import Derived.Test.YtngebimnahojlaaOpen
namespace Go.Proofs.Ytngebimnahojlaa.LawE
open Go.ChangeShapes Go.WideShapes Go.RowKit Go.Deep Go.Proofs.Ytngebimnahojlaa.Con Go.Proofs.Ytngebimnahojlaa.Num Go.Proofs.Ytngebimnahojlaa.Pair Go.Proofs.Ytngebimnahojlaa.LawC Go.Proofs.Ytngebimnahojlaa.LawD Go.Proofs.Ytngebimnahojlaa.Open
set_option linter.unusedVariables false
set_option linter.unusedSimpArgs false
theorem slot_is (slot : Int) : ∃ n : Nat, n ≤ 7 ∧ Go.bits .and .i64 slot 7 = (n : Int) := by
  have h : (BitVec.ofInt 64 slot &&& BitVec.ofInt 64 7).toNat ≤ 7 := by
    rw [BitVec.toNat_and]
    exact Nat.le_trans Nat.and_le_right (by decide)
  refine ⟨(BitVec.ofInt 64 slot &&& BitVec.ofInt 64 7).toNat, h, ?_⟩
  show IntKind.i64.wrap (((BitVec.ofInt 64 slot &&& BitVec.ofInt 64 7).toNat : Nat) : Int) = _
  generalize (BitVec.ofInt 64 slot &&& BitVec.ofInt 64 7).toNat = n at h ⊢
  rw [IntKind.wrap_i64]
  omega
theorem tlbFirst {h l : Nat → Int} (hh : Ws h) (hl : Ws l) {a s : Int} (ha : Wd a) (hs : Wd s) (slot : Int) (w : World) : Calls Try.prog 6 #[.agg (List.toArray (fit19 h l slot a s))] w fun e w' => e = .returned (.bool true) ∧ Below w.heap.size w w' := by
  obtain ⟨k, hk7, ek⟩ := slot_is slot
  have hk : k < 8 := by omega
  have whw : Wd (a / 256 * 256 + s % 256) := by have := ha.1; have := ha.2; constructor <;> omega
  have e6 : lowI 6 = 6 := by decide
  have wi := write_in hh hl whw (b := 6) (wd _ (by omega)) k hk
  rw [e6] at wi
  have hh' : Ws (put h k (a / 256 * 256 + s % 256)) := put_ws hh k whw
  have hl' : Ws (put l k 6) := put_ws hl k (wd _ (by omega))
  have fp := find_pair hh' hl' ha hs
  have fitk : fitR (put h k (a / 256 * 256 + s % 256)) (put l k 6) a s k = true := by
    unfold fitR
    rw [put_same]
    have q1 : ((a / 256 * 256 + s % 256) / 256 == a / 256) = true := by rw [beq_iff_eq]; omega
    have q2 : ((a / 256 * 256 + s % 256) % 256 == s % 256) = true := by rw [beq_iff_eq]; omega
    rw [q1, q2, Bool.or_true]; rfl
  have hr : ∃ m : Nat, m ≤ k ∧ firstN (fitR (put h k (a / 256 * 256 + s % 256)) (put l k 6) a s) 0 8 = (m : Int) ∧ ∀ j, j < m → fitR (put h k (a / 256 * 256 + s % 256)) (put l k 6) a s j = false := by
    rcases first_cases (fitR (put h k (a / 256 * 256 + s % 256)) (put l k 6) a s) 8 0 with ⟨_, q⟩ | ⟨m, _, hm, e, _, q⟩
    · rw [q k (by omega) (by omega)] at fitk; cases fitk
    · refine ⟨m, ?_, e, fun j hj => q j (by omega) hj⟩
      by_cases c : m ≤ k
      · exact c
      · rw [q k (by omega) (by omega)] at fitk; cases fitk
  obtain ⟨m, hmk, er, hno⟩ := hr
  rw [er] at fp
  refine first_raw h l (put h k (a / 256 * 256 + s % 256)) (put l k 6) (cells16 h l) (cells16 (put h k (a / 256 * 256 + s % 256)) (put l k 6)) rfl rfl rfl (nums16 _ _) slot a s (a / 256 * 256 + s % 256) m k hk ek ?_ wi.1 (fun j hj w => read_at _ _ j hj w) fp.1 m rfl hmk ?_ w
  · rw [mask_high ha, and255_is hs]
    have := whw.1; have := whw.2
    omega
  · intro j hj
    have q := hno j hj
    have wx := hh' j
    have wy := hl' j
    unfold fitR at q
    generalize put h k (a / 256 * 256 + s % 256) j = x at *
    generalize put l k 6 j = y at *
    rw [mask_high wx, mask_high ha, and1_is wy, and255_is wx, and255_is hs]
    have e : (x / 256 * 256 == a / 256 * 256) = (x / 256 == a / 256) := by
      rw [Bool.eq_iff_iff, beq_iff_eq, beq_iff_eq]; omega
    rw [e]
    exact q
section
variable {H : Type} {enc : TypeId × Value → H} {w : World} {base : Nat} {spare : Nat → Bool} {held : Bool}
theorem cells3 : Try.prog.cellsOf 3 = 1 := by kernel_rfl
theorem open_fit {r : Reach} {b0 : Nat} {v : Value} {d : DataW H} {p : List MemPlace} (hv : Value.okWide Try.prog w r b0 39 v) (h : DataW.Trod enc Try.prog w base spare held 39 v d p) : ∃ (h l : Nat → Int) (slot a s : Int), v = .agg (List.toArray (fit19 h l slot a s)) ∧ Ws h ∧ Ws l ∧ Wd a ∧ Wd s := by
  obtain ⟨cs, rfl, hsz⟩ := okWide_struct Try.underlying39 hv
  obtain ⟨fuel, hf⟩ := h
  have hf2 : DataW.trod enc Try.prog w base spare held fuel 39 cs.toList = some (d, p) := by simpa [Value.cells] using hf
  obtain ⟨xs, n, _, hx, hlen, hxl, hg⟩ := DataW.trod_struct Try.underlying39 hf2
  have l4 : xs.length = 4 := hxl
  have f0 := hg 0 _ rfl
  have f1 := hg 1 _ rfl
  have f2 := hg 2 _ rfl
  have f3 := hg 3 _ rfl
  rw [List.getElem?_eq_getElem (by omega)] at f0 f1 f2 f3
  obtain ⟨hF, lF, hc, wh, wl⟩ := tlb_cells f0
  obtain ⟨slot, g1, _, _⟩ := DataW.trod_int Try.underlying3 f1
  obtain ⟨a, g2, _, wa⟩ := DataW.trod_int Try.underlying22 f2
  obtain ⟨s, g3, _, ws⟩ := DataW.trod_int Try.underlying22 f3
  refine ⟨hF, lF, slot, a, s, ?_, wh, wl, u32_wd wa, u32_wd ws⟩
  have hc19 : cs.toList.length = 19 := hlen.trans (by kernel_rfl)
  have hc' : (cs.toList.drop 0).take (Try.prog.cellsOf 26) = cells16 hF lF := hc
  have g1' : (cs.toList.drop 16).take (Try.prog.cellsOf 3) = [.int .i64 slot] := g1
  have g2' : (cs.toList.drop 17).take (Try.prog.cellsOf 22) = [.int .u32 a] := g2
  have g3' : (cs.toList.drop 18).take (Try.prog.cellsOf 22) = [.int .u32 s] := g3
  rw [cells26] at hc'
  rw [cells3] at g1'
  rw [cells22] at g2' g3'
  congr 1
  rw [← Array.toList_inj]
  have e : cs.toList = (cs.toList.drop 0).take 16 ++ (cs.toList.drop 16).take 1 ++ (cs.toList.drop 17).take 1 ++ (cs.toList.drop 18).take 1 := by
    generalize cs.toList = L at hc19
    match L, hc19 with
    | [x0, x1, x2, x3, x4, x5, x6, x7, x8, x9, x10, x11, x12, x13, x14, x15, x16, x17, x18], _ => rfl
  rw [e, hc', g1', g2', g3']
  rfl
end
end Go.Proofs.Ytngebimnahojlaa.LawE
