/- What tlb.Map answers, and the document's Map. Conditions: what Find answers, as a premise; words are words. -/
import Derived.Test.YtngebimnahojlaaConB
import Derived.Outline
namespace Go.Proofs.Ytngebimnahojlaa.Con
open Go.RowKit Go.Proofs.Ytngebimnahojlaa.Frm Go.Proofs.YtngebimnahojlaaW.PrintWords Go.Proofs.YtngebimnahojlaaW.PrintLast Go.Proofs.YtngebimnahojlaaW.PrintMore
set_option linter.unusedVariables false
set_option linter.unusedSimpArgs false
def mapX (b1 b2 wr : Bool) (x : Int) : Int := if b1 = true then 0 else if (wr && b2) = true then 0 else x
def mapC (b1 b2 wr : Bool) : Int := if b1 = true then 2 else if (wr && b2) = true then 3 else 0
set_option maxHeartbeats 4000000 in
set_option maxRecDepth 100000 in
theorem map_no (h l : Nat → Int) (a s : Int) (wr : Bool) (hf : ∀ w : World, Calls Try.prog 13 #[tlb h l, .int .u32 a, .int .u32 s] w fun e w' => e = .returned (.int .i64 (-1)) ∧ Below w.heap.size w w') (w : World) :
    Calls Try.prog 11 #[tlb h l, .int .u32 a, .int .u32 s, .bool wr] w fun e w' => e = .returned (.tuple #[.int .u32 0, .int .i64 1]) ∧ Below w.heap.size w w' := by
  have HF := Aside0.mk hf
  clear hf
  go_enter Try.func11, Try.ntmps11
  go_wp2_with fail
  have OW := Aside0.mk ((Below.refl w.heap.size w).alloc (Nat.le_refl _) (.cells (List.toArray (cells16 h l)) 26))
  refine (HF.out _).mono ?_
  rintro e w1 ⟨rfl, hb⟩
  have O1 := Aside0.mk (OW.out.trans (hb.mono (by simp)))
  clear hb
  go_wp2_with fail
  go_ret2
  exact ⟨rfl, O1.out⟩
set_option maxHeartbeats 4000000 in
set_option maxRecDepth 100000 in
theorem map_at (h l : Nat → Int) (a s : Int) (wr : Bool) (k : Nat) (hk : k < 8) (hf : ∀ w : World, Calls Try.prog 13 #[tlb h l, .int .u32 a, .int .u32 s] w fun e w' => e = .returned (.int .i64 k) ∧ Below w.heap.size w w') (w : World) :
    Calls Try.prog 11 #[tlb h l, .int .u32 a, .int .u32 s, .bool wr] w fun e w' => e = .returned (.tuple #[.int .u32 (mapX (Go.bits .and .u32 (l k) 2 == 0) (Go.bits .and .u32 (l k) 4 == 0) wr (Go.bits .or .u32 (Go.bits .andNot .u32 (l k) 255) (Go.bits .and .u32 a 255))), .int .i64 (mapC (Go.bits .and .u32 (l k) 2 == 0) (Go.bits .and .u32 (l k) 4 == 0) wr)]) ∧ Below w.heap.size w w' := by
  have HF := Aside0.mk hf
  clear hf
  have k0 : (0 : Int) ≤ (k : Int) := by omega
  have k1 : (k : Int) < 8 := by omega
  obtain ⟨b1, hb1⟩ : ∃ b, (Go.bits .and .u32 (l k) 2 == 0) = b := ⟨_, rfl⟩
  obtain ⟨b2, hb2⟩ : ∃ b, (Go.bits .and .u32 (l k) 4 == 0) = b := ⟨_, rfl⟩
  rw [hb1, hb2]
  cases b1 <;> cases b2 <;> cases wr
  all_goals
    go_enter Try.func11, Try.ntmps11
    go_wp2_with fail
    have OW : Aside0 (Owns w _ [(w.heap.size, cells16 h l)]) := ⟨(Owns.start w).new (cells16 h l) 26⟩
    refine (HF.out _).mono ?_
    rintro e w1 ⟨rfl, hb⟩
    have O1 := Aside0.mk (OW.out.call hb)
    clear hb OW
    have c2 := O1.out.cell 0 (w.heap.size) _ rfl (k * 2 + 1) _ (cell_l h l k hk)
    go_wp2_with fail
    go_ret2
    exact ⟨rfl, O1.out.below⟩
set_option maxHeartbeats 4000000 in
set_option maxRecDepth 100000 in
theorem rmap_no (h l : Nat → Int) (a s : Int) (wr : Bool) (hf : ∀ w : World, Calls Try.prog 14 #[tlb h l, .int .u32 a, .int .u32 s] w fun e w' => e = .returned (.int .i64 (-1)) ∧ Below w.heap.size w w') (w : World) :
    Calls Try.prog 12 #[tlb h l, .int .u32 a, .int .u32 s, .bool wr] w fun e w' => e = .returned (.tuple #[.int .u32 0, .int .i64 1]) ∧ Below w.heap.size w w' := by
  have HF := Aside0.mk hf
  clear hf
  go_enter Try.func12, Try.ntmps12
  go_wp2_with fail
  have OW := Aside0.mk ((Below.refl w.heap.size w).alloc (Nat.le_refl _) (.cells (List.toArray (cells16 h l)) 26))
  refine (HF.out _).mono ?_
  rintro e w1 ⟨rfl, hb⟩
  have O1 := Aside0.mk (OW.out.trans (hb.mono (by simp)))
  clear hb
  go_wp2_with fail
  go_ret2
  exact ⟨rfl, O1.out⟩
set_option maxHeartbeats 4000000 in
set_option maxRecDepth 100000 in
theorem rmap_at (h l : Nat → Int) (a s : Int) (wr : Bool) (k : Nat) (hk : k < 8) (y : 0 ≤ l k ∧ l k < 4294967296) (ha : 0 ≤ a ∧ a < 4294967296) (hf : ∀ w : World, Calls Try.prog 14 #[tlb h l, .int .u32 a, .int .u32 s] w fun e w' => e = .returned (.int .i64 k) ∧ Below w.heap.size w w') (w : World) :
    Calls Try.prog 12 #[tlb h l, .int .u32 a, .int .u32 s, .bool wr] w fun e w' => e = .returned (.tuple #[.int .u32 (mapX (l k / 2 % 2 == 0) (l k / 4 % 2 == 0) wr ((l k / 256 * 256 + a % 256))), .int .i64 (mapC (l k / 2 % 2 == 0) (l k / 4 % 2 == 0) wr)]) ∧ Below w.heap.size w w' := by
  have HF := Aside0.mk hf
  clear hf
  have k0 : (0 : Int) ≤ (k : Int) := by omega
  have k1 : (k : Int) < 8 := by omega
  obtain ⟨y0, y1⟩ := y
  obtain ⟨a0, a1⟩ := ha
  have x1 : (l k / 256 * 256 + a % 256) % 4294967296 = l k / 256 * 256 + a % 256 := by omega
  obtain ⟨b1, hb1⟩ : ∃ b, (l k / 2 % 2 == 0) = b := ⟨_, rfl⟩
  obtain ⟨b2, hb2⟩ : ∃ b, (l k / 4 % 2 == 0) = b := ⟨_, rfl⟩
  rw [hb1, hb2]
  cases b1 <;> cases b2 <;> cases wr
  all_goals
    go_enter Try.func12, Try.ntmps12
    go_wp2_with fail
    have OW : Aside0 (Owns w _ [(w.heap.size, cells16 h l)]) := ⟨(Owns.start w).new (cells16 h l) 26⟩
    refine (HF.out _).mono ?_
    rintro e w1 ⟨rfl, hb⟩
    have O1 := Aside0.mk (OW.out.call hb)
    clear hb OW
    have c2 := O1.out.cell 0 (w.heap.size) _ rfl (k * 2 + 1) _ (cell_l h l k hk)
    go_wp2_with fail
    go_ret2
    exact ⟨rfl, O1.out.below⟩
end Go.Proofs.Ytngebimnahojlaa.Con
