/- What the document's Find answers. Conditions: words are words. -/
import Derived.Test.YtngebimnahojlaaConA
import Derived.Outline
namespace Go.Proofs.Ytngebimnahojlaa.Con
open Go.RowKit Go.Proofs.Ytngebimnahojlaa.Frm Go.Proofs.YtngebimnahojlaaW.PrintWords Go.Proofs.YtngebimnahojlaaW.PrintLast Go.Proofs.YtngebimnahojlaaW.PrintMore
set_option linter.unusedVariables false
set_option linter.unusedSimpArgs false
abbrev cells16 (h l : Nat → Int) : List Value := [.int .u32 (h 0), .int .u32 (l 0), .int .u32 (h 1), .int .u32 (l 1), .int .u32 (h 2), .int .u32 (l 2), .int .u32 (h 3), .int .u32 (l 3), .int .u32 (h 4), .int .u32 (l 4), .int .u32 (h 5), .int .u32 (l 5), .int .u32 (h 6), .int .u32 (l 6), .int .u32 (h 7), .int .u32 (l 7)]
def fitR (h l : Nat → Int) (a s : Int) (k : Nat) : Bool := (h k / 256 == a / 256) && ((l k % 2 == 1) || (h k % 256 == s % 256))
set_option maxHeartbeats 4000000 in
set_option maxRecDepth 100000 in
theorem rfind_raw (h l : Nat → Int) (a s : Int) (hh : ∀ i, 0 ≤ h i ∧ h i < 4294967296) (hl : ∀ i, 0 ≤ l i ∧ l i < 4294967296) (ha : 0 ≤ a ∧ a < 4294967296) (hs : 0 ≤ s ∧ s < 4294967296) (w : World) : Calls Try.prog 14 #[tlb h l, .int .u32 a, .int .u32 s] w fun e w' =>
    e = .returned (.int .i64 (firstN (fitR h l a s) 0 8)) ∧ Below w.heap.size w w' := by
  have HH := Aside0.mk hh
  have HL := Aside0.mk hl
  clear hh hl
  obtain ⟨a0, a1⟩ := ha
  obtain ⟨s0, s1⟩ := hs
  go_enter Try.func14, Try.ntmps14
  go_wp2_with fail
  have OW : Aside0 (Owns w (w.alloc (.cells (List.toArray (cells16 h l)) 26)) [(w.heap.size, cells16 h l)]) := ⟨(Owns.start w).new _ _⟩
  go_loopw [7] (fun i wr => ∃ k : Nat, k ≤ 8 ∧ i = .int .i64 k ∧ Aside0 (firstN (fitR h l a s) k (8 - k) = firstN (fitR h l a s) 0 8) ∧ Aside0 (Owns w wr [(w.heap.size, cells16 h l)])) (fun i _ => 8 - (intOf i).toNat)
  case atStart => exact ⟨0, by omega, rfl, ⟨rfl⟩, OW⟩
  case round =>
    clear OW
    obtain ⟨k, hk, rfl, HF, OW⟩ := hrel
    by_cases hlt : k < 8
    · have k0 : (0 : Int) ≤ (k : Int) := by omega
      have k1 : (k : Int) < 8 := by omega
      have c1 := OW.out.cell 0 (w.heap.size) _ rfl (k * 2) _ (cell_h h l k hlt)
      have c2 := OW.out.cell 0 (w.heap.size) _ rfl (k * 2 + 1) _ (cell_l h l k hlt)
      have x0 := (HH.out k).1
      have x1 := (HH.out k).2
      have y0 := (HL.out k).1
      have y1 := (HL.out k).2
      obtain ⟨b1, hb1⟩ : ∃ b, (h k / 256 == a / 256) = b := ⟨_, rfl⟩
      obtain ⟨b2, hb2⟩ : ∃ b, (l k % 2 == 1) = b := ⟨_, rfl⟩
      obtain ⟨b3, hb3⟩ : ∃ b, (h k % 256 == s % 256) = b := ⟨_, rfl⟩
      have hfit : fitR h l a s k = (b1 && (b2 || b3)) := by unfold fitR; rw [hb1, hb2, hb3]
      have hst := first_step (fitR h l a s) k hlt
      rw [hfit, HF.out] at hst
      have HS := Aside0.mk hst
      clear hst hfit HF
      cases b1 <;> cases b2 <;> cases b3
      all_goals
        go_wp2_with fail
        go_region
        go_wp2_with fail
        first
        | exact ⟨⟨k + 1, by omega, by go_num, ⟨(HS.out.trans (if_neg (by simp))).symm⟩, ⟨OW.out.drew⟩⟩, by simp [intOf]; omega⟩
        | (go_ret
           exact ⟨congrArg (fun n : Int => Ending.returned (.int .i64 n)) (HS.out.trans (if_pos rfl)).symm, OW.out.drew.below⟩)
    · obtain rfl : k = 8 := by omega
      go_wp2_with fail
      go_ret
      exact ⟨congrArg (fun n : Int => Ending.returned (.int .i64 n)) HF.out, OW.out.below⟩
end Go.Proofs.Ytngebimnahojlaa.Con
