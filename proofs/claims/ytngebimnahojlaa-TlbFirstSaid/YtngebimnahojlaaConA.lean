/- What tlb.Read and tlb.Find answer, and the document's Find. Conditions as each says. -/
import Derived.Test.YtngebimnahojlaaFrame
import Derived.Outline
namespace Go.Proofs.Ytngebimnahojlaa.Con
open Go.RowKit Go.Proofs.Ytngebimnahojlaa.Frm Go.Proofs.YtngebimnahojlaaW.PrintWords Go.Proofs.YtngebimnahojlaaW.PrintLast Go.Proofs.YtngebimnahojlaaW.PrintMore
set_option linter.unusedVariables false
set_option linter.unusedSimpArgs false
set_option maxHeartbeats 4000000 in
set_option maxRecDepth 100000 in
theorem read_at (h l : Nat → Int) (k : Nat) (hk : k < 8) (w : World) : Calls Try.prog 9 #[tlb h l, .int .i64 k] w fun e w' =>
    e = .returned (.tuple #[.agg #[.int .u32 (h k), .int .u32 (l k)], .int .i64 0]) ∧ Below w.heap.size w w' := by
  have k0 : (0 : Int) ≤ (k : Int) := by omega
  have k1 : (k : Int) < 8 := by omega
  have c1 := cell_h h l k hk
  have c2 := cell_l h l k hk
  go_enter Try.func9, Try.ntmps9
  go_wp2_with fail
  exact bodyPost_ret (v := .tuple #[.agg #[.int .u32 (h k), .int .u32 (l k)], .int .i64 0]) (by simp [results, Try.results9, go_sem]) rfl ⟨rfl, by repeat (first | exact Below.refl _ _ | refine Below.alloc ?_ (by first | (simp; done) | (simp; omega)) _)⟩
set_option maxHeartbeats 4000000 in
set_option maxRecDepth 100000 in
theorem read_no (h l : Nat → Int) (k : Int) (hk : k < 0 ∨ 8 ≤ k) (w : World) : Calls Try.prog 9 #[tlb h l, .int .i64 k] w fun e w' =>
    e = .returned (.tuple #[.agg #[.int .u32 0, .int .u32 0], .int .i64 70]) ∧ Below w.heap.size w w' := by
  rcases hk with hk | hk
  · go_enter Try.func9, Try.ntmps9
    go_wp2_with fail
    exact bodyPost_ret (v := .tuple #[.agg #[.int .u32 0, .int .u32 0], .int .i64 70]) (by simp [results, Try.results9, go_sem]) rfl ⟨rfl, by repeat (first | exact Below.refl _ _ | refine Below.alloc ?_ (by first | (simp; done) | (simp; omega)) _)⟩
  · have hk' : ¬ k < 0 := by omega
    go_enter Try.func9, Try.ntmps9
    go_wp2_with fail
    exact bodyPost_ret (v := .tuple #[.agg #[.int .u32 0, .int .u32 0], .int .i64 70]) (by simp [results, Try.results9, go_sem]) rfl ⟨rfl, by repeat (first | exact Below.refl _ _ | refine Below.alloc ?_ (by first | (simp; done) | (simp; omega)) _)⟩
/-- The first number from k on that fits, of d. -/
def firstN (fit : Nat → Bool) : Nat → Nat → Int
  | _, 0 => -1
  | k, d + 1 => if fit k = true then k else firstN fit (k + 1) d
def fitP (h l : Nat → Int) (a s : Int) (k : Nat) : Bool := (Go.bits .andNot .u32 (h k) 255 == Go.bits .andNot .u32 a 255) && ((Go.bits .and .u32 (l k) 1 != 0) || (Go.bits .and .u32 (h k) 255 == Go.bits .and .u32 s 255))
theorem first_step (fit : Nat → Bool) (k : Nat) (hk : k < 8) : firstN fit k (8 - k) = if fit k = true then (k : Int) else firstN fit (k + 1) (8 - (k + 1)) := by
  rw [show 8 - k = (8 - (k + 1)) + 1 by omega]
  rfl
set_option maxHeartbeats 4000000 in
set_option maxRecDepth 100000 in
theorem find_raw (h l : Nat → Int) (a s : Int) (w : World) : Calls Try.prog 13 #[tlb h l, .int .u32 a, .int .u32 s] w fun e w' =>
    e = .returned (.int .i64 (firstN (fitP h l a s) 0 8)) ∧ Below w.heap.size w w' := by
  go_enter Try.func13, Try.ntmps13
  go_wp2_with fail
  have OW : Aside0 (Below w.heap.size w (w.alloc (.cells (#[.int .u32 (h 0), .int .u32 (l 0), .int .u32 (h 1), .int .u32 (l 1), .int .u32 (h 2), .int .u32 (l 2), .int .u32 (h 3), .int .u32 (l 3), .int .u32 (h 4), .int .u32 (l 4), .int .u32 (h 5), .int .u32 (l 5), .int .u32 (h 6), .int .u32 (l 6), .int .u32 (h 7), .int .u32 (l 7)]) 26))) := ⟨(Below.refl _ _).alloc (Nat.le_refl _) _⟩
  go_loopw [10] (fun i wr => ∃ k : Nat, k ≤ 8 ∧ i = .int .i64 k ∧ Aside0 (firstN (fitP h l a s) k (8 - k) = firstN (fitP h l a s) 0 8) ∧ Aside0 (Below w.heap.size w wr)) (fun i _ => 8 - (intOf i).toNat)
  case atStart => exact ⟨0, by omega, rfl, ⟨rfl⟩, OW⟩
  case round =>
    clear OW
    obtain ⟨k, hk, rfl, HF, OW⟩ := hrel
    by_cases hlt : k < 8
    · have k0 : (0 : Int) ≤ (k : Int) := by omega
      have k1 : (k : Int) < 8 := by omega
      have hidx := index_at h l k hlt
      obtain ⟨b1, hb1⟩ : ∃ b, (Go.bits .andNot .u32 (h k) 255 == Go.bits .andNot .u32 a 255) = b := ⟨_, rfl⟩
      obtain ⟨b2, hb2⟩ : ∃ b, (Go.bits .and .u32 (l k) 1 != 0) = b := ⟨_, rfl⟩
      obtain ⟨b3, hb3⟩ : ∃ b, (Go.bits .and .u32 (h k) 255 == Go.bits .and .u32 s 255) = b := ⟨_, rfl⟩
      have hfit : fitP h l a s k = (b1 && (b2 || b3)) := by unfold fitP; rw [hb1, hb2, hb3]
      have hst := first_step (fitP h l a s) k hlt
      rw [hfit, HF.out] at hst
      have HS := Aside0.mk hst
      clear hst hfit HF
      cases b1 <;> cases b2 <;> cases b3
      all_goals
        go_wp2_with fail
        first
        | exact ⟨⟨k + 1, by omega, by go_num, ⟨(HS.out.trans (if_neg (by simp))).symm⟩, ⟨OW.out.alloc OW.out.size _⟩⟩, by simp [intOf]; omega⟩
        | (go_ret
           exact ⟨congrArg (fun n : Int => Ending.returned (.int .i64 n)) (HS.out.trans (if_pos rfl)).symm, OW.out.alloc OW.out.size _⟩)
    · obtain rfl : k = 8 := by omega
      go_wp2_with fail
      go_ret
      exact ⟨congrArg (fun n : Int => Ending.returned (.int .i64 n)) HF.out, OW.out⟩
end Go.Proofs.Ytngebimnahojlaa.Con
