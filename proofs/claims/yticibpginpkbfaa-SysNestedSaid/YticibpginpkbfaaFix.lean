/- The calls whose answers the document fixes: the law's own check is true. No conditions. -/
import Derived.Test.YticibpginpkbfaaConB
import Derived.Outline
namespace Go.Proofs.Yticibpginpkbfaa.Fix
open Go.RowKit Go.Proofs.Yticibpginpkbfaa.Fun Go.Proofs.Yticibpginpkbfaa.Bits Go.Proofs.Yticibpginpkbfaa.Con Go.Proofs.YticibpginpkbfaaW.PrintWords Go.Proofs.YticibpginpkbfaaW.PrintLast Go.Proofs.YticibpginpkbfaaW.PrintMore
set_option linter.unusedVariables false
set_option linter.unusedSimpArgs false
theorem bcell {W w1 : World} (hb : Below W.heap.size W w1) : (∀ b o, b < W.heap.size → w1.cell? ⟨b, o, none⟩ = W.cell? ⟨b, o, none⟩) ∧ (∀ b o, b < W.heap.size → w1.frozen? ⟨b, o, none⟩ = W.frozen? ⟨b, o, none⟩) :=
  ⟨fun b o h => hb.cell (p := ⟨b, o, none⟩) h, fun b o h => hb.frozen (p := ⟨b, o, none⟩) h⟩
theorem fw (w : World) : Calls Try.prog 12 #[regs 0 0 0 0 0 0 0 0 0, .int .i64 12, .int .u32 4294967295] w fun e w' => e = .returned (regs 0 0 0 0 0 0 65299 0 0) ∧ ∃ o1 o2, w' = (w.alloc o1).alloc o2 := by
  have h := write_12 0 0 0 0 0 0 0 0 0 4294967295 w
  rw [show Go.bits .or .u32 (Go.bits .andNot .u32 0 65299) (Go.bits .and .u32 4294967295 65299) = 65299 by decide +kernel] at h
  exact h
theorem fr (w : World) : Calls Try.prog 14 #[regs 0 0 0 0 0 0 0 0 0, .int .i64 8, .bool false, .int .u32 260, .bool true] w fun e w' => e = .returned (.tuple #[regs 0 0 0 0 0 0 2 2147483680 256, .int .u32 2147484032]) ∧ ∃ o1 o2, w' = (w.alloc o1).alloc o2 := by
  have h := raise_raw 0 0 0 0 0 0 0 0 0 8 260 false true w
  rw [show (Go.bits .and .u32 0 2 == 0) = true by decide +kernel, show Go.bits .or .u32 0 2 = 2 by decide +kernel, show raise8 true true 0 260 = 256 by decide +kernel, show raiseTo true false = 2147484032 by decide +kernel, show Go.bits .or .u32 (Go.bits .andNot .u32 (raise7 true true 0) 124) (Go.bits .and .u32 (8 % 4294967296 * 4 % 4294967296) 124) = 2147483680 by decide +kernel] at h
  exact h
theorem fret (w : World) : Calls Try.prog 16 #[regs 0 0 0 0 0 0 2 2147483680 256] w fun e w' => e = .returned (.tuple #[regs 0 0 0 0 0 0 0 2147483680 256, .int .u32 256]) ∧ ∃ o1 o2, w' = ((w.alloc o1).alloc o2).drew := by
  have h := return_raw 0 0 0 0 0 0 2 2147483680 256 w
  rw [show Go.bits .andNot .u32 2 2 = 0 by decide +kernel] at h
  exact h
theorem fread (w : World) : Calls Try.prog 10 #[regs 0 0 0 0 0 0 2 2147483680 256, .int .i64 14] w fun e w' => e = .returned (.int .u32 256) ∧ ∃ o1, w' = w.alloc o1 := read_14 0 0 0 0 0 0 2 2147483680 256 w
theorem fread1 (w : World) : Calls Try.prog 10 #[regs 0 0 0 0 0 0 2 2147483680 256, .int .i64 1] w fun e w' => e = .returned (.int .u32 0) ∧ ∃ o1, w' = w.alloc o1 := read_other 0 0 0 0 0 0 2 2147483680 256 1 (by unfold other; decide) w
theorem fuser (w : World) : Calls Try.prog 24 #[regs 0 0 0 0 0 0 16 0 0] w fun e w' => e = .returned (.bool true) ∧ ∃ o1, w' = w.alloc o1 := by
  have h := user_raw 0 0 0 0 0 0 16 0 0 w
  rw [show (Go.bits .and .u32 16 18 == 16) = true by decide +kernel] at h
  exact h
theorem fpend (w : World) : Calls Try.prog 22 #[regs 0 0 0 0 0 0 0 0 0] w fun e w' => e = .returned (.bool false) ∧ ∃ o1, w' = w.alloc o1 := by
  have h := pend_raw 0 0 0 0 0 0 0 0 0 w
  rw [if_neg (show ¬ (Go.bits .and .u32 0 3 == 1) = true by decide +kernel)] at h
  exact h
theorem ftick (w : World) : Calls Try.prog 20 #[regs 0 0 0 0 0 1 0 0 0, .int .u32 1] w fun e w' => e = .returned (.agg #[.int .u32 0, .int .u32 0, .int .u32 0, .int .u32 1, .int .u32 0, .int .u32 1, .int .u32 0, .int .u32 33792, .int .u32 0]) ∧ ∃ o1 o2, w' = (w.alloc o1).alloc o2 := by
  have h := tick_raw 0 0 0 0 0 1 0 0 0 1 w
  rw [if_pos (by decide +kernel), show Go.bits .or .u32 (Go.bits .or .u32 (Go.bits .andNot .u32 0 31744) (Go.bits .and .u32 (1 * 1024 % 4294967296) 31744)) 32768 = 33792 by decide +kernel] at h
  exact h
theorem fbad (w : World) : Calls Try.prog 18 #[regs 0 0 0 0 0 0 0 0 0, .int .u32 4660, .bool true] w fun e w' => e = .returned (.agg #[.int .u32 0, .int .u32 0, .int .u32 4660, .int .u32 0, .int .u32 4608, .int .u32 0, .int .u32 0, .int .u32 0, .int .u32 0]) ∧ ∃ o1 o2, w' = (w.alloc o1).alloc o2 := by
  have h := bad_raw 0 0 0 0 0 0 0 0 0 4660 true w
  rw [if_pos rfl, show Go.bits .or .u32 (Go.bits .andNot .u32 0 4294967040) (Go.bits .and .u32 4660 4294967040) = 4608 by decide +kernel] at h
  exact h
set_option maxHeartbeats 8000000 in
set_option maxRecDepth 100000 in
theorem fixed_c (w : World) : Calls Try.prog 9 #[] w fun e w' => e = .returned (.bool true) ∧ Below w.heap.size w w' := by
  have f7 : ∀ w : World, (Instr.field 24 (.agg #[.int .u32 0, .int .u32 0, .int .u32 0, .int .u32 1, .int .u32 0, .int .u32 1, .int .u32 0, .int .u32 33792, .int .u32 0]) 7).run Try.prog w = .ok (.int .u32 33792) w := fun _ => by kernel_rfl
  have f4 : ∀ w : World, (Instr.field 24 (.agg #[.int .u32 0, .int .u32 0, .int .u32 4660, .int .u32 0, .int .u32 4608, .int .u32 0, .int .u32 0, .int .u32 0, .int .u32 0]) 4).run Try.prog w = .ok (.int .u32 4608) w := fun _ => by kernel_rfl
  go_enter Try.func9, Try.ntmps9
  go_wp2_with (first | (go_at_call 12; (with_reducible refine (fw _).mono ?_); rintro e w9 ⟨rfl, _, _, rfl⟩) | (go_at_call 14; (with_reducible refine (fr _).mono ?_); rintro e w9 ⟨rfl, _, _, rfl⟩) | (go_at_call 16; (with_reducible refine (fret _).mono ?_); rintro e w9 ⟨rfl, _, _, rfl⟩) | (go_at_call 10; (with_reducible refine (fread _).mono ?_); rintro e w9 ⟨rfl, _, rfl⟩) | (go_at_call 10; (with_reducible refine (fread1 _).mono ?_); rintro e w9 ⟨rfl, _, rfl⟩) | (go_at_call 24; (with_reducible refine (fuser _).mono ?_); rintro e w9 ⟨rfl, _, rfl⟩) | (go_at_call 22; (with_reducible refine (fpend _).mono ?_); rintro e w9 ⟨rfl, _, rfl⟩) | (go_at_call 20; (with_reducible refine (ftick _).mono ?_); rintro e w9 ⟨rfl, _, _, rfl⟩) | (go_at_call 18; (with_reducible refine (fbad _).mono ?_); rintro e w9 ⟨rfl, _, _, rfl⟩))
  go_ret
  exact ⟨rfl, by repeat (first | exact Below.refl _ _ | apply pw_below_drewN | apply below_drew | refine Below.alloc ?_ (by first | (simp; done) | (simp; omega)) _)⟩
end Go.Proofs.Yticibpginpkbfaa.Fix
