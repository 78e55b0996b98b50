/- The contracts of cp0.at, cp0.Read and cp0.Write, register by register. No conditions. -/
import Derived.Test.YticibpginpkbfaaConA
namespace Go.Proofs.Yticibpginpkbfaa.Con
open Go.RowKit Go.Proofs.Yticibpginpkbfaa.Fun Go.Proofs.Yticibpginpkbfaa.Bits Go.Proofs.YticibpginpkbfaaW.PrintWords Go.Proofs.YticibpginpkbfaaW.PrintLast Go.Proofs.YticibpginpkbfaaW.PrintMore
set_option linter.unusedVariables false
set_option linter.unusedSimpArgs false
/-- The numbers that no register has. -/
def other (r : Int) : Prop := (r == 0) = false ∧ (r == 2) = false ∧ (r == 8) = false ∧ (r == 9) = false ∧ (r == 10) = false ∧ (r == 11) = false ∧ (r == 12) = false ∧ (r == 13) = false ∧ (r == 14) = false
set_option maxHeartbeats 4000000 in
set_option maxRecDepth 100000 in
theorem at_0 (g : Nat) (w : World) : Calls Try.prog 26 #[.pointer (some ⟨g, 0, none⟩), .int .i64 0] w fun e w' => e = .returned (.tuple #[.pointer (some ⟨g, 0, none⟩), .int .u32 7]) ∧ w = w' := by
  go_enter Try.func26, Try.ntmps26
  go_wp2
  go_ret2
  exact ⟨rfl, rfl⟩
set_option maxHeartbeats 4000000 in
set_option maxRecDepth 100000 in
theorem at_2 (g : Nat) (w : World) : Calls Try.prog 26 #[.pointer (some ⟨g, 0, none⟩), .int .i64 2] w fun e w' => e = .returned (.tuple #[.pointer (some ⟨g, 1, none⟩), .int .u32 4294967047]) ∧ w = w' := by
  go_enter Try.func26, Try.ntmps26
  go_wp2
  go_ret2
  exact ⟨rfl, rfl⟩
set_option maxHeartbeats 4000000 in
set_option maxRecDepth 100000 in
theorem at_8 (g : Nat) (w : World) : Calls Try.prog 26 #[.pointer (some ⟨g, 0, none⟩), .int .i64 8] w fun e w' => e = .returned (.tuple #[.pointer (some ⟨g, 2, none⟩), .int .u32 0]) ∧ w = w' := by
  go_enter Try.func26, Try.ntmps26
  go_wp2
  go_ret2
  exact ⟨rfl, rfl⟩
set_option maxHeartbeats 4000000 in
set_option maxRecDepth 100000 in
theorem at_9 (g : Nat) (w : World) : Calls Try.prog 26 #[.pointer (some ⟨g, 0, none⟩), .int .i64 9] w fun e w' => e = .returned (.tuple #[.pointer (some ⟨g, 3, none⟩), .int .u32 4294967295]) ∧ w = w' := by
  go_enter Try.func26, Try.ntmps26
  go_wp2
  go_ret2
  exact ⟨rfl, rfl⟩
set_option maxHeartbeats 4000000 in
set_option maxRecDepth 100000 in
theorem at_10 (g : Nat) (w : World) : Calls Try.prog 26 #[.pointer (some ⟨g, 0, none⟩), .int .i64 10] w fun e w' => e = .returned (.tuple #[.pointer (some ⟨g, 4, none⟩), .int .u32 4294967295]) ∧ w = w' := by
  go_enter Try.func26, Try.ntmps26
  go_wp2
  go_ret2
  exact ⟨rfl, rfl⟩
set_option maxHeartbeats 4000000 in
set_option maxRecDepth 100000 in
theorem at_11 (g : Nat) (w : World) : Calls Try.prog 26 #[.pointer (some ⟨g, 0, none⟩), .int .i64 11] w fun e w' => e = .returned (.tuple #[.pointer (some ⟨g, 5, none⟩), .int .u32 4294967295]) ∧ w = w' := by
  go_enter Try.func26, Try.ntmps26
  go_wp2
  go_ret2
  exact ⟨rfl, rfl⟩
set_option maxHeartbeats 4000000 in
set_option maxRecDepth 100000 in
theorem at_12 (g : Nat) (w : World) : Calls Try.prog 26 #[.pointer (some ⟨g, 0, none⟩), .int .i64 12] w fun e w' => e = .returned (.tuple #[.pointer (some ⟨g, 6, none⟩), .int .u32 65299]) ∧ w = w' := by
  go_enter Try.func26, Try.ntmps26
  go_wp2
  go_ret2
  exact ⟨rfl, rfl⟩
set_option maxHeartbeats 4000000 in
set_option maxRecDepth 100000 in
theorem at_13 (g : Nat) (w : World) : Calls Try.prog 26 #[.pointer (some ⟨g, 0, none⟩), .int .i64 13] w fun e w' => e = .returned (.tuple #[.pointer (some ⟨g, 7, none⟩), .int .u32 768]) ∧ w = w' := by
  go_enter Try.func26, Try.ntmps26
  go_wp2
  go_ret2
  exact ⟨rfl, rfl⟩
set_option maxHeartbeats 4000000 in
set_option maxRecDepth 100000 in
theorem at_14 (g : Nat) (w : World) : Calls Try.prog 26 #[.pointer (some ⟨g, 0, none⟩), .int .i64 14] w fun e w' => e = .returned (.tuple #[.pointer (some ⟨g, 8, none⟩), .int .u32 4294967295]) ∧ w = w' := by
  go_enter Try.func26, Try.ntmps26
  go_wp2
  go_ret2
  exact ⟨rfl, rfl⟩
set_option maxHeartbeats 4000000 in
set_option maxRecDepth 100000 in
theorem at_other (g : Nat) (r : Int) (ho : other r) (w : World) : Calls Try.prog 26 #[.pointer (some ⟨g, 0, none⟩), .int .i64 r] w fun e w' => e = .returned (.tuple #[.pointer none, .int .u32 0]) ∧ w = w' := by
  obtain ⟨h0, h2, h8, h9, h10, h11, h12, h13, h14⟩ := ho
  go_enter Try.func26, Try.ntmps26
  go_wp2
  go_ret2
  exact ⟨rfl, rfl⟩
set_option maxHeartbeats 4000000 in
set_option maxRecDepth 100000 in
theorem read_0 (c0 c1 c2 c3 c4 c5 c6 c7 c8 : Int) (w : World) : Calls Try.prog 10 #[regs c0 c1 c2 c3 c4 c5 c6 c7 c8, .int .i64 0] w fun e w' => e = .returned (.int .u32 c0) ∧ ∃ o1, w' = w.alloc o1 := by
  go_enter Try.func10, Try.ntmps10
  go_wp2_with (go_at_call 26; (with_reducible refine (at_0 _ _).mono ?_); rintro e w' ⟨rfl, rfl⟩)
  go_ret
  exact ⟨rfl, _, rfl⟩
set_option maxHeartbeats 4000000 in
set_option maxRecDepth 100000 in
theorem read_2 (c0 c1 c2 c3 c4 c5 c6 c7 c8 : Int) (w : World) : Calls Try.prog 10 #[regs c0 c1 c2 c3 c4 c5 c6 c7 c8, .int .i64 2] w fun e w' => e = .returned (.int .u32 c1) ∧ ∃ o1, w' = w.alloc o1 := by
  go_enter Try.func10, Try.ntmps10
  go_wp2_with (go_at_call 26; (with_reducible refine (at_2 _ _).mono ?_); rintro e w' ⟨rfl, rfl⟩)
  go_ret
  exact ⟨rfl, _, rfl⟩
set_option maxHeartbeats 4000000 in
set_option maxRecDepth 100000 in
theorem read_8 (c0 c1 c2 c3 c4 c5 c6 c7 c8 : Int) (w : World) : Calls Try.prog 10 #[regs c0 c1 c2 c3 c4 c5 c6 c7 c8, .int .i64 8] w fun e w' => e = .returned (.int .u32 c2) ∧ ∃ o1, w' = w.alloc o1 := by
  go_enter Try.func10, Try.ntmps10
  go_wp2_with (go_at_call 26; (with_reducible refine (at_8 _ _).mono ?_); rintro e w' ⟨rfl, rfl⟩)
  go_ret
  exact ⟨rfl, _, rfl⟩
set_option maxHeartbeats 4000000 in
set_option maxRecDepth 100000 in
theorem read_9 (c0 c1 c2 c3 c4 c5 c6 c7 c8 : Int) (w : World) : Calls Try.prog 10 #[regs c0 c1 c2 c3 c4 c5 c6 c7 c8, .int .i64 9] w fun e w' => e = .returned (.int .u32 c3) ∧ ∃ o1, w' = w.alloc o1 := by
  go_enter Try.func10, Try.ntmps10
  go_wp2_with (go_at_call 26; (with_reducible refine (at_9 _ _).mono ?_); rintro e w' ⟨rfl, rfl⟩)
  go_ret
  exact ⟨rfl, _, rfl⟩
set_option maxHeartbeats 4000000 in
set_option maxRecDepth 100000 in
theorem read_10 (c0 c1 c2 c3 c4 c5 c6 c7 c8 : Int) (w : World) : Calls Try.prog 10 #[regs c0 c1 c2 c3 c4 c5 c6 c7 c8, .int .i64 10] w fun e w' => e = .returned (.int .u32 c4) ∧ ∃ o1, w' = w.alloc o1 := by
  go_enter Try.func10, Try.ntmps10
  go_wp2_with (go_at_call 26; (with_reducible refine (at_10 _ _).mono ?_); rintro e w' ⟨rfl, rfl⟩)
  go_ret
  exact ⟨rfl, _, rfl⟩
set_option maxHeartbeats 4000000 in
set_option maxRecDepth 100000 in
theorem read_11 (c0 c1 c2 c3 c4 c5 c6 c7 c8 : Int) (w : World) : Calls Try.prog 10 #[regs c0 c1 c2 c3 c4 c5 c6 c7 c8, .int .i64 11] w fun e w' => e = .returned (.int .u32 c5) ∧ ∃ o1, w' = w.alloc o1 := by
  go_enter Try.func10, Try.ntmps10
  go_wp2_with (go_at_call 26; (with_reducible refine (at_11 _ _).mono ?_); rintro e w' ⟨rfl, rfl⟩)
  go_ret
  exact ⟨rfl, _, rfl⟩
set_option maxHeartbeats 4000000 in
set_option maxRecDepth 100000 in
theorem read_12 (c0 c1 c2 c3 c4 c5 c6 c7 c8 : Int) (w : World) : Calls Try.prog 10 #[regs c0 c1 c2 c3 c4 c5 c6 c7 c8, .int .i64 12] w fun e w' => e = .returned (.int .u32 c6) ∧ ∃ o1, w' = w.alloc o1 := by
  go_enter Try.func10, Try.ntmps10
  go_wp2_with (go_at_call 26; (with_reducible refine (at_12 _ _).mono ?_); rintro e w' ⟨rfl, rfl⟩)
  go_ret
  exact ⟨rfl, _, rfl⟩
set_option maxHeartbeats 4000000 in
set_option maxRecDepth 100000 in
theorem read_13 (c0 c1 c2 c3 c4 c5 c6 c7 c8 : Int) (w : World) : Calls Try.prog 10 #[regs c0 c1 c2 c3 c4 c5 c6 c7 c8, .int .i64 13] w fun e w' => e = .returned (.int .u32 c7) ∧ ∃ o1, w' = w.alloc o1 := by
  go_enter Try.func10, Try.ntmps10
  go_wp2_with (go_at_call 26; (with_reducible refine (at_13 _ _).mono ?_); rintro e w' ⟨rfl, rfl⟩)
  go_ret
  exact ⟨rfl, _, rfl⟩
set_option maxHeartbeats 4000000 in
set_option maxRecDepth 100000 in
theorem read_14 (c0 c1 c2 c3 c4 c5 c6 c7 c8 : Int) (w : World) : Calls Try.prog 10 #[regs c0 c1 c2 c3 c4 c5 c6 c7 c8, .int .i64 14] w fun e w' => e = .returned (.int .u32 c8) ∧ ∃ o1, w' = w.alloc o1 := by
  go_enter Try.func10, Try.ntmps10
  go_wp2_with (go_at_call 26; (with_reducible refine (at_14 _ _).mono ?_); rintro e w' ⟨rfl, rfl⟩)
  go_ret
  exact ⟨rfl, _, rfl⟩
set_option maxHeartbeats 4000000 in
set_option maxRecDepth 100000 in
theorem read_other (c0 c1 c2 c3 c4 c5 c6 c7 c8 r : Int) (ho : other r) (w : World) : Calls Try.prog 10 #[regs c0 c1 c2 c3 c4 c5 c6 c7 c8, .int .i64 r] w fun e w' => e = .returned (.int .u32 0) ∧ ∃ o1, w' = w.alloc o1 := by
  have HO := Aside0.mk ho
  go_enter Try.func10, Try.ntmps10
  go_wp2_with (go_at_call 26; (with_reducible refine (at_other _ _ HO.out _).mono ?_); rintro e w' ⟨rfl, rfl⟩)
  go_ret
  exact ⟨rfl, _, rfl⟩
set_option maxHeartbeats 4000000 in
set_option maxRecDepth 100000 in
theorem write_0 (c0 c1 c2 c3 c4 c5 c6 c7 c8 v : Int) (w : World) : Calls Try.prog 12 #[regs c0 c1 c2 c3 c4 c5 c6 c7 c8, .int .i64 0, .int .u32 v] w fun e w' => e = .returned (regs (Go.bits .or .u32 (Go.bits .andNot .u32 c0 7) (Go.bits .and .u32 v 7)) c1 c2 c3 c4 c5 c6 c7 c8) ∧ ∃ o1 o2, w' = (w.alloc o1).alloc o2 := by
  go_enter Try.func12, Try.ntmps12
  go_wp2_with (go_at_call 26; (with_reducible refine (at_0 _ _).mono ?_); rintro e w' ⟨rfl, rfl⟩)
  exact bodyPost_ret (v := regs _ _ _ _ _ _ _ _ _) (by simp [results, Try.results12, go_sem]) rfl ⟨rfl, _, _, rfl⟩
set_option maxHeartbeats 4000000 in
set_option maxRecDepth 100000 in
theorem write_2 (c0 c1 c2 c3 c4 c5 c6 c7 c8 v : Int) (w : World) : Calls Try.prog 12 #[regs c0 c1 c2 c3 c4 c5 c6 c7 c8, .int .i64 2, .int .u32 v] w fun e w' => e = .returned (regs c0 (Go.bits .or .u32 (Go.bits .andNot .u32 c1 4294967047) (Go.bits .and .u32 v 4294967047)) c2 c3 c4 c5 c6 c7 c8) ∧ ∃ o1 o2, w' = (w.alloc o1).alloc o2 := by
  go_enter Try.func12, Try.ntmps12
  go_wp2_with (go_at_call 26; (with_reducible refine (at_2 _ _).mono ?_); rintro e w' ⟨rfl, rfl⟩)
  exact bodyPost_ret (v := regs _ _ _ _ _ _ _ _ _) (by simp [results, Try.results12, go_sem]) rfl ⟨rfl, _, _, rfl⟩
set_option maxHeartbeats 4000000 in
set_option maxRecDepth 100000 in
theorem write_8 (c0 c1 c2 c3 c4 c5 c6 c7 c8 v : Int) (w : World) : Calls Try.prog 12 #[regs c0 c1 c2 c3 c4 c5 c6 c7 c8, .int .i64 8, .int .u32 v] w fun e w' => e = .returned (regs c0 c1 (Go.bits .or .u32 (Go.bits .andNot .u32 c2 0) (Go.bits .and .u32 v 0)) c3 c4 c5 c6 c7 c8) ∧ ∃ o1 o2, w' = (w.alloc o1).alloc o2 := by
  go_enter Try.func12, Try.ntmps12
  go_wp2_with (go_at_call 26; (with_reducible refine (at_8 _ _).mono ?_); rintro e w' ⟨rfl, rfl⟩)
  exact bodyPost_ret (v := regs _ _ _ _ _ _ _ _ _) (by simp [results, Try.results12, go_sem]) rfl ⟨rfl, _, _, rfl⟩
set_option maxHeartbeats 4000000 in
set_option maxRecDepth 100000 in
theorem write_9 (c0 c1 c2 c3 c4 c5 c6 c7 c8 v : Int) (w : World) : Calls Try.prog 12 #[regs c0 c1 c2 c3 c4 c5 c6 c7 c8, .int .i64 9, .int .u32 v] w fun e w' => e = .returned (regs c0 c1 c2 (Go.bits .or .u32 (Go.bits .andNot .u32 c3 4294967295) (Go.bits .and .u32 v 4294967295)) c4 c5 c6 c7 c8) ∧ ∃ o1 o2, w' = (w.alloc o1).alloc o2 := by
  go_enter Try.func12, Try.ntmps12
  go_wp2_with (go_at_call 26; (with_reducible refine (at_9 _ _).mono ?_); rintro e w' ⟨rfl, rfl⟩)
  exact bodyPost_ret (v := regs _ _ _ _ _ _ _ _ _) (by simp [results, Try.results12, go_sem]) rfl ⟨rfl, _, _, rfl⟩
set_option maxHeartbeats 4000000 in
set_option maxRecDepth 100000 in
theorem write_10 (c0 c1 c2 c3 c4 c5 c6 c7 c8 v : Int) (w : World) : Calls Try.prog 12 #[regs c0 c1 c2 c3 c4 c5 c6 c7 c8, .int .i64 10, .int .u32 v] w fun e w' => e = .returned (regs c0 c1 c2 c3 (Go.bits .or .u32 (Go.bits .andNot .u32 c4 4294967295) (Go.bits .and .u32 v 4294967295)) c5 c6 c7 c8) ∧ ∃ o1 o2, w' = (w.alloc o1).alloc o2 := by
  go_enter Try.func12, Try.ntmps12
  go_wp2_with (go_at_call 26; (with_reducible refine (at_10 _ _).mono ?_); rintro e w' ⟨rfl, rfl⟩)
  exact bodyPost_ret (v := regs _ _ _ _ _ _ _ _ _) (by simp [results, Try.results12, go_sem]) rfl ⟨rfl, _, _, rfl⟩
set_option maxHeartbeats 4000000 in
set_option maxRecDepth 100000 in
theorem write_11 (c0 c1 c2 c3 c4 c5 c6 c7 c8 v : Int) (w : World) : Calls Try.prog 12 #[regs c0 c1 c2 c3 c4 c5 c6 c7 c8, .int .i64 11, .int .u32 v] w fun e w' => e = .returned (regs c0 c1 c2 c3 c4 (Go.bits .or .u32 (Go.bits .andNot .u32 c5 4294967295) (Go.bits .and .u32 v 4294967295)) c6 (Go.bits .andNot .u32 c7 32768) c8) ∧ ∃ o1 o2, w' = (w.alloc o1).alloc o2 := by
  go_enter Try.func12, Try.ntmps12
  go_wp2_with (go_at_call 26; (with_reducible refine (at_11 _ _).mono ?_); rintro e w' ⟨rfl, rfl⟩)
  exact bodyPost_ret (v := regs _ _ _ _ _ _ _ _ _) (by simp [results, Try.results12, go_sem]) rfl ⟨rfl, _, _, rfl⟩
set_option maxHeartbeats 4000000 in
set_option maxRecDepth 100000 in
theorem write_12 (c0 c1 c2 c3 c4 c5 c6 c7 c8 v : Int) (w : World) : Calls Try.prog 12 #[regs c0 c1 c2 c3 c4 c5 c6 c7 c8, .int .i64 12, .int .u32 v] w fun e w' => e = .returned (regs c0 c1 c2 c3 c4 c5 (Go.bits .or .u32 (Go.bits .andNot .u32 c6 65299) (Go.bits .and .u32 v 65299)) c7 c8) ∧ ∃ o1 o2, w' = (w.alloc o1).alloc o2 := by
  go_enter Try.func12, Try.ntmps12
  go_wp2_with (go_at_call 26; (with_reducible refine (at_12 _ _).mono ?_); rintro e w' ⟨rfl, rfl⟩)
  exact bodyPost_ret (v := regs _ _ _ _ _ _ _ _ _) (by simp [results, Try.results12, go_sem]) rfl ⟨rfl, _, _, rfl⟩
set_option maxHeartbeats 4000000 in
set_option maxRecDepth 100000 in
theorem write_13 (c0 c1 c2 c3 c4 c5 c6 c7 c8 v : Int) (w : World) : Calls Try.prog 12 #[regs c0 c1 c2 c3 c4 c5 c6 c7 c8, .int .i64 13, .int .u32 v] w fun e w' => e = .returned (regs c0 c1 c2 c3 c4 c5 c6 (Go.bits .or .u32 (Go.bits .andNot .u32 c7 768) (Go.bits .and .u32 v 768)) c8) ∧ ∃ o1 o2, w' = (w.alloc o1).alloc o2 := by
  go_enter Try.func12, Try.ntmps12
  go_wp2_with (go_at_call 26; (with_reducible refine (at_13 _ _).mono ?_); rintro e w' ⟨rfl, rfl⟩)
  exact bodyPost_ret (v := regs _ _ _ _ _ _ _ _ _) (by simp [results, Try.results12, go_sem]) rfl ⟨rfl, _, _, rfl⟩
set_option maxHeartbeats 4000000 in
set_option maxRecDepth 100000 in
theorem write_14 (c0 c1 c2 c3 c4 c5 c6 c7 c8 v : Int) (w : World) : Calls Try.prog 12 #[regs c0 c1 c2 c3 c4 c5 c6 c7 c8, .int .i64 14, .int .u32 v] w fun e w' => e = .returned (regs c0 c1 c2 c3 c4 c5 c6 c7 (Go.bits .or .u32 (Go.bits .andNot .u32 c8 4294967295) (Go.bits .and .u32 v 4294967295))) ∧ ∃ o1 o2, w' = (w.alloc o1).alloc o2 := by
  go_enter Try.func12, Try.ntmps12
  go_wp2_with (go_at_call 26; (with_reducible refine (at_14 _ _).mono ?_); rintro e w' ⟨rfl, rfl⟩)
  exact bodyPost_ret (v := regs _ _ _ _ _ _ _ _ _) (by simp [results, Try.results12, go_sem]) rfl ⟨rfl, _, _, rfl⟩
set_option maxHeartbeats 4000000 in
set_option maxRecDepth 100000 in
theorem write_other (c0 c1 c2 c3 c4 c5 c6 c7 c8 r v : Int) (ho : other r) (w : World) : Calls Try.prog 12 #[regs c0 c1 c2 c3 c4 c5 c6 c7 c8, .int .i64 r, .int .u32 v] w fun e w' => e = .returned (regs c0 c1 c2 c3 c4 c5 c6 c7 c8) ∧ ∃ o1 o2, w' = (w.alloc o1).alloc o2 := by
  have HO := Aside0.mk ho
  go_enter Try.func12, Try.ntmps12
  go_wp2_with (go_at_call 26; (with_reducible refine (at_other _ _ HO.out _).mono ?_); rintro e w' ⟨rfl, rfl⟩)
  exact bodyPost_ret (v := regs _ _ _ _ _ _ _ _ _) (by simp [results, Try.results12, go_sem]) rfl ⟨rfl, _, _, rfl⟩
end Go.Proofs.Yticibpginpkbfaa.Con
