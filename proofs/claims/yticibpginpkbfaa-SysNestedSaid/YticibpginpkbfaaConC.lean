/- The walks of the document's answer for package cp0: Write, Raise, Return and Bad, over the contracts of what they call. Conditions: those contracts, as premises. -/
import Derived.Test.YticibpginpkbfaaConA
namespace Go.Proofs.Yticibpginpkbfaa.Con
open Go.RowKit Go.Proofs.Yticibpginpkbfaa.Fun Go.Proofs.Yticibpginpkbfaa.Bits Go.Proofs.YticibpginpkbfaaW.PrintWords Go.Proofs.YticibpginpkbfaaW.PrintLast Go.Proofs.YticibpginpkbfaaW.PrintMore
set_option linter.unusedVariables false
set_option linter.unusedSimpArgs false
/-- Mix answers m; With answers m; Bit answers b. -/
abbrev MixIs (x v f t m : Int) : Prop := ∀ w : World, Calls Try.prog 27 #[.int .u32 x, .int .u32 v, .int .i64 f, .int .i64 t] w fun e w' => e = .returned (.int .u32 m) ∧ w = w'
abbrev WithIs (x n : Int) (b : Bool) (m : Int) : Prop := ∀ w : World, Calls Try.prog 28 #[.int .u32 x, .int .i64 n, .bool b] w fun e w' => e = .returned (.int .u32 m) ∧ w = w'
abbrev BitIs (x n : Int) (b : Bool) : Prop := ∀ w : World, Calls Try.prog 29 #[.int .u32 x, .int .i64 n] w fun e w' => e = .returned (.bool b) ∧ w = w'
set_option maxHeartbeats 4000000 in
set_option maxRecDepth 100000 in
theorem rwrite_0 (c0 c1 c2 c3 c4 c5 c6 c7 c8 v m : Int) (C0 : MixIs c0 v 0 2 m) (w : World) : Calls Try.prog 13 #[regs c0 c1 c2 c3 c4 c5 c6 c7 c8, .int .i64 0, .int .u32 v] w fun e w' => e = .returned (regs m c1 c2 c3 c4 c5 c6 c7 c8) ∧ Below w.heap.size w w' := by
  have H0 := Aside0.mk C0
  clear C0
  go_enter Try.func13, Try.ntmps13
  go_wp2_with (first | (go_at_call 27; (with_reducible refine (H0.out _).mono ?_); rintro e w' ⟨rfl, rfl⟩))
  exact bodyPost_ret (v := regs _ _ _ _ _ _ _ _ _) (by simp [results, Try.results13, go_sem]) rfl ⟨rfl, by repeat (first | exact Below.refl _ _ | apply pw_below_drewN | apply below_drew | refine Below.alloc ?_ (by simp) _)⟩
set_option maxHeartbeats 4000000 in
set_option maxRecDepth 100000 in
theorem rwrite_2 (c0 c1 c2 c3 c4 c5 c6 c7 c8 v n m : Int) (C0 : MixIs c1 v 0 2 n) (C1 : MixIs n v 8 31 m) (w : World) : Calls Try.prog 13 #[regs c0 c1 c2 c3 c4 c5 c6 c7 c8, .int .i64 2, .int .u32 v] w fun e w' => e = .returned (regs c0 m c2 c3 c4 c5 c6 c7 c8) ∧ Below w.heap.size w w' := by
  have H0 := Aside0.mk C0
  clear C0
  have H1 := Aside0.mk C1
  clear C1
  go_enter Try.func13, Try.ntmps13
  go_wp2_with (first | (go_at_call 27; (with_reducible refine (H0.out _).mono ?_); rintro e w' ⟨rfl, rfl⟩) | (go_at_call 27; (with_reducible refine (H1.out _).mono ?_); rintro e w' ⟨rfl, rfl⟩))
  exact bodyPost_ret (v := regs _ _ _ _ _ _ _ _ _) (by simp [results, Try.results13, go_sem]) rfl ⟨rfl, by repeat (first | exact Below.refl _ _ | apply pw_below_drewN | apply below_drew | refine Below.alloc ?_ (by simp) _)⟩
set_option maxHeartbeats 4000000 in
set_option maxRecDepth 100000 in
theorem rwrite_8 (c0 c1 c2 c3 c4 c5 c6 c7 c8 v : Int)  (w : World) : Calls Try.prog 13 #[regs c0 c1 c2 c3 c4 c5 c6 c7 c8, .int .i64 8, .int .u32 v] w fun e w' => e = .returned (regs c0 c1 c2 c3 c4 c5 c6 c7 c8) ∧ Below w.heap.size w w' := by
  go_enter Try.func13, Try.ntmps13
  go_wp2
  exact bodyPost_ret (v := regs _ _ _ _ _ _ _ _ _) (by simp [results, Try.results13, go_sem]) rfl ⟨rfl, by repeat (first | exact Below.refl _ _ | apply pw_below_drewN | apply below_drew | refine Below.alloc ?_ (by simp) _)⟩
set_option maxHeartbeats 4000000 in
set_option maxRecDepth 100000 in
theorem rwrite_9 (c0 c1 c2 c3 c4 c5 c6 c7 c8 v : Int)  (w : World) : Calls Try.prog 13 #[regs c0 c1 c2 c3 c4 c5 c6 c7 c8, .int .i64 9, .int .u32 v] w fun e w' => e = .returned (regs c0 c1 c2 v c4 c5 c6 c7 c8) ∧ Below w.heap.size w w' := by
  go_enter Try.func13, Try.ntmps13
  go_wp2
  exact bodyPost_ret (v := regs _ _ _ _ _ _ _ _ _) (by simp [results, Try.results13, go_sem]) rfl ⟨rfl, by repeat (first | exact Below.refl _ _ | apply pw_below_drewN | apply below_drew | refine Below.alloc ?_ (by simp) _)⟩
set_option maxHeartbeats 4000000 in
set_option maxRecDepth 100000 in
theorem rwrite_10 (c0 c1 c2 c3 c4 c5 c6 c7 c8 v : Int)  (w : World) : Calls Try.prog 13 #[regs c0 c1 c2 c3 c4 c5 c6 c7 c8, .int .i64 10, .int .u32 v] w fun e w' => e = .returned (regs c0 c1 c2 c3 v c5 c6 c7 c8) ∧ Below w.heap.size w w' := by
  go_enter Try.func13, Try.ntmps13
  go_wp2
  exact bodyPost_ret (v := regs _ _ _ _ _ _ _ _ _) (by simp [results, Try.results13, go_sem]) rfl ⟨rfl, by repeat (first | exact Below.refl _ _ | apply pw_below_drewN | apply below_drew | refine Below.alloc ?_ (by simp) _)⟩
set_option maxHeartbeats 4000000 in
set_option maxRecDepth 100000 in
theorem rwrite_11 (c0 c1 c2 c3 c4 c5 c6 c7 c8 v m : Int) (C0 : WithIs c7 15 false m) (w : World) : Calls Try.prog 13 #[regs c0 c1 c2 c3 c4 c5 c6 c7 c8, .int .i64 11, .int .u32 v] w fun e w' => e = .returned (regs c0 c1 c2 c3 c4 v c6 m c8) ∧ Below w.heap.size w w' := by
  have H0 := Aside0.mk C0
  clear C0
  go_enter Try.func13, Try.ntmps13
  go_wp2_with (first | (go_at_call 28; (with_reducible refine (H0.out _).mono ?_); rintro e w' ⟨rfl, rfl⟩))
  exact bodyPost_ret (v := regs _ _ _ _ _ _ _ _ _) (by simp [results, Try.results13, go_sem]) rfl ⟨rfl, by repeat (first | exact Below.refl _ _ | apply pw_below_drewN | apply below_drew | refine Below.alloc ?_ (by simp) _)⟩
set_option maxHeartbeats 4000000 in
set_option maxRecDepth 100000 in
theorem rwrite_12 (c0 c1 c2 c3 c4 c5 c6 c7 c8 v n o m : Int) (C0 : MixIs c6 v 0 1 n) (C1 : MixIs n v 4 4 o) (C2 : MixIs o v 8 15 m) (w : World) : Calls Try.prog 13 #[regs c0 c1 c2 c3 c4 c5 c6 c7 c8, .int .i64 12, .int .u32 v] w fun e w' => e = .returned (regs c0 c1 c2 c3 c4 c5 m c7 c8) ∧ Below w.heap.size w w' := by
  have H0 := Aside0.mk C0
  clear C0
  have H1 := Aside0.mk C1
  clear C1
  have H2 := Aside0.mk C2
  clear C2
  go_enter Try.func13, Try.ntmps13
  go_wp2_with (first | (go_at_call 27; (with_reducible refine (H0.out _).mono ?_); rintro e w' ⟨rfl, rfl⟩) | (go_at_call 27; (with_reducible refine (H1.out _).mono ?_); rintro e w' ⟨rfl, rfl⟩) | (go_at_call 27; (with_reducible refine (H2.out _).mono ?_); rintro e w' ⟨rfl, rfl⟩))
  exact bodyPost_ret (v := regs _ _ _ _ _ _ _ _ _) (by simp [results, Try.results13, go_sem]) rfl ⟨rfl, by repeat (first | exact Below.refl _ _ | apply pw_below_drewN | apply below_drew | refine Below.alloc ?_ (by simp) _)⟩
set_option maxHeartbeats 4000000 in
set_option maxRecDepth 100000 in
theorem rwrite_13 (c0 c1 c2 c3 c4 c5 c6 c7 c8 v m : Int) (C0 : MixIs c7 v 8 9 m) (w : World) : Calls Try.prog 13 #[regs c0 c1 c2 c3 c4 c5 c6 c7 c8, .int .i64 13, .int .u32 v] w fun e w' => e = .returned (regs c0 c1 c2 c3 c4 c5 c6 m c8) ∧ Below w.heap.size w w' := by
  have H0 := Aside0.mk C0
  clear C0
  go_enter Try.func13, Try.ntmps13
  go_wp2_with (first | (go_at_call 27; (with_reducible refine (H0.out _).mono ?_); rintro e w' ⟨rfl, rfl⟩))
  exact bodyPost_ret (v := regs _ _ _ _ _ _ _ _ _) (by simp [results, Try.results13, go_sem]) rfl ⟨rfl, by repeat (first | exact Below.refl _ _ | apply pw_below_drewN | apply below_drew | refine Below.alloc ?_ (by simp) _)⟩
set_option maxHeartbeats 4000000 in
set_option maxRecDepth 100000 in
theorem rwrite_14 (c0 c1 c2 c3 c4 c5 c6 c7 c8 v : Int)  (w : World) : Calls Try.prog 13 #[regs c0 c1 c2 c3 c4 c5 c6 c7 c8, .int .i64 14, .int .u32 v] w fun e w' => e = .returned (regs c0 c1 c2 c3 c4 c5 c6 c7 v) ∧ Below w.heap.size w w' := by
  go_enter Try.func13, Try.ntmps13
  go_wp2
  exact bodyPost_ret (v := regs _ _ _ _ _ _ _ _ _) (by simp [results, Try.results13, go_sem]) rfl ⟨rfl, by repeat (first | exact Below.refl _ _ | apply pw_below_drewN | apply below_drew | refine Below.alloc ?_ (by simp) _)⟩
set_option maxHeartbeats 4000000 in
set_option maxRecDepth 100000 in
theorem rwrite_other (c0 c1 c2 c3 c4 c5 c6 c7 c8 r v : Int) (ho : (r == 0) = false ∧ (r == 2) = false ∧ (r == 9) = false ∧ (r == 10) = false ∧ (r == 11) = false ∧ (r == 12) = false ∧ (r == 13) = false ∧ (r == 14) = false) (w : World) : Calls Try.prog 13 #[regs c0 c1 c2 c3 c4 c5 c6 c7 c8, .int .i64 r, .int .u32 v] w fun e w' => e = .returned (regs c0 c1 c2 c3 c4 c5 c6 c7 c8) ∧ Below w.heap.size w w' := by
  obtain ⟨h0, h2, h9, h10, h11, h12, h13, h14⟩ := ho
  go_enter Try.func13, Try.ntmps13
  go_wp2
  exact bodyPost_ret (v := regs _ _ _ _ _ _ _ _ _) (by simp [results, Try.results13, go_sem]) rfl ⟨rfl, by repeat (first | exact Below.refl _ _ | apply pw_below_drewN | apply below_drew | refine Below.alloc ?_ (by simp) _)⟩
set_option maxHeartbeats 4000000 in
set_option maxRecDepth 100000 in
theorem rbad_f (c0 c1 c2 c3 c4 c5 c6 c7 c8 a : Int) (w : World) : Calls Try.prog 19 #[regs c0 c1 c2 c3 c4 c5 c6 c7 c8, .int .u32 a, .bool false] w fun e w' => e = .returned (regs c0 c1 a c3 c4 c5 c6 c7 c8) ∧ Below w.heap.size w w' := by
  go_enter Try.func19, Try.ntmps19
  go_wp2
  exact bodyPost_ret (v := regs _ _ _ _ _ _ _ _ _) (by simp [results, Try.results19, go_sem]) rfl ⟨rfl, by repeat (first | exact Below.refl _ _ | apply pw_below_drewN | apply below_drew | refine Below.alloc ?_ (by simp) _)⟩
set_option maxHeartbeats 4000000 in
set_option maxRecDepth 100000 in
theorem rbad_t (c0 c1 c2 c3 c4 c5 c6 c7 c8 a m : Int) (C0 : MixIs c4 a 8 31 m) (w : World) : Calls Try.prog 19 #[regs c0 c1 c2 c3 c4 c5 c6 c7 c8, .int .u32 a, .bool true] w fun e w' => e = .returned (regs c0 c1 a c3 m c5 c6 c7 c8) ∧ Below w.heap.size w w' := by
  have H0 := Aside0.mk C0
  clear C0
  go_enter Try.func19, Try.ntmps19
  go_wp2_with (first | (go_at_call 27; (with_reducible refine (H0.out _).mono ?_); rintro e w' ⟨rfl, rfl⟩))
  exact bodyPost_ret (v := regs _ _ _ _ _ _ _ _ _) (by simp [results, Try.results19, go_sem]) rfl ⟨rfl, by repeat (first | exact Below.refl _ _ | apply pw_below_drewN | apply below_drew | refine Below.alloc ?_ (by simp) _)⟩
set_option maxHeartbeats 4000000 in
set_option maxRecDepth 100000 in
theorem rreturn_c (c0 c1 c2 c3 c4 c5 c6 c7 c8 m : Int) (C0 : WithIs c6 1 false m) (w : World) : Calls Try.prog 17 #[regs c0 c1 c2 c3 c4 c5 c6 c7 c8] w fun e w' => e = .returned (.tuple #[regs c0 c1 c2 c3 c4 c5 m c7 c8, .int .u32 c8]) ∧ Below w.heap.size w w' := by
  have H0 := Aside0.mk C0
  clear C0
  go_enter Try.func17, Try.ntmps17
  go_wp2_with (first | (go_at_call 28; (with_reducible refine (H0.out _).mono ?_); rintro e w' ⟨rfl, rfl⟩))
  go_region
  go_wp2
  exact bodyPost_ret (v := .tuple #[regs _ _ _ _ _ _ _ _ _, .int .u32 _]) (by simp [results, Try.results17, go_sem]) rfl ⟨rfl, by repeat (first | exact Below.refl _ _ | apply pw_below_drewN | apply below_drew | refine Below.alloc ?_ (by simp) _)⟩
end Go.Proofs.Yticibpginpkbfaa.Con
