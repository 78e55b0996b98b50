/- The walk of SysTicks: whatever the registers and the lines, the call answers true and leaves what lay in memory. Conditions: words are below 2^32, as the row has them. -/
import Derived.Test.YticibpginpkbfaaPairB
import Derived.Test.YticibpginpkbfaaEqOf
import Derived.Test.YticibpginpkbfaaHeld
import Derived.Test.YticibpginpkbfaaFix
namespace Go.Proofs.Yticibpginpkbfaa.LawB
open Go.RowKit Go.Proofs.Yticibpginpkbfaa.Con Go.Proofs.Yticibpginpkbfaa.EqOf Go.Proofs.Yticibpginpkbfaa.Pair Go.Proofs.Yticibpginpkbfaa.Held Go.Proofs.Yticibpginpkbfaa.Fix Go.Proofs.YticibpginpkbfaaW.PrintWords Go.Proofs.YticibpginpkbfaaW.PrintLast Go.Proofs.YticibpginpkbfaaW.PrintMore
set_option linter.unusedVariables false
set_option linter.unusedSimpArgs false
set_option maxHeartbeats 4000000 in
set_option maxRecDepth 100000 in
theorem ticks_any (c0 c1 c2 c3 c4 c5 c6 c7 c8 : Int) (l m0 m1 m2 m3 m4 m5 m6 m7 m8 : Int) (b u : Bool)
    (ht : Both 20 21 #[regs c0 c1 c2 c3 c4 c5 c6 c7 c8, .int .u32 l] (regs m0 m1 m2 m3 m4 m5 m6 m7 m8)) (hp : Both 22 23 #[regs c0 c1 c2 c3 c4 c5 c6 c7 c8] (.bool b)) (hu : Both 24 25 #[regs c0 c1 c2 c3 c4 c5 c6 c7 c8] (.bool u)) (w : World) :
    Calls Try.prog 5 #[regs c0 c1 c2 c3 c4 c5 c6 c7 c8, .int .u32 l] w fun e w' => e = .returned (.bool true) ∧ Below w.heap.size w w' := by
  have R1 := Aside0.mk ht.1
  have R2 := Aside0.mk ht.2
  have W1 := Aside0.mk hp.1
  have W2 := Aside0.mk hp.2
  have U1 := Aside0.mk hu.1
  have U2 := Aside0.mk hu.2
  clear ht hp hu
  have hq := eq24 m0 m1 m2 m3 m4 m5 m6 m7 m8
  go_enter Try.func5, Try.ntmps5
  go_wp2
  go_region_held3 (fun w' => (w'.cell? ⟨w.heap.size, 0, none⟩ = some (.int .u32 c0) ∧ w'.cell? ⟨w.heap.size, 1, none⟩ = some (.int .u32 c1) ∧ w'.cell? ⟨w.heap.size, 2, none⟩ = some (.int .u32 c2) ∧ w'.cell? ⟨w.heap.size, 3, none⟩ = some (.int .u32 c3) ∧ w'.cell? ⟨w.heap.size, 4, none⟩ = some (.int .u32 c4) ∧ w'.cell? ⟨w.heap.size, 5, none⟩ = some (.int .u32 c5) ∧ w'.cell? ⟨w.heap.size, 6, none⟩ = some (.int .u32 c6) ∧ w'.cell? ⟨w.heap.size, 7, none⟩ = some (.int .u32 c7) ∧ w'.cell? ⟨w.heap.size, 8, none⟩ = some (.int .u32 c8)) ∧ w.heap.size < w'.heap.size ∧ w.heap.size ≤ w'.heap.size ∧ Below w.heap.size w w')
    (first | exact drew9 (start9 w _ _ _ _ _ _ _ _ _ _) | exact keep9 (by assumption) (by assumption))
    (first | (go_at_call 9; (with_reducible refine (fixed_c _).mono ?_); rintro e w18 ⟨rfl, hb⟩) | (go_at_call 20; (with_reducible refine (R1.out _).mono ?_); rintro e w18 ⟨rfl, hb⟩) | (go_at_call 21; (with_reducible refine (R2.out _).mono ?_); rintro e w18 ⟨rfl, hb⟩) | (go_at_call 22; (with_reducible refine (W1.out _).mono ?_); rintro e w18 ⟨rfl, hb⟩) | (go_at_call 23; (with_reducible refine (W2.out _).mono ?_); rintro e w18 ⟨rfl, hb⟩) | (go_at_call 24; (with_reducible refine (U1.out _).mono ?_); rintro e w18 ⟨rfl, hb⟩) | (go_at_call 25; (with_reducible refine (U2.out _).mono ?_); rintro e w18 ⟨rfl, hb⟩))
  go_wp2
  go_ret
  exact ⟨rfl, by first | assumption | exact out9 (by assumption)⟩
theorem sysTicks (c0 c1 c2 c3 c4 c5 c6 c7 c8 l : Nat) (h : Words c0 c1 c2 c3 c4 c5 c6 c7 c8) (hl : l < 4294967296) (w : World) :
    Calls Try.prog 5 #[regs c0 c1 c2 c3 c4 c5 c6 c7 c8, .int .u32 l] w fun e w' => e = .returned (.bool true) ∧ Below w.heap.size w w' := by
  obtain ⟨m, n, _, _, ht⟩ := tick_pair _ _ _ _ _ _ _ _ _ l h hl
  obtain ⟨b, hp⟩ := pend_pair _ _ _ _ _ _ _ _ _ h
  obtain ⟨u, hu⟩ := user_pair _ _ _ _ _ _ _ _ _ h
  exact ticks_any _ _ _ _ _ _ _ _ _ _ _ _ _ _ _ _ _ _ _ _ _ ht hp hu w
end Go.Proofs.Yticibpginpkbfaa.LawB
