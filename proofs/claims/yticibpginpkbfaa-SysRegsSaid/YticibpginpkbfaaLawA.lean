/- The walk of SysRegs: whatever the registers, the number and the word, the call answers true and leaves what lay in memory. Conditions: words are below 2^32, as the row has them. -/
import Derived.Test.YticibpginpkbfaaPairA
import Derived.Test.YticibpginpkbfaaEqOf
import Derived.Test.YticibpginpkbfaaFix
import Derived.Test.YticibpginpkbfaaHeld
namespace Go.Proofs.Yticibpginpkbfaa.LawA
open Go.RowKit Go.Proofs.Yticibpginpkbfaa.Con Go.Proofs.Yticibpginpkbfaa.EqOf Go.Proofs.Yticibpginpkbfaa.Pair Go.Proofs.Yticibpginpkbfaa.Held Go.Proofs.Yticibpginpkbfaa.Fix Go.Proofs.YticibpginpkbfaaW.PrintWords Go.Proofs.YticibpginpkbfaaW.PrintLast Go.Proofs.YticibpginpkbfaaW.PrintMore
set_option linter.unusedVariables false
set_option linter.unusedSimpArgs false
set_option maxHeartbeats 4000000 in
set_option maxRecDepth 100000 in
theorem regs_any (c0 c1 c2 c3 c4 c5 c6 c7 c8 : Int) (reg v x m0 m1 m2 m3 m4 m5 m6 m7 m8 : Int)
    (hr : Both 10 11 #[regs c0 c1 c2 c3 c4 c5 c6 c7 c8, .int .i64 reg] (.int .u32 x)) (hw : Both 12 13 #[regs c0 c1 c2 c3 c4 c5 c6 c7 c8, .int .i64 reg, .int .u32 v] (regs m0 m1 m2 m3 m4 m5 m6 m7 m8)) (w : World) :
    Calls Try.prog 3 #[regs c0 c1 c2 c3 c4 c5 c6 c7 c8, .int .i64 reg, .int .u32 v] w fun e w' => e = .returned (.bool true) ∧ Below w.heap.size w w' := by
  have R1 := Aside0.mk hr.1
  have R2 := Aside0.mk hr.2
  have W1 := Aside0.mk hw.1
  have W2 := Aside0.mk hw.2
  clear hr hw
  have hq := eq24 m0 m1 m2 m3 m4 m5 m6 m7 m8
  go_enter Try.func3, Try.ntmps3
  go_wp2
  go_region_held3 (fun w' => (w'.cell? ⟨w.heap.size, 0, none⟩ = some (.int .u32 c0) ∧ w'.cell? ⟨w.heap.size, 1, none⟩ = some (.int .u32 c1) ∧ w'.cell? ⟨w.heap.size, 2, none⟩ = some (.int .u32 c2) ∧ w'.cell? ⟨w.heap.size, 3, none⟩ = some (.int .u32 c3) ∧ w'.cell? ⟨w.heap.size, 4, none⟩ = some (.int .u32 c4) ∧ w'.cell? ⟨w.heap.size, 5, none⟩ = some (.int .u32 c5) ∧ w'.cell? ⟨w.heap.size, 6, none⟩ = some (.int .u32 c6) ∧ w'.cell? ⟨w.heap.size, 7, none⟩ = some (.int .u32 c7) ∧ w'.cell? ⟨w.heap.size, 8, none⟩ = some (.int .u32 c8)) ∧ w.heap.size < w'.heap.size ∧ w.heap.size ≤ w'.heap.size ∧ Below w.heap.size w w')
    (first | exact drew9 (start9 w _ _ _ _ _ _ _ _ _ _) | exact keep9 (by assumption) (by assumption))
    (first | (go_at_call 9; (with_reducible refine (fixed_c _).mono ?_); rintro e w18 ⟨rfl, hb⟩) | (go_at_call 10; (with_reducible refine (R1.out _).mono ?_); rintro e w18 ⟨rfl, hb⟩) | (go_at_call 11; (with_reducible refine (R2.out _).mono ?_); rintro e w18 ⟨rfl, hb⟩) | (go_at_call 12; (with_reducible refine (W1.out _).mono ?_); rintro e w18 ⟨rfl, hb⟩) | (go_at_call 13; (with_reducible refine (W2.out _).mono ?_); rintro e w18 ⟨rfl, hb⟩))
  go_wp2
  go_ret
  exact ⟨rfl, by first | assumption | exact out9 (by assumption)⟩
theorem sysRegs (c0 c1 c2 c3 c4 c5 c6 c7 c8 v : Nat) (h : Words c0 c1 c2 c3 c4 c5 c6 c7 c8) (hv : v < 4294967296) (reg : Int) (w : World) :
    Calls Try.prog 3 #[regs c0 c1 c2 c3 c4 c5 c6 c7 c8, .int .i64 reg, .int .u32 v] w fun e w' => e = .returned (.bool true) ∧ Below w.heap.size w w' := by
  obtain ⟨x, _, hr⟩ := read_pair _ _ _ _ _ _ _ _ _ h reg
  obtain ⟨m0, m1, m2, m3, m4, m5, m6, m7, m8, _, hw⟩ := write_pair _ _ _ _ _ _ _ _ _ v h hv reg
  exact regs_any _ _ _ _ _ _ _ _ _ _ _ _ _ _ _ _ _ _ _ _ _ hr hw w
end Go.Proofs.Yticibpginpkbfaa.LawA
