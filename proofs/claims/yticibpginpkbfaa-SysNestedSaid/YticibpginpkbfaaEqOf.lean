/- '==' of two makes of the nine registers that hold the same words is true. No conditions. -/
import Derived.Test.YticibpginpkbfaaConA
import Derived.WalkLawsBesides
namespace Go.Proofs.Yticibpginpkbfaa.EqOf
open Go.RowKit Go.Proofs.Yticibpginpkbfaa.Con Go.Proofs.YticibpginpkbfaaW.PrintWords Go.Proofs.YticibpginpkbfaaW.PrintLast Go.Proofs.YticibpginpkbfaaW.PrintMore
set_option linter.unusedVariables false
set_option linter.unusedSimpArgs false
theorem eqA24 (d : Nat) (w : World) (x0 y0 : Int) (x1 y1 : Int) (x2 y2 : Int) (x3 y3 : Int) (x4 y4 : Int) (x5 y5 : Int) (x6 y6 : Int) (x7 y7 : Int) (x8 y8 : Int) :
    (Op.equalIn (d + 2) 24 (.agg #[.int .u32 x0, .int .u32 x1, .int .u32 x2, .int .u32 x3, .int .u32 x4, .int .u32 x5, .int .u32 x6, .int .u32 x7, .int .u32 x8]) (.agg #[.int .u32 y0, .int .u32 y1, .int .u32 y2, .int .u32 y3, .int .u32 y4, .int .u32 y5, .int .u32 y6, .int .u32 y7, .int .u32 y8])).run Try.prog w = .ok (x0 == y0 && (x1 == y1 && (x2 == y2 && (x3 == y3 && (x4 == y4 && (x5 == y5 && (x6 == y6 && (x7 == y7 && (x8 == y8))))))))) w := by
  refine eqA_of Try.underlying24 (by kernel_rfl) ?_
  refine eqf_cons (by rfl) (by go_simp; rfl) (by go_simp; rfl) (by go_simp) ?_
  refine eqf_cons (by rfl) (by go_simp; rfl) (by go_simp; rfl) (by go_simp) ?_
  refine eqf_cons (by rfl) (by go_simp; rfl) (by go_simp; rfl) (by go_simp) ?_
  refine eqf_cons (by rfl) (by go_simp; rfl) (by go_simp; rfl) (by go_simp) ?_
  refine eqf_cons (by rfl) (by go_simp; rfl) (by go_simp; rfl) (by go_simp) ?_
  refine eqf_cons (by rfl) (by go_simp; rfl) (by go_simp; rfl) (by go_simp) ?_
  refine eqf_cons (by rfl) (by go_simp; rfl) (by go_simp; rfl) (by go_simp) ?_
  refine eqf_cons (by rfl) (by go_simp; rfl) (by go_simp; rfl) (by go_simp) ?_
  exact eqf_last (by rfl) (by go_simp; rfl) (by go_simp; rfl) (by go_simp)
theorem eq24 (m0 m1 m2 m3 m4 m5 m6 m7 m8 : Int) (w : World) : (binOp .eql 24 (regs m0 m1 m2 m3 m4 m5 m6 m7 m8) (regs m0 m1 m2 m3 m4 m5 m6 m7 m8)).run Try.prog w = .ok (.bool true) w := by
  have h := eqA24 9998 w m0 m0 m1 m1 m2 m2 m3 m3 m4 m4 m5 m5 m6 m6 m7 m7 m8 m8 
  rw [run_eql_struct]
  rw [h]
  simp
theorem neq24 (m0 m1 m2 m3 m4 m5 m6 m7 m8 : Int) (w : World) : (binOp .neq 24 (regs m0 m1 m2 m3 m4 m5 m6 m7 m8) (regs m0 m1 m2 m3 m4 m5 m6 m7 m8)).run Try.prog w = .ok (.bool false) w := by
  have h := eqA24 9998 w m0 m0 m1 m1 m2 m2 m3 m3 m4 m4 m5 m5 m6 m6 m7 m7 m8 m8
  rw [run_neq_struct]
  rw [h]
  simp
end Go.Proofs.Yticibpginpkbfaa.EqOf
