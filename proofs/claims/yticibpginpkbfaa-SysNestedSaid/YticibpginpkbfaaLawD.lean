/- The walk of SysBack: whatever the registers, the number and the exception, the call answers true and leaves what lay in memory. Conditions: words are below 2^32, as the row has them. -/
import Derived.Test.YticibpginpkbfaaPairC
import Derived.Test.YticibpginpkbfaaEqOf
import Derived.Test.YticibpginpkbfaaFrame
import Derived.Test.YticibpginpkbfaaFix
namespace Go.Proofs.Yticibpginpkbfaa.LawD
open Go.RowKit Go.Proofs.Yticibpginpkbfaa.Con Go.Proofs.Yticibpginpkbfaa.EqOf Go.Proofs.Yticibpginpkbfaa.Pair Go.Proofs.Yticibpginpkbfaa.Frm Go.Proofs.Yticibpginpkbfaa.Fix Go.Proofs.YticibpginpkbfaaW.PrintWords Go.Proofs.YticibpginpkbfaaW.PrintLast Go.Proofs.YticibpginpkbfaaW.PrintMore
set_option linter.unusedVariables false
set_option linter.unusedSimpArgs false
/-- The call answers v, and leaves old memory. -/
abbrev Ans (f : Nat) (args : Array Value) (v : Value) : Prop := ∀ w : World, Calls Try.prog f args w fun e w' => e = .returned v ∧ Below w.heap.size w w'
set_option maxHeartbeats 8000000 in
set_option maxRecDepth 100000 in
theorem back_false (c0 c1 c2 c3 c4 c5 c6 c7 c8 reg code pc m0 m1 m2 m3 m4 m5 m6 m7 m8 x z s am bm e t t1 : Int) (refill : Bool)
    (w1 : Ans 12 #[regs c0 c1 c2 c3 c4 c5 c6 c7 c8, .int .i64 reg, .int .u32 pc] (regs m0 m1 m2 m3 m4 m5 m6 m7 m8))
    (w2 : Ans 12 #[regs m0 m1 m2 m3 m4 m5 m6 m7 m8, .int .i64 reg, .int .u32 pc] (regs m0 m1 m2 m3 m4 m5 m6 m7 m8))
    (w3 : Ans 10 #[regs m0 m1 m2 m3 m4 m5 m6 m7 m8, .int .i64 reg] (.int .u32 x))
    (w4 : Ans 12 #[regs m0 m1 m2 m3 m4 m5 m6 m7 m8, .int .i64 reg, .int .u32 x] (regs m0 m1 m2 m3 m4 m5 m6 m7 m8))
    (r1 : Ans 14 #[regs c0 c1 c2 c3 c4 c5 z c7 c8, .int .i64 code, .bool refill, .int .u32 pc, .bool false] (.tuple #[regs c0 c1 c2 c3 c4 c5 s am pc, .int .u32 t1]))
    (r2 : Ans 14 #[regs c0 c1 c2 c3 c4 c5 s am pc, .int .i64 code, .bool true, .int .u32 4096, .bool true] (.tuple #[regs c0 c1 c2 c3 c4 c5 s bm pc, .int .u32 2147484032]))
    (r3 : Ans 16 #[regs c0 c1 c2 c3 c4 c5 s bm pc] (.tuple #[regs c0 c1 c2 c3 c4 c5 z bm pc, .int .u32 pc]))
    (p1 : Ans 22 #[regs c0 c1 c2 c3 c4 c5 s am pc] (.bool false)) (p2 : Ans 24 #[regs c0 c1 c2 c3 c4 c5 s am pc] (.bool false))
    (hz : Go.bits .andNot .u32 c6 2 = z) (hd : (am / 2147483648 == 1) = false) (he : (pc - 4) % 4294967296 = e) (w : World) :
    Calls Try.prog 6 #[regs c0 c1 c2 c3 c4 c5 c6 c7 c8, .int .i64 reg, .agg #[.int .i64 code, .bool refill, .bool false, .int .u32 pc]] w fun e w' => e = .returned (.bool true) ∧ Below w.heap.size w w' := by
  have W1 := Aside0.mk w1
  clear w1
  have W2 := Aside0.mk w2
  clear w2
  have W3 := Aside0.mk w3
  clear w3
  have W4 := Aside0.mk w4
  clear w4
  have R1 := Aside0.mk r1
  clear r1
  have R2 := Aside0.mk r2
  clear r2
  have R3 := Aside0.mk r3
  clear r3
  have P1 := Aside0.mk p1
  clear p1
  have P2 := Aside0.mk p2
  clear p2
  have q1 := eq24 m0 m1 m2 m3 m4 m5 m6 m7 m8
  have q2 := neq24 m0 m1 m2 m3 m4 m5 m6 m7 m8
  have HD := Aside0.mk hd
  clear hd
  have HE := Aside0.mk he
  clear he
  go_enter Try.func6, Try.ntmps6
  go_wp2_with fail
  have F0 := Aside0.mk (((Owns.start w).new [.int .u32 c0, .int .u32 c1, .int .u32 c2, .int .u32 c3, .int .u32 c4, .int .u32 c5, .int .u32 c6, .int .u32 c7, .int .u32 c8] 24).new [.int .i64 code, .bool refill, .bool false, .int .u32 pc] 30)
  have e0 : (w.alloc (.cells (List.toArray [.int .u32 c0, .int .u32 c1, .int .u32 c2, .int .u32 c3, .int .u32 c4, .int .u32 c5, .int .u32 c6, .int .u32 c7, .int .u32 c8]) 24)).heap.size = w.heap.size + 1 := by simp
  rw [e0] at F0
  clear e0
  refine (W1.out _).mono ?_
  rintro e w1 ⟨rfl, hb⟩
  have F1 := Aside0.mk (F0.out.call hb)
  clear hb F0
  obtain ⟨g0_0, g0_1, g0_2, g0_3⟩ := F1.out.four 0 (w.heap.size + 1) _ _ _ _ rfl
  have gl0 := F1.out.lt 0 (w.heap.size + 1) _ rfl
  obtain ⟨g1_0, g1_1, g1_2, g1_3, g1_4, g1_5, g1_6, g1_7, g1_8⟩ := F1.out.nine 1 (w.heap.size) _ _ _ _ _ _ _ _ _ rfl
  have gl1 := F1.out.lt 1 (w.heap.size) _ rfl
  go_wp2_with fail
  clear g0_0 g0_1 g0_2 g0_3 g1_0 g1_1 g1_2 g1_3 g1_4 g1_5 g1_6 g1_7 g1_8
  have F2 := Aside0.mk (F1.out.new [.int .u32 m0, .int .u32 m1, .int .u32 m2, .int .u32 m3, .int .u32 m4, .int .u32 m5, .int .u32 m6, .int .u32 m7, .int .u32 m8] 24)
  clear F1
  have r0_0 := fun (W : World) (h : Owns w W [(w1.heap.size, [.int .u32 m0, .int .u32 m1, .int .u32 m2, .int .u32 m3, .int .u32 m4, .int .u32 m5, .int .u32 m6, .int .u32 m7, .int .u32 m8]), (w.heap.size + 1, [.int .i64 code, .bool refill, .bool false, .int .u32 pc]), (w.heap.size, [.int .u32 c0, .int .u32 c1, .int .u32 c2, .int .u32 c3, .int .u32 c4, .int .u32 c5, .int .u32 c6, .int .u32 c7, .int .u32 c8])]) => (h.nine 0 (w1.heap.size) _ _ _ _ _ _ _ _ _ rfl).1
  have r0_1 := fun (W : World) (h : Owns w W [(w1.heap.size, [.int .u32 m0, .int .u32 m1, .int .u32 m2, .int .u32 m3, .int .u32 m4, .int .u32 m5, .int .u32 m6, .int .u32 m7, .int .u32 m8]), (w.heap.size + 1, [.int .i64 code, .bool refill, .bool false, .int .u32 pc]), (w.heap.size, [.int .u32 c0, .int .u32 c1, .int .u32 c2, .int .u32 c3, .int .u32 c4, .int .u32 c5, .int .u32 c6, .int .u32 c7, .int .u32 c8])]) => (h.nine 0 (w1.heap.size) _ _ _ _ _ _ _ _ _ rfl).2.1
  have r0_2 := fun (W : World) (h : Owns w W [(w1.heap.size, [.int .u32 m0, .int .u32 m1, .int .u32 m2, .int .u32 m3, .int .u32 m4, .int .u32 m5, .int .u32 m6, .int .u32 m7, .int .u32 m8]), (w.heap.size + 1, [.int .i64 code, .bool refill, .bool false, .int .u32 pc]), (w.heap.size, [.int .u32 c0, .int .u32 c1, .int .u32 c2, .int .u32 c3, .int .u32 c4, .int .u32 c5, .int .u32 c6, .int .u32 c7, .int .u32 c8])]) => (h.nine 0 (w1.heap.size) _ _ _ _ _ _ _ _ _ rfl).2.2.1
  have r0_3 := fun (W : World) (h : Owns w W [(w1.heap.size, [.int .u32 m0, .int .u32 m1, .int .u32 m2, .int .u32 m3, .int .u32 m4, .int .u32 m5, .int .u32 m6, .int .u32 m7, .int .u32 m8]), (w.heap.size + 1, [.int .i64 code, .bool refill, .bool false, .int .u32 pc]), (w.heap.size, [.int .u32 c0, .int .u32 c1, .int .u32 c2, .int .u32 c3, .int .u32 c4, .int .u32 c5, .int .u32 c6, .int .u32 c7, .int .u32 c8])]) => (h.nine 0 (w1.heap.size) _ _ _ _ _ _ _ _ _ rfl).2.2.2.1
  have r0_4 := fun (W : World) (h : Owns w W [(w1.heap.size, [.int .u32 m0, .int .u32 m1, .int .u32 m2, .int .u32 m3, .int .u32 m4, .int .u32 m5, .int .u32 m6, .int .u32 m7, .int .u32 m8]), (w.heap.size + 1, [.int .i64 code, .bool refill, .bool false, .int .u32 pc]), (w.heap.size, [.int .u32 c0, .int .u32 c1, .int .u32 c2, .int .u32 c3, .int .u32 c4, .int .u32 c5, .int .u32 c6, .int .u32 c7, .int .u32 c8])]) => (h.nine 0 (w1.heap.size) _ _ _ _ _ _ _ _ _ rfl).2.2.2.2.1
  have r0_5 := fun (W : World) (h : Owns w W [(w1.heap.size, [.int .u32 m0, .int .u32 m1, .int .u32 m2, .int .u32 m3, .int .u32 m4, .int .u32 m5, .int .u32 m6, .int .u32 m7, .int .u32 m8]), (w.heap.size + 1, [.int .i64 code, .bool refill, .bool false, .int .u32 pc]), (w.heap.size, [.int .u32 c0, .int .u32 c1, .int .u32 c2, .int .u32 c3, .int .u32 c4, .int .u32 c5, .int .u32 c6, .int .u32 c7, .int .u32 c8])]) => (h.nine 0 (w1.heap.size) _ _ _ _ _ _ _ _ _ rfl).2.2.2.2.2.1
  have r0_6 := fun (W : World) (h : Owns w W [(w1.heap.size, [.int .u32 m0, .int .u32 m1, .int .u32 m2, .int .u32 m3, .int .u32 m4, .int .u32 m5, .int .u32 m6, .int .u32 m7, .int .u32 m8]), (w.heap.size + 1, [.int .i64 code, .bool refill, .bool false, .int .u32 pc]), (w.heap.size, [.int .u32 c0, .int .u32 c1, .int .u32 c2, .int .u32 c3, .int .u32 c4, .int .u32 c5, .int .u32 c6, .int .u32 c7, .int .u32 c8])]) => (h.nine 0 (w1.heap.size) _ _ _ _ _ _ _ _ _ rfl).2.2.2.2.2.2.1
  have r0_7 := fun (W : World) (h : Owns w W [(w1.heap.size, [.int .u32 m0, .int .u32 m1, .int .u32 m2, .int .u32 m3, .int .u32 m4, .int .u32 m5, .int .u32 m6, .int .u32 m7, .int .u32 m8]), (w.heap.size + 1, [.int .i64 code, .bool refill, .bool false, .int .u32 pc]), (w.heap.size, [.int .u32 c0, .int .u32 c1, .int .u32 c2, .int .u32 c3, .int .u32 c4, .int .u32 c5, .int .u32 c6, .int .u32 c7, .int .u32 c8])]) => (h.nine 0 (w1.heap.size) _ _ _ _ _ _ _ _ _ rfl).2.2.2.2.2.2.2.1
  have r0_8 := fun (W : World) (h : Owns w W [(w1.heap.size, [.int .u32 m0, .int .u32 m1, .int .u32 m2, .int .u32 m3, .int .u32 m4, .int .u32 m5, .int .u32 m6, .int .u32 m7, .int .u32 m8]), (w.heap.size + 1, [.int .i64 code, .bool refill, .bool false, .int .u32 pc]), (w.heap.size, [.int .u32 c0, .int .u32 c1, .int .u32 c2, .int .u32 c3, .int .u32 c4, .int .u32 c5, .int .u32 c6, .int .u32 c7, .int .u32 c8])]) => (h.nine 0 (w1.heap.size) _ _ _ _ _ _ _ _ _ rfl).2.2.2.2.2.2.2.2
  have r1_0 := fun (W : World) (h : Owns w W [(w1.heap.size, [.int .u32 m0, .int .u32 m1, .int .u32 m2, .int .u32 m3, .int .u32 m4, .int .u32 m5, .int .u32 m6, .int .u32 m7, .int .u32 m8]), (w.heap.size + 1, [.int .i64 code, .bool refill, .bool false, .int .u32 pc]), (w.heap.size, [.int .u32 c0, .int .u32 c1, .int .u32 c2, .int .u32 c3, .int .u32 c4, .int .u32 c5, .int .u32 c6, .int .u32 c7, .int .u32 c8])]) => (h.four 1 (w.heap.size + 1) _ _ _ _ rfl).1
  have r1_1 := fun (W : World) (h : Owns w W [(w1.heap.size, [.int .u32 m0, .int .u32 m1, .int .u32 m2, .int .u32 m3, .int .u32 m4, .int .u32 m5, .int .u32 m6, .int .u32 m7, .int .u32 m8]), (w.heap.size + 1, [.int .i64 code, .bool refill, .bool false, .int .u32 pc]), (w.heap.size, [.int .u32 c0, .int .u32 c1, .int .u32 c2, .int .u32 c3, .int .u32 c4, .int .u32 c5, .int .u32 c6, .int .u32 c7, .int .u32 c8])]) => (h.four 1 (w.heap.size + 1) _ _ _ _ rfl).2.1
  have r1_2 := fun (W : World) (h : Owns w W [(w1.heap.size, [.int .u32 m0, .int .u32 m1, .int .u32 m2, .int .u32 m3, .int .u32 m4, .int .u32 m5, .int .u32 m6, .int .u32 m7, .int .u32 m8]), (w.heap.size + 1, [.int .i64 code, .bool refill, .bool false, .int .u32 pc]), (w.heap.size, [.int .u32 c0, .int .u32 c1, .int .u32 c2, .int .u32 c3, .int .u32 c4, .int .u32 c5, .int .u32 c6, .int .u32 c7, .int .u32 c8])]) => (h.four 1 (w.heap.size + 1) _ _ _ _ rfl).2.2.1
  have r1_3 := fun (W : World) (h : Owns w W [(w1.heap.size, [.int .u32 m0, .int .u32 m1, .int .u32 m2, .int .u32 m3, .int .u32 m4, .int .u32 m5, .int .u32 m6, .int .u32 m7, .int .u32 m8]), (w.heap.size + 1, [.int .i64 code, .bool refill, .bool false, .int .u32 pc]), (w.heap.size, [.int .u32 c0, .int .u32 c1, .int .u32 c2, .int .u32 c3, .int .u32 c4, .int .u32 c5, .int .u32 c6, .int .u32 c7, .int .u32 c8])]) => (h.four 1 (w.heap.size + 1) _ _ _ _ rfl).2.2.2
  have r2_0 := fun (W : World) (h : Owns w W [(w1.heap.size, [.int .u32 m0, .int .u32 m1, .int .u32 m2, .int .u32 m3, .int .u32 m4, .int .u32 m5, .int .u32 m6, .int .u32 m7, .int .u32 m8]), (w.heap.size + 1, [.int .i64 code, .bool refill, .bool false, .int .u32 pc]), (w.heap.size, [.int .u32 c0, .int .u32 c1, .int .u32 c2, .int .u32 c3, .int .u32 c4, .int .u32 c5, .int .u32 c6, .int .u32 c7, .int .u32 c8])]) => (h.nine 2 (w.heap.size) _ _ _ _ _ _ _ _ _ rfl).1
  have r2_1 := fun (W : World) (h : Owns w W [(w1.heap.size, [.int .u32 m0, .int .u32 m1, .int .u32 m2, .int .u32 m3, .int .u32 m4, .int .u32 m5, .int .u32 m6, .int .u32 m7, .int .u32 m8]), (w.heap.size + 1, [.int .i64 code, .bool refill, .bool false, .int .u32 pc]), (w.heap.size, [.int .u32 c0, .int .u32 c1, .int .u32 c2, .int .u32 c3, .int .u32 c4, .int .u32 c5, .int .u32 c6, .int .u32 c7, .int .u32 c8])]) => (h.nine 2 (w.heap.size) _ _ _ _ _ _ _ _ _ rfl).2.1
  have r2_2 := fun (W : World) (h : Owns w W [(w1.heap.size, [.int .u32 m0, .int .u32 m1, .int .u32 m2, .int .u32 m3, .int .u32 m4, .int .u32 m5, .int .u32 m6, .int .u32 m7, .int .u32 m8]), (w.heap.size + 1, [.int .i64 code, .bool refill, .bool false, .int .u32 pc]), (w.heap.size, [.int .u32 c0, .int .u32 c1, .int .u32 c2, .int .u32 c3, .int .u32 c4, .int .u32 c5, .int .u32 c6, .int .u32 c7, .int .u32 c8])]) => (h.nine 2 (w.heap.size) _ _ _ _ _ _ _ _ _ rfl).2.2.1
  have r2_3 := fun (W : World) (h : Owns w W [(w1.heap.size, [.int .u32 m0, .int .u32 m1, .int .u32 m2, .int .u32 m3, .int .u32 m4, .int .u32 m5, .int .u32 m6, .int .u32 m7, .int .u32 m8]), (w.heap.size + 1, [.int .i64 code, .bool refill, .bool false, .int .u32 pc]), (w.heap.size, [.int .u32 c0, .int .u32 c1, .int .u32 c2, .int .u32 c3, .int .u32 c4, .int .u32 c5, .int .u32 c6, .int .u32 c7, .int .u32 c8])]) => (h.nine 2 (w.heap.size) _ _ _ _ _ _ _ _ _ rfl).2.2.2.1
  have r2_4 := fun (W : World) (h : Owns w W [(w1.heap.size, [.int .u32 m0, .int .u32 m1, .int .u32 m2, .int .u32 m3, .int .u32 m4, .int .u32 m5, .int .u32 m6, .int .u32 m7, .int .u32 m8]), (w.heap.size + 1, [.int .i64 code, .bool refill, .bool false, .int .u32 pc]), (w.heap.size, [.int .u32 c0, .int .u32 c1, .int .u32 c2, .int .u32 c3, .int .u32 c4, .int .u32 c5, .int .u32 c6, .int .u32 c7, .int .u32 c8])]) => (h.nine 2 (w.heap.size) _ _ _ _ _ _ _ _ _ rfl).2.2.2.2.1
  have r2_5 := fun (W : World) (h : Owns w W [(w1.heap.size, [.int .u32 m0, .int .u32 m1, .int .u32 m2, .int .u32 m3, .int .u32 m4, .int .u32 m5, .int .u32 m6, .int .u32 m7, .int .u32 m8]), (w.heap.size + 1, [.int .i64 code, .bool refill, .bool false, .int .u32 pc]), (w.heap.size, [.int .u32 c0, .int .u32 c1, .int .u32 c2, .int .u32 c3, .int .u32 c4, .int .u32 c5, .int .u32 c6, .int .u32 c7, .int .u32 c8])]) => (h.nine 2 (w.heap.size) _ _ _ _ _ _ _ _ _ rfl).2.2.2.2.2.1
  have r2_6 := fun (W : World) (h : Owns w W [(w1.heap.size, [.int .u32 m0, .int .u32 m1, .int .u32 m2, .int .u32 m3, .int .u32 m4, .int .u32 m5, .int .u32 m6, .int .u32 m7, .int .u32 m8]), (w.heap.size + 1, [.int .i64 code, .bool refill, .bool false, .int .u32 pc]), (w.heap.size, [.int .u32 c0, .int .u32 c1, .int .u32 c2, .int .u32 c3, .int .u32 c4, .int .u32 c5, .int .u32 c6, .int .u32 c7, .int .u32 c8])]) => (h.nine 2 (w.heap.size) _ _ _ _ _ _ _ _ _ rfl).2.2.2.2.2.2.1
  have r2_7 := fun (W : World) (h : Owns w W [(w1.heap.size, [.int .u32 m0, .int .u32 m1, .int .u32 m2, .int .u32 m3, .int .u32 m4, .int .u32 m5, .int .u32 m6, .int .u32 m7, .int .u32 m8]), (w.heap.size + 1, [.int .i64 code, .bool refill, .bool false, .int .u32 pc]), (w.heap.size, [.int .u32 c0, .int .u32 c1, .int .u32 c2, .int .u32 c3, .int .u32 c4, .int .u32 c5, .int .u32 c6, .int .u32 c7, .int .u32 c8])]) => (h.nine 2 (w.heap.size) _ _ _ _ _ _ _ _ _ rfl).2.2.2.2.2.2.2.1
  have r2_8 := fun (W : World) (h : Owns w W [(w1.heap.size, [.int .u32 m0, .int .u32 m1, .int .u32 m2, .int .u32 m3, .int .u32 m4, .int .u32 m5, .int .u32 m6, .int .u32 m7, .int .u32 m8]), (w.heap.size + 1, [.int .i64 code, .bool refill, .bool false, .int .u32 pc]), (w.heap.size, [.int .u32 c0, .int .u32 c1, .int .u32 c2, .int .u32 c3, .int .u32 c4, .int .u32 c5, .int .u32 c6, .int .u32 c7, .int .u32 c8])]) => (h.nine 2 (w.heap.size) _ _ _ _ _ _ _ _ _ rfl).2.2.2.2.2.2.2.2
  go_region_held3 (fun w' => Owns w w' [(w1.heap.size, [.int .u32 m0, .int .u32 m1, .int .u32 m2, .int .u32 m3, .int .u32 m4, .int .u32 m5, .int .u32 m6, .int .u32 m7, .int .u32 m8]), (w.heap.size + 1, [.int .i64 code, .bool refill, .bool false, .int .u32 pc]), (w.heap.size, [.int .u32 c0, .int .u32 c1, .int .u32 c2, .int .u32 c3, .int .u32 c4, .int .u32 c5, .int .u32 c6, .int .u32 c7, .int .u32 c8])])
    (first | exact F2.out.drew | exact Owns.call' (by assumption) (by assumption))
    (first | (go_at_call 12; (with_reducible refine (W2.out _).mono ?_); rintro e w18 ⟨rfl, hb⟩) | (go_at_call 10; (with_reducible refine (W3.out _).mono ?_); rintro e w18 ⟨rfl, hb⟩) | (go_at_call 12; (with_reducible refine (W4.out _).mono ?_); rintro e w18 ⟨rfl, hb⟩))
  obtain ⟨wc, ewc, F3⟩ : ∃ wc, wc = _ ∧ Aside0 (Owns w wc [(w1.heap.size, [.int .u32 m0, .int .u32 m1, .int .u32 m2, .int .u32 m3, .int .u32 m4, .int .u32 m5, .int .u32 m6, .int .u32 m7, .int .u32 m8]), (w.heap.size + 1, [.int .i64 code, .bool refill, .bool false, .int .u32 pc]), (w.heap.size, [.int .u32 c0, .int .u32 c1, .int .u32 c2, .int .u32 c3, .int .u32 c4, .int .u32 c5, .int .u32 c6, .int .u32 c7, .int .u32 c8])]) := ⟨_, rfl, ⟨by assumption⟩⟩
  subst ewc
  clear r0_0 r0_1 r0_2 r0_3 r0_4 r0_5 r0_6 r0_7 r0_8 r1_0 r1_1 r1_2 r1_3 r2_0 r2_1 r2_2 r2_3 r2_4 r2_5 r2_6 r2_7 r2_8 F2
  obtain ⟨g1_0, g1_1, g1_2, g1_3⟩ := F3.out.four 1 (w.heap.size + 1) _ _ _ _ rfl
  have gl1 := F3.out.lt 1 (w.heap.size + 1) _ rfl
  obtain ⟨g2_0, g2_1, g2_2, g2_3, g2_4, g2_5, g2_6, g2_7, g2_8⟩ := F3.out.nine 2 (w.heap.size) _ _ _ _ _ _ _ _ _ rfl
  have gl2 := F3.out.lt 2 (w.heap.size) _ rfl
  have fz := (F3.out.box 2 (w.heap.size) _ rfl).free 6 (by simp)
  go_wp2_with fail
  have F4 : Aside0 (Owns w _ [(w1.heap.size, [.int .u32 m0, .int .u32 m1, .int .u32 m2, .int .u32 m3, .int .u32 m4, .int .u32 m5, .int .u32 m6, .int .u32 m7, .int .u32 m8]), (w.heap.size + 1, [.int .i64 code, .bool refill, .bool false, .int .u32 pc]), (w.heap.size, [.int .u32 c0, .int .u32 c1, .int .u32 c2, .int .u32 c3, .int .u32 c4, .int .u32 c5, .int .u32 z, .int .u32 c7, .int .u32 c8])]) := ⟨F3.out.set 2 (w.heap.size) _ rfl 6 (.int .u32 z) (by simp) (by intro p hp; simp at hp; rcases hp with rfl | rfl <;> simp <;> omega)⟩
  clear F3 fz g1_0 g1_1 g1_2 g1_3 g2_0 g2_1 g2_2 g2_3 g2_4 g2_5 g2_6 g2_7 g2_8
  refine (R1.out _).mono ?_
  rintro e2 w2 ⟨rfl, hb⟩
  have F5' := Aside0.mk (F4.out.call hb)
  clear hb F4
  obtain ⟨g1_0, g1_1, g1_2, g1_3⟩ := F5'.out.four 1 (w.heap.size + 1) _ _ _ _ rfl
  have gl1 := F5'.out.lt 1 (w.heap.size + 1) _ rfl
  obtain ⟨g2_0, g2_1, g2_2, g2_3, g2_4, g2_5, g2_6, g2_7, g2_8⟩ := F5'.out.nine 2 (w.heap.size) _ _ _ _ _ _ _ _ _ rfl
  have gl2 := F5'.out.lt 2 (w.heap.size) _ rfl
  go_wp2_with fail
  clear g1_0 g1_1 g1_2 g1_3 g2_0 g2_1 g2_2 g2_3 g2_4 g2_5 g2_6 g2_7 g2_8
  have F5 : Aside0 (Owns w _ [(w2.heap.size, [.int .u32 c0, .int .u32 c1, .int .u32 c2, .int .u32 c3, .int .u32 c4, .int .u32 c5, .int .u32 s, .int .u32 am, .int .u32 pc]), (w1.heap.size, [.int .u32 m0, .int .u32 m1, .int .u32 m2, .int .u32 m3, .int .u32 m4, .int .u32 m5, .int .u32 m6, .int .u32 m7, .int .u32 m8]), (w.heap.size + 1, [.int .i64 code, .bool refill, .bool false, .int .u32 pc]), (w.heap.size, [.int .u32 c0, .int .u32 c1, .int .u32 c2, .int .u32 c3, .int .u32 c4, .int .u32 c5, .int .u32 z, .int .u32 c7, .int .u32 c8])]) := ⟨F5'.out.new [.int .u32 c0, .int .u32 c1, .int .u32 c2, .int .u32 c3, .int .u32 c4, .int .u32 c5, .int .u32 s, .int .u32 am, .int .u32 pc] 24⟩
  clear F5'
  refine (R2.out _).mono ?_
  rintro e3 w3 ⟨rfl, hb⟩
  have F6' := Aside0.mk (F5.out.call hb)
  clear hb F5
  obtain ⟨g0_0, g0_1, g0_2, g0_3, g0_4, g0_5, g0_6, g0_7, g0_8⟩ := F6'.out.nine 0 (w2.heap.size) _ _ _ _ _ _ _ _ _ rfl
  have gl0 := F6'.out.lt 0 (w2.heap.size) _ rfl
  obtain ⟨g2_0, g2_1, g2_2, g2_3⟩ := F6'.out.four 2 (w.heap.size + 1) _ _ _ _ rfl
  have gl2 := F6'.out.lt 2 (w.heap.size + 1) _ rfl
  go_wp2_with fail
  clear g0_0 g0_1 g0_2 g0_3 g0_4 g0_5 g0_6 g0_7 g0_8 g2_0 g2_1 g2_2 g2_3
  have F6 : Aside0 (Owns w _ [(w3.heap.size, [.int .u32 c0, .int .u32 c1, .int .u32 c2, .int .u32 c3, .int .u32 c4, .int .u32 c5, .int .u32 s, .int .u32 bm, .int .u32 pc]), (w2.heap.size, [.int .u32 c0, .int .u32 c1, .int .u32 c2, .int .u32 c3, .int .u32 c4, .int .u32 c5, .int .u32 s, .int .u32 am, .int .u32 pc]), (w1.heap.size, [.int .u32 m0, .int .u32 m1, .int .u32 m2, .int .u32 m3, .int .u32 m4, .int .u32 m5, .int .u32 m6, .int .u32 m7, .int .u32 m8]), (w.heap.size + 1, [.int .i64 code, .bool refill, .bool false, .int .u32 pc]), (w.heap.size, [.int .u32 c0, .int .u32 c1, .int .u32 c2, .int .u32 c3, .int .u32 c4, .int .u32 c5, .int .u32 z, .int .u32 c7, .int .u32 c8])]) := ⟨F6'.out.new [.int .u32 c0, .int .u32 c1, .int .u32 c2, .int .u32 c3, .int .u32 c4, .int .u32 c5, .int .u32 s, .int .u32 bm, .int .u32 pc] 24⟩
  clear F6'
  have he2 := HE.out
  refine (R3.out _).mono ?_
  rintro e4 w4 ⟨rfl, hb⟩
  have F7' := Aside0.mk (F6.out.call hb)
  clear hb F6
  obtain ⟨g3_0, g3_1, g3_2, g3_3⟩ := F7'.out.four 3 (w.heap.size + 1) _ _ _ _ rfl
  have gl3 := F7'.out.lt 3 (w.heap.size + 1) _ rfl
  go_wp2_with fail
  clear g3_0 g3_1 g3_2 g3_3
  have F7 : Aside0 (Owns w _ [(w4.heap.size, [.int .u32 c0, .int .u32 c1, .int .u32 c2, .int .u32 c3, .int .u32 c4, .int .u32 c5, .int .u32 z, .int .u32 bm, .int .u32 pc]), (w3.heap.size, [.int .u32 c0, .int .u32 c1, .int .u32 c2, .int .u32 c3, .int .u32 c4, .int .u32 c5, .int .u32 s, .int .u32 bm, .int .u32 pc]), (w2.heap.size, [.int .u32 c0, .int .u32 c1, .int .u32 c2, .int .u32 c3, .int .u32 c4, .int .u32 c5, .int .u32 s, .int .u32 am, .int .u32 pc]), (w1.heap.size, [.int .u32 m0, .int .u32 m1, .int .u32 m2, .int .u32 m3, .int .u32 m4, .int .u32 m5, .int .u32 m6, .int .u32 m7, .int .u32 m8]), (w.heap.size + 1, [.int .i64 code, .bool refill, .bool false, .int .u32 pc]), (w.heap.size, [.int .u32 c0, .int .u32 c1, .int .u32 c2, .int .u32 c3, .int .u32 c4, .int .u32 c5, .int .u32 z, .int .u32 c7, .int .u32 c8])]) := ⟨F7'.out.new [.int .u32 c0, .int .u32 c1, .int .u32 c2, .int .u32 c3, .int .u32 c4, .int .u32 c5, .int .u32 z, .int .u32 bm, .int .u32 pc] 24⟩
  clear F7'
  have hd2 := HD.out
  refine (fixed_c _).mono ?_
  rintro e5 w5 ⟨rfl, hb⟩
  have F8 := Aside0.mk (F7.out.call hb)
  clear hb F7
  obtain ⟨g0_0, g0_1, g0_2, g0_3, g0_4, g0_5, g0_6, g0_7, g0_8⟩ := F8.out.nine 0 (w4.heap.size) _ _ _ _ _ _ _ _ _ rfl
  have gl0 := F8.out.lt 0 (w4.heap.size) _ rfl
  obtain ⟨g1_0, g1_1, g1_2, g1_3, g1_4, g1_5, g1_6, g1_7, g1_8⟩ := F8.out.nine 1 (w3.heap.size) _ _ _ _ _ _ _ _ _ rfl
  have gl1 := F8.out.lt 1 (w3.heap.size) _ rfl
  obtain ⟨g2_0, g2_1, g2_2, g2_3, g2_4, g2_5, g2_6, g2_7, g2_8⟩ := F8.out.nine 2 (w2.heap.size) _ _ _ _ _ _ _ _ _ rfl
  have gl2 := F8.out.lt 2 (w2.heap.size) _ rfl
  obtain ⟨g4_0, g4_1, g4_2, g4_3⟩ := F8.out.four 4 (w.heap.size + 1) _ _ _ _ rfl
  have gl4 := F8.out.lt 4 (w.heap.size + 1) _ rfl
  obtain ⟨g5_0, g5_1, g5_2, g5_3, g5_4, g5_5, g5_6, g5_7, g5_8⟩ := F8.out.nine 5 (w.heap.size) _ _ _ _ _ _ _ _ _ rfl
  have gl5 := F8.out.lt 5 (w.heap.size) _ rfl
  go_wp2_with fail
  clear g0_0 g0_1 g0_2 g0_3 g0_4 g0_5 g0_6 g0_7 g0_8 g1_0 g1_1 g1_2 g1_3 g1_4 g1_5 g1_6 g1_7 g1_8 g2_0 g2_1 g2_2 g2_3 g2_4 g2_5 g2_6 g2_7 g2_8 g4_0 g4_1 g4_2 g4_3 g5_0 g5_1 g5_2 g5_3 g5_4 g5_5 g5_6 g5_7 g5_8
  refine (P1.out _).mono ?_
  rintro e6 w6 ⟨rfl, hb⟩
  have F9 := Aside0.mk (F8.out.call hb)
  clear hb F8
  obtain ⟨g0_0, g0_1, g0_2, g0_3, g0_4, g0_5, g0_6, g0_7, g0_8⟩ := F9.out.nine 0 (w4.heap.size) _ _ _ _ _ _ _ _ _ rfl
  have gl0 := F9.out.lt 0 (w4.heap.size) _ rfl
  obtain ⟨g1_0, g1_1, g1_2, g1_3, g1_4, g1_5, g1_6, g1_7, g1_8⟩ := F9.out.nine 1 (w3.heap.size) _ _ _ _ _ _ _ _ _ rfl
  have gl1 := F9.out.lt 1 (w3.heap.size) _ rfl
  obtain ⟨g2_0, g2_1, g2_2, g2_3, g2_4, g2_5, g2_6, g2_7, g2_8⟩ := F9.out.nine 2 (w2.heap.size) _ _ _ _ _ _ _ _ _ rfl
  have gl2 := F9.out.lt 2 (w2.heap.size) _ rfl
  obtain ⟨g4_0, g4_1, g4_2, g4_3⟩ := F9.out.four 4 (w.heap.size + 1) _ _ _ _ rfl
  have gl4 := F9.out.lt 4 (w.heap.size + 1) _ rfl
  obtain ⟨g5_0, g5_1, g5_2, g5_3, g5_4, g5_5, g5_6, g5_7, g5_8⟩ := F9.out.nine 5 (w.heap.size) _ _ _ _ _ _ _ _ _ rfl
  have gl5 := F9.out.lt 5 (w.heap.size) _ rfl
  go_wp2_with fail
  clear g0_0 g0_1 g0_2 g0_3 g0_4 g0_5 g0_6 g0_7 g0_8 g1_0 g1_1 g1_2 g1_3 g1_4 g1_5 g1_6 g1_7 g1_8 g2_0 g2_1 g2_2 g2_3 g2_4 g2_5 g2_6 g2_7 g2_8 g4_0 g4_1 g4_2 g4_3 g5_0 g5_1 g5_2 g5_3 g5_4 g5_5 g5_6 g5_7 g5_8
  refine (P2.out _).mono ?_
  rintro e7 w7 ⟨rfl, hb⟩
  have F10 := Aside0.mk (F9.out.call hb)
  clear hb F9
  obtain ⟨g0_0, g0_1, g0_2, g0_3, g0_4, g0_5, g0_6, g0_7, g0_8⟩ := F10.out.nine 0 (w4.heap.size) _ _ _ _ _ _ _ _ _ rfl
  have gl0 := F10.out.lt 0 (w4.heap.size) _ rfl
  obtain ⟨g1_0, g1_1, g1_2, g1_3, g1_4, g1_5, g1_6, g1_7, g1_8⟩ := F10.out.nine 1 (w3.heap.size) _ _ _ _ _ _ _ _ _ rfl
  have gl1 := F10.out.lt 1 (w3.heap.size) _ rfl
  obtain ⟨g2_0, g2_1, g2_2, g2_3, g2_4, g2_5, g2_6, g2_7, g2_8⟩ := F10.out.nine 2 (w2.heap.size) _ _ _ _ _ _ _ _ _ rfl
  have gl2 := F10.out.lt 2 (w2.heap.size) _ rfl
  obtain ⟨g4_0, g4_1, g4_2, g4_3⟩ := F10.out.four 4 (w.heap.size + 1) _ _ _ _ rfl
  have gl4 := F10.out.lt 4 (w.heap.size + 1) _ rfl
  obtain ⟨g5_0, g5_1, g5_2, g5_3, g5_4, g5_5, g5_6, g5_7, g5_8⟩ := F10.out.nine 5 (w.heap.size) _ _ _ _ _ _ _ _ _ rfl
  have gl5 := F10.out.lt 5 (w.heap.size) _ rfl
  go_wp2_with fail
  clear g0_0 g0_1 g0_2 g0_3 g0_4 g0_5 g0_6 g0_7 g0_8 g1_0 g1_1 g1_2 g1_3 g1_4 g1_5 g1_6 g1_7 g1_8 g2_0 g2_1 g2_2 g2_3 g2_4 g2_5 g2_6 g2_7 g2_8 g4_0 g4_1 g4_2 g4_3 g5_0 g5_1 g5_2 g5_3 g5_4 g5_5 g5_6 g5_7 g5_8
  go_ret
  exact ⟨rfl, F10.out.below⟩
set_option maxHeartbeats 8000000 in
set_option maxRecDepth 100000 in
theorem back_true (c0 c1 c2 c3 c4 c5 c6 c7 c8 reg code pc m0 m1 m2 m3 m4 m5 m6 m7 m8 x z s am bm e t t1 : Int) (refill : Bool)
    (w1 : Ans 12 #[regs c0 c1 c2 c3 c4 c5 c6 c7 c8, .int .i64 reg, .int .u32 pc] (regs m0 m1 m2 m3 m4 m5 m6 m7 m8))
    (w2 : Ans 12 #[regs m0 m1 m2 m3 m4 m5 m6 m7 m8, .int .i64 reg, .int .u32 pc] (regs m0 m1 m2 m3 m4 m5 m6 m7 m8))
    (w3 : Ans 10 #[regs m0 m1 m2 m3 m4 m5 m6 m7 m8, .int .i64 reg] (.int .u32 x))
    (w4 : Ans 12 #[regs m0 m1 m2 m3 m4 m5 m6 m7 m8, .int .i64 reg, .int .u32 x] (regs m0 m1 m2 m3 m4 m5 m6 m7 m8))
    (r1 : Ans 14 #[regs c0 c1 c2 c3 c4 c5 z c7 c8, .int .i64 code, .bool refill, .int .u32 pc, .bool true] (.tuple #[regs c0 c1 c2 c3 c4 c5 s am e, .int .u32 t1]))
    (r2 : Ans 14 #[regs c0 c1 c2 c3 c4 c5 s am e, .int .i64 code, .bool true, .int .u32 4096, .bool false] (.tuple #[regs c0 c1 c2 c3 c4 c5 s bm e, .int .u32 2147484032]))
    (r3 : Ans 16 #[regs c0 c1 c2 c3 c4 c5 s bm e] (.tuple #[regs c0 c1 c2 c3 c4 c5 z bm e, .int .u32 e]))
    (p1 : Ans 22 #[regs c0 c1 c2 c3 c4 c5 s am e] (.bool false)) (p2 : Ans 24 #[regs c0 c1 c2 c3 c4 c5 s am e] (.bool false))
    (hz : Go.bits .andNot .u32 c6 2 = z) (hd : (am / 2147483648 == 1) = true) (he : (pc - 4) % 4294967296 = e) (w : World) :
    Calls Try.prog 6 #[regs c0 c1 c2 c3 c4 c5 c6 c7 c8, .int .i64 reg, .agg #[.int .i64 code, .bool refill, .bool true, .int .u32 pc]] w fun e w' => e = .returned (.bool true) ∧ Below w.heap.size w w' := by
  have W1 := Aside0.mk w1
  clear w1
  have W2 := Aside0.mk w2
  clear w2
  have W3 := Aside0.mk w3
  clear w3
  have W4 := Aside0.mk w4
  clear w4
  have R1 := Aside0.mk r1
  clear r1
  have R2 := Aside0.mk r2
  clear r2
  have R3 := Aside0.mk r3
  clear r3
  have P1 := Aside0.mk p1
  clear p1
  have P2 := Aside0.mk p2
  clear p2
  have q1 := eq24 m0 m1 m2 m3 m4 m5 m6 m7 m8
  have q2 := neq24 m0 m1 m2 m3 m4 m5 m6 m7 m8
  have HD := Aside0.mk hd
  clear hd
  have HE := Aside0.mk he
  clear he
  go_enter Try.func6, Try.ntmps6
  go_wp2_with fail
  have F0 := Aside0.mk (((Owns.start w).new [.int .u32 c0, .int .u32 c1, .int .u32 c2, .int .u32 c3, .int .u32 c4, .int .u32 c5, .int .u32 c6, .int .u32 c7, .int .u32 c8] 24).new [.int .i64 code, .bool refill, .bool true, .int .u32 pc] 30)
  have e0 : (w.alloc (.cells (List.toArray [.int .u32 c0, .int .u32 c1, .int .u32 c2, .int .u32 c3, .int .u32 c4, .int .u32 c5, .int .u32 c6, .int .u32 c7, .int .u32 c8]) 24)).heap.size = w.heap.size + 1 := by simp
  rw [e0] at F0
  clear e0
  refine (W1.out _).mono ?_
  rintro e w1 ⟨rfl, hb⟩
  have F1 := Aside0.mk (F0.out.call hb)
  clear hb F0
  obtain ⟨g0_0, g0_1, g0_2, g0_3⟩ := F1.out.four 0 (w.heap.size + 1) _ _ _ _ rfl
  have gl0 := F1.out.lt 0 (w.heap.size + 1) _ rfl
  obtain ⟨g1_0, g1_1, g1_2, g1_3, g1_4, g1_5, g1_6, g1_7, g1_8⟩ := F1.out.nine 1 (w.heap.size) _ _ _ _ _ _ _ _ _ rfl
  have gl1 := F1.out.lt 1 (w.heap.size) _ rfl
  go_wp2_with fail
  clear g0_0 g0_1 g0_2 g0_3 g1_0 g1_1 g1_2 g1_3 g1_4 g1_5 g1_6 g1_7 g1_8
  have F2 := Aside0.mk (F1.out.new [.int .u32 m0, .int .u32 m1, .int .u32 m2, .int .u32 m3, .int .u32 m4, .int .u32 m5, .int .u32 m6, .int .u32 m7, .int .u32 m8] 24)
  clear F1
  have r0_0 := fun (W : World) (h : Owns w W [(w1.heap.size, [.int .u32 m0, .int .u32 m1, .int .u32 m2, .int .u32 m3, .int .u32 m4, .int .u32 m5, .int .u32 m6, .int .u32 m7, .int .u32 m8]), (w.heap.size + 1, [.int .i64 code, .bool refill, .bool true, .int .u32 pc]), (w.heap.size, [.int .u32 c0, .int .u32 c1, .int .u32 c2, .int .u32 c3, .int .u32 c4, .int .u32 c5, .int .u32 c6, .int .u32 c7, .int .u32 c8])]) => (h.nine 0 (w1.heap.size) _ _ _ _ _ _ _ _ _ rfl).1
  have r0_1 := fun (W : World) (h : Owns w W [(w1.heap.size, [.int .u32 m0, .int .u32 m1, .int .u32 m2, .int .u32 m3, .int .u32 m4, .int .u32 m5, .int .u32 m6, .int .u32 m7, .int .u32 m8]), (w.heap.size + 1, [.int .i64 code, .bool refill, .bool true, .int .u32 pc]), (w.heap.size, [.int .u32 c0, .int .u32 c1, .int .u32 c2, .int .u32 c3, .int .u32 c4, .int .u32 c5, .int .u32 c6, .int .u32 c7, .int .u32 c8])]) => (h.nine 0 (w1.heap.size) _ _ _ _ _ _ _ _ _ rfl).2.1
  have r0_2 := fun (W : World) (h : Owns w W [(w1.heap.size, [.int .u32 m0, .int .u32 m1, .int .u32 m2, .int .u32 m3, .int .u32 m4, .int .u32 m5, .int .u32 m6, .int .u32 m7, .int .u32 m8]), (w.heap.size + 1, [.int .i64 code, .bool refill, .bool true, .int .u32 pc]), (w.heap.size, [.int .u32 c0, .int .u32 c1, .int .u32 c2, .int .u32 c3, .int .u32 c4, .int .u32 c5, .int .u32 c6, .int .u32 c7, .int .u32 c8])]) => (h.nine 0 (w1.heap.size) _ _ _ _ _ _ _ _ _ rfl).2.2.1
  have r0_3 := fun (W : World) (h : Owns w W [(w1.heap.size, [.int .u32 m0, .int .u32 m1, .int .u32 m2, .int .u32 m3, .int .u32 m4, .int .u32 m5, .int .u32 m6, .int .u32 m7, .int .u32 m8]), (w.heap.size + 1, [.int .i64 code, .bool refill, .bool true, .int .u32 pc]), (w.heap.size, [.int .u32 c0, .int .u32 c1, .int .u32 c2, .int .u32 c3, .int .u32 c4, .int .u32 c5, .int .u32 c6, .int .u32 c7, .int .u32 c8])]) => (h.nine 0 (w1.heap.size) _ _ _ _ _ _ _ _ _ rfl).2.2.2.1
  have r0_4 := fun (W : World) (h : Owns w W [(w1.heap.size, [.int .u32 m0, .int .u32 m1, .int .u32 m2, .int .u32 m3, .int .u32 m4, .int .u32 m5, .int .u32 m6, .int .u32 m7, .int .u32 m8]), (w.heap.size + 1, [.int .i64 code, .bool refill, .bool true, .int .u32 pc]), (w.heap.size, [.int .u32 c0, .int .u32 c1, .int .u32 c2, .int .u32 c3, .int .u32 c4, .int .u32 c5, .int .u32 c6, .int .u32 c7, .int .u32 c8])]) => (h.nine 0 (w1.heap.size) _ _ _ _ _ _ _ _ _ rfl).2.2.2.2.1
  have r0_5 := fun (W : World) (h : Owns w W [(w1.heap.size, [.int .u32 m0, .int .u32 m1, .int .u32 m2, .int .u32 m3, .int .u32 m4, .int .u32 m5, .int .u32 m6, .int .u32 m7, .int .u32 m8]), (w.heap.size + 1, [.int .i64 code, .bool refill, .bool true, .int .u32 pc]), (w.heap.size, [.int .u32 c0, .int .u32 c1, .int .u32 c2, .int .u32 c3, .int .u32 c4, .int .u32 c5, .int .u32 c6, .int .u32 c7, .int .u32 c8])]) => (h.nine 0 (w1.heap.size) _ _ _ _ _ _ _ _ _ rfl).2.2.2.2.2.1
  have r0_6 := fun (W : World) (h : Owns w W [(w1.heap.size, [.int .u32 m0, .int .u32 m1, .int .u32 m2, .int .u32 m3, .int .u32 m4, .int .u32 m5, .int .u32 m6, .int .u32 m7, .int .u32 m8]), (w.heap.size + 1, [.int .i64 code, .bool refill, .bool true, .int .u32 pc]), (w.heap.size, [.int .u32 c0, .int .u32 c1, .int .u32 c2, .int .u32 c3, .int .u32 c4, .int .u32 c5, .int .u32 c6, .int .u32 c7, .int .u32 c8])]) => (h.nine 0 (w1.heap.size) _ _ _ _ _ _ _ _ _ rfl).2.2.2.2.2.2.1
  have r0_7 := fun (W : World) (h : Owns w W [(w1.heap.size, [.int .u32 m0, .int .u32 m1, .int .u32 m2, .int .u32 m3, .int .u32 m4, .int .u32 m5, .int .u32 m6, .int .u32 m7, .int .u32 m8]), (w.heap.size + 1, [.int .i64 code, .bool refill, .bool true, .int .u32 pc]), (w.heap.size, [.int .u32 c0, .int .u32 c1, .int .u32 c2, .int .u32 c3, .int .u32 c4, .int .u32 c5, .int .u32 c6, .int .u32 c7, .int .u32 c8])]) => (h.nine 0 (w1.heap.size) _ _ _ _ _ _ _ _ _ rfl).2.2.2.2.2.2.2.1
  have r0_8 := fun (W : World) (h : Owns w W [(w1.heap.size, [.int .u32 m0, .int .u32 m1, .int .u32 m2, .int .u32 m3, .int .u32 m4, .int .u32 m5, .int .u32 m6, .int .u32 m7, .int .u32 m8]), (w.heap.size + 1, [.int .i64 code, .bool refill, .bool true, .int .u32 pc]), (w.heap.size, [.int .u32 c0, .int .u32 c1, .int .u32 c2, .int .u32 c3, .int .u32 c4, .int .u32 c5, .int .u32 c6, .int .u32 c7, .int .u32 c8])]) => (h.nine 0 (w1.heap.size) _ _ _ _ _ _ _ _ _ rfl).2.2.2.2.2.2.2.2
  have r1_0 := fun (W : World) (h : Owns w W [(w1.heap.size, [.int .u32 m0, .int .u32 m1, .int .u32 m2, .int .u32 m3, .int .u32 m4, .int .u32 m5, .int .u32 m6, .int .u32 m7, .int .u32 m8]), (w.heap.size + 1, [.int .i64 code, .bool refill, .bool true, .int .u32 pc]), (w.heap.size, [.int .u32 c0, .int .u32 c1, .int .u32 c2, .int .u32 c3, .int .u32 c4, .int .u32 c5, .int .u32 c6, .int .u32 c7, .int .u32 c8])]) => (h.four 1 (w.heap.size + 1) _ _ _ _ rfl).1
  have r1_1 := fun (W : World) (h : Owns w W [(w1.heap.size, [.int .u32 m0, .int .u32 m1, .int .u32 m2, .int .u32 m3, .int .u32 m4, .int .u32 m5, .int .u32 m6, .int .u32 m7, .int .u32 m8]), (w.heap.size + 1, [.int .i64 code, .bool refill, .bool true, .int .u32 pc]), (w.heap.size, [.int .u32 c0, .int .u32 c1, .int .u32 c2, .int .u32 c3, .int .u32 c4, .int .u32 c5, .int .u32 c6, .int .u32 c7, .int .u32 c8])]) => (h.four 1 (w.heap.size + 1) _ _ _ _ rfl).2.1
  have r1_2 := fun (W : World) (h : Owns w W [(w1.heap.size, [.int .u32 m0, .int .u32 m1, .int .u32 m2, .int .u32 m3, .int .u32 m4, .int .u32 m5, .int .u32 m6, .int .u32 m7, .int .u32 m8]), (w.heap.size + 1, [.int .i64 code, .bool refill, .bool true, .int .u32 pc]), (w.heap.size, [.int .u32 c0, .int .u32 c1, .int .u32 c2, .int .u32 c3, .int .u32 c4, .int .u32 c5, .int .u32 c6, .int .u32 c7, .int .u32 c8])]) => (h.four 1 (w.heap.size + 1) _ _ _ _ rfl).2.2.1
  have r1_3 := fun (W : World) (h : Owns w W [(w1.heap.size, [.int .u32 m0, .int .u32 m1, .int .u32 m2, .int .u32 m3, .int .u32 m4, .int .u32 m5, .int .u32 m6, .int .u32 m7, .int .u32 m8]), (w.heap.size + 1, [.int .i64 code, .bool refill, .bool true, .int .u32 pc]), (w.heap.size, [.int .u32 c0, .int .u32 c1, .int .u32 c2, .int .u32 c3, .int .u32 c4, .int .u32 c5, .int .u32 c6, .int .u32 c7, .int .u32 c8])]) => (h.four 1 (w.heap.size + 1) _ _ _ _ rfl).2.2.2
  have r2_0 := fun (W : World) (h : Owns w W [(w1.heap.size, [.int .u32 m0, .int .u32 m1, .int .u32 m2, .int .u32 m3, .int .u32 m4, .int .u32 m5, .int .u32 m6, .int .u32 m7, .int .u32 m8]), (w.heap.size + 1, [.int .i64 code, .bool refill, .bool true, .int .u32 pc]), (w.heap.size, [.int .u32 c0, .int .u32 c1, .int .u32 c2, .int .u32 c3, .int .u32 c4, .int .u32 c5, .int .u32 c6, .int .u32 c7, .int .u32 c8])]) => (h.nine 2 (w.heap.size) _ _ _ _ _ _ _ _ _ rfl).1
  have r2_1 := fun (W : World) (h : Owns w W [(w1.heap.size, [.int .u32 m0, .int .u32 m1, .int .u32 m2, .int .u32 m3, .int .u32 m4, .int .u32 m5, .int .u32 m6, .int .u32 m7, .int .u32 m8]), (w.heap.size + 1, [.int .i64 code, .bool refill, .bool true, .int .u32 pc]), (w.heap.size, [.int .u32 c0, .int .u32 c1, .int .u32 c2, .int .u32 c3, .int .u32 c4, .int .u32 c5, .int .u32 c6, .int .u32 c7, .int .u32 c8])]) => (h.nine 2 (w.heap.size) _ _ _ _ _ _ _ _ _ rfl).2.1
  have r2_2 := fun (W : World) (h : Owns w W [(w1.heap.size, [.int .u32 m0, .int .u32 m1, .int .u32 m2, .int .u32 m3, .int .u32 m4, .int .u32 m5, .int .u32 m6, .int .u32 m7, .int .u32 m8]), (w.heap.size + 1, [.int .i64 code, .bool refill, .bool true, .int .u32 pc]), (w.heap.size, [.int .u32 c0, .int .u32 c1, .int .u32 c2, .int .u32 c3, .int .u32 c4, .int .u32 c5, .int .u32 c6, .int .u32 c7, .int .u32 c8])]) => (h.nine 2 (w.heap.size) _ _ _ _ _ _ _ _ _ rfl).2.2.1
  have r2_3 := fun (W : World) (h : Owns w W [(w1.heap.size, [.int .u32 m0, .int .u32 m1, .int .u32 m2, .int .u32 m3, .int .u32 m4, .int .u32 m5, .int .u32 m6, .int .u32 m7, .int .u32 m8]), (w.heap.size + 1, [.int .i64 code, .bool refill, .bool true, .int .u32 pc]), (w.heap.size, [.int .u32 c0, .int .u32 c1, .int .u32 c2, .int .u32 c3, .int .u32 c4, .int .u32 c5, .int .u32 c6, .int .u32 c7, .int .u32 c8])]) => (h.nine 2 (w.heap.size) _ _ _ _ _ _ _ _ _ rfl).2.2.2.1
  have r2_4 := fun (W : World) (h : Owns w W [(w1.heap.size, [.int .u32 m0, .int .u32 m1, .int .u32 m2, .int .u32 m3, .int .u32 m4, .int .u32 m5, .int .u32 m6, .int .u32 m7, .int .u32 m8]), (w.heap.size + 1, [.int .i64 code, .bool refill, .bool true, .int .u32 pc]), (w.heap.size, [.int .u32 c0, .int .u32 c1, .int .u32 c2, .int .u32 c3, .int .u32 c4, .int .u32 c5, .int .u32 c6, .int .u32 c7, .int .u32 c8])]) => (h.nine 2 (w.heap.size) _ _ _ _ _ _ _ _ _ rfl).2.2.2.2.1
  have r2_5 := fun (W : World) (h : Owns w W [(w1.heap.size, [.int .u32 m0, .int .u32 m1, .int .u32 m2, .int .u32 m3, .int .u32 m4, .int .u32 m5, .int .u32 m6, .int .u32 m7, .int .u32 m8]), (w.heap.size + 1, [.int .i64 code, .bool refill, .bool true, .int .u32 pc]), (w.heap.size, [.int .u32 c0, .int .u32 c1, .int .u32 c2, .int .u32 c3, .int .u32 c4, .int .u32 c5, .int .u32 c6, .int .u32 c7, .int .u32 c8])]) => (h.nine 2 (w.heap.size) _ _ _ _ _ _ _ _ _ rfl).2.2.2.2.2.1
  have r2_6 := fun (W : World) (h : Owns w W [(w1.heap.size, [.int .u32 m0, .int .u32 m1, .int .u32 m2, .int .u32 m3, .int .u32 m4, .int .u32 m5, .int .u32 m6, .int .u32 m7, .int .u32 m8]), (w.heap.size + 1, [.int .i64 code, .bool refill, .bool true, .int .u32 pc]), (w.heap.size, [.int .u32 c0, .int .u32 c1, .int .u32 c2, .int .u32 c3, .int .u32 c4, .int .u32 c5, .int .u32 c6, .int .u32 c7, .int .u32 c8])]) => (h.nine 2 (w.heap.size) _ _ _ _ _ _ _ _ _ rfl).2.2.2.2.2.2.1
  have r2_7 := fun (W : World) (h : Owns w W [(w1.heap.size, [.int .u32 m0, .int .u32 m1, .int .u32 m2, .int .u32 m3, .int .u32 m4, .int .u32 m5, .int .u32 m6, .int .u32 m7, .int .u32 m8]), (w.heap.size + 1, [.int .i64 code, .bool refill, .bool true, .int .u32 pc]), (w.heap.size, [.int .u32 c0, .int .u32 c1, .int .u32 c2, .int .u32 c3, .int .u32 c4, .int .u32 c5, .int .u32 c6, .int .u32 c7, .int .u32 c8])]) => (h.nine 2 (w.heap.size) _ _ _ _ _ _ _ _ _ rfl).2.2.2.2.2.2.2.1
  have r2_8 := fun (W : World) (h : Owns w W [(w1.heap.size, [.int .u32 m0, .int .u32 m1, .int .u32 m2, .int .u32 m3, .int .u32 m4, .int .u32 m5, .int .u32 m6, .int .u32 m7, .int .u32 m8]), (w.heap.size + 1, [.int .i64 code, .bool refill, .bool true, .int .u32 pc]), (w.heap.size, [.int .u32 c0, .int .u32 c1, .int .u32 c2, .int .u32 c3, .int .u32 c4, .int .u32 c5, .int .u32 c6, .int .u32 c7, .int .u32 c8])]) => (h.nine 2 (w.heap.size) _ _ _ _ _ _ _ _ _ rfl).2.2.2.2.2.2.2.2
  go_region_held3 (fun w' => Owns w w' [(w1.heap.size, [.int .u32 m0, .int .u32 m1, .int .u32 m2, .int .u32 m3, .int .u32 m4, .int .u32 m5, .int .u32 m6, .int .u32 m7, .int .u32 m8]), (w.heap.size + 1, [.int .i64 code, .bool refill, .bool true, .int .u32 pc]), (w.heap.size, [.int .u32 c0, .int .u32 c1, .int .u32 c2, .int .u32 c3, .int .u32 c4, .int .u32 c5, .int .u32 c6, .int .u32 c7, .int .u32 c8])])
    (first | exact F2.out.drew | exact Owns.call' (by assumption) (by assumption))
    (first | (go_at_call 12; (with_reducible refine (W2.out _).mono ?_); rintro e w18 ⟨rfl, hb⟩) | (go_at_call 10; (with_reducible refine (W3.out _).mono ?_); rintro e w18 ⟨rfl, hb⟩) | (go_at_call 12; (with_reducible refine (W4.out _).mono ?_); rintro e w18 ⟨rfl, hb⟩))
  obtain ⟨wc, ewc, F3⟩ : ∃ wc, wc = _ ∧ Aside0 (Owns w wc [(w1.heap.size, [.int .u32 m0, .int .u32 m1, .int .u32 m2, .int .u32 m3, .int .u32 m4, .int .u32 m5, .int .u32 m6, .int .u32 m7, .int .u32 m8]), (w.heap.size + 1, [.int .i64 code, .bool refill, .bool true, .int .u32 pc]), (w.heap.size, [.int .u32 c0, .int .u32 c1, .int .u32 c2, .int .u32 c3, .int .u32 c4, .int .u32 c5, .int .u32 c6, .int .u32 c7, .int .u32 c8])]) := ⟨_, rfl, ⟨by assumption⟩⟩
  subst ewc
  clear r0_0 r0_1 r0_2 r0_3 r0_4 r0_5 r0_6 r0_7 r0_8 r1_0 r1_1 r1_2 r1_3 r2_0 r2_1 r2_2 r2_3 r2_4 r2_5 r2_6 r2_7 r2_8 F2
  obtain ⟨g1_0, g1_1, g1_2, g1_3⟩ := F3.out.four 1 (w.heap.size + 1) _ _ _ _ rfl
  have gl1 := F3.out.lt 1 (w.heap.size + 1) _ rfl
  obtain ⟨g2_0, g2_1, g2_2, g2_3, g2_4, g2_5, g2_6, g2_7, g2_8⟩ := F3.out.nine 2 (w.heap.size) _ _ _ _ _ _ _ _ _ rfl
  have gl2 := F3.out.lt 2 (w.heap.size) _ rfl
  have fz := (F3.out.box 2 (w.heap.size) _ rfl).free 6 (by simp)
  go_wp2_with fail
  have F4 : Aside0 (Owns w _ [(w1.heap.size, [.int .u32 m0, .int .u32 m1, .int .u32 m2, .int .u32 m3, .int .u32 m4, .int .u32 m5, .int .u32 m6, .int .u32 m7, .int .u32 m8]), (w.heap.size + 1, [.int .i64 code, .bool refill, .bool true, .int .u32 pc]), (w.heap.size, [.int .u32 c0, .int .u32 c1, .int .u32 c2, .int .u32 c3, .int .u32 c4, .int .u32 c5, .int .u32 z, .int .u32 c7, .int .u32 c8])]) := ⟨F3.out.set 2 (w.heap.size) _ rfl 6 (.int .u32 z) (by simp) (by intro p hp; simp at hp; rcases hp with rfl | rfl <;> simp <;> omega)⟩
  clear F3 fz g1_0 g1_1 g1_2 g1_3 g2_0 g2_1 g2_2 g2_3 g2_4 g2_5 g2_6 g2_7 g2_8
  refine (R1.out _).mono ?_
  rintro e2 w2 ⟨rfl, hb⟩
  have F5' := Aside0.mk (F4.out.call hb)
  clear hb F4
  obtain ⟨g1_0, g1_1, g1_2, g1_3⟩ := F5'.out.four 1 (w.heap.size + 1) _ _ _ _ rfl
  have gl1 := F5'.out.lt 1 (w.heap.size + 1) _ rfl
  obtain ⟨g2_0, g2_1, g2_2, g2_3, g2_4, g2_5, g2_6, g2_7, g2_8⟩ := F5'.out.nine 2 (w.heap.size) _ _ _ _ _ _ _ _ _ rfl
  have gl2 := F5'.out.lt 2 (w.heap.size) _ rfl
  go_wp2_with fail
  clear g1_0 g1_1 g1_2 g1_3 g2_0 g2_1 g2_2 g2_3 g2_4 g2_5 g2_6 g2_7 g2_8
  have F5 : Aside0 (Owns w _ [(w2.heap.size, [.int .u32 c0, .int .u32 c1, .int .u32 c2, .int .u32 c3, .int .u32 c4, .int .u32 c5, .int .u32 s, .int .u32 am, .int .u32 e]), (w1.heap.size, [.int .u32 m0, .int .u32 m1, .int .u32 m2, .int .u32 m3, .int .u32 m4, .int .u32 m5, .int .u32 m6, .int .u32 m7, .int .u32 m8]), (w.heap.size + 1, [.int .i64 code, .bool refill, .bool true, .int .u32 pc]), (w.heap.size, [.int .u32 c0, .int .u32 c1, .int .u32 c2, .int .u32 c3, .int .u32 c4, .int .u32 c5, .int .u32 z, .int .u32 c7, .int .u32 c8])]) := ⟨F5'.out.new [.int .u32 c0, .int .u32 c1, .int .u32 c2, .int .u32 c3, .int .u32 c4, .int .u32 c5, .int .u32 s, .int .u32 am, .int .u32 e] 24⟩
  clear F5'
  refine (R2.out _).mono ?_
  rintro e3 w3 ⟨rfl, hb⟩
  have F6' := Aside0.mk (F5.out.call hb)
  clear hb F5
  obtain ⟨g0_0, g0_1, g0_2, g0_3, g0_4, g0_5, g0_6, g0_7, g0_8⟩ := F6'.out.nine 0 (w2.heap.size) _ _ _ _ _ _ _ _ _ rfl
  have gl0 := F6'.out.lt 0 (w2.heap.size) _ rfl
  obtain ⟨g2_0, g2_1, g2_2, g2_3⟩ := F6'.out.four 2 (w.heap.size + 1) _ _ _ _ rfl
  have gl2 := F6'.out.lt 2 (w.heap.size + 1) _ rfl
  go_wp2_with fail
  clear g0_0 g0_1 g0_2 g0_3 g0_4 g0_5 g0_6 g0_7 g0_8 g2_0 g2_1 g2_2 g2_3
  have F6 : Aside0 (Owns w _ [(w3.heap.size, [.int .u32 c0, .int .u32 c1, .int .u32 c2, .int .u32 c3, .int .u32 c4, .int .u32 c5, .int .u32 s, .int .u32 bm, .int .u32 e]), (w2.heap.size, [.int .u32 c0, .int .u32 c1, .int .u32 c2, .int .u32 c3, .int .u32 c4, .int .u32 c5, .int .u32 s, .int .u32 am, .int .u32 e]), (w1.heap.size, [.int .u32 m0, .int .u32 m1, .int .u32 m2, .int .u32 m3, .int .u32 m4, .int .u32 m5, .int .u32 m6, .int .u32 m7, .int .u32 m8]), (w.heap.size + 1, [.int .i64 code, .bool refill, .bool true, .int .u32 pc]), (w.heap.size, [.int .u32 c0, .int .u32 c1, .int .u32 c2, .int .u32 c3, .int .u32 c4, .int .u32 c5, .int .u32 z, .int .u32 c7, .int .u32 c8])]) := ⟨F6'.out.new [.int .u32 c0, .int .u32 c1, .int .u32 c2, .int .u32 c3, .int .u32 c4, .int .u32 c5, .int .u32 s, .int .u32 bm, .int .u32 e] 24⟩
  clear F6'
  have he2 := HE.out
  refine (R3.out _).mono ?_
  rintro e4 w4 ⟨rfl, hb⟩
  have F7' := Aside0.mk (F6.out.call hb)
  clear hb F6
  obtain ⟨g3_0, g3_1, g3_2, g3_3⟩ := F7'.out.four 3 (w.heap.size + 1) _ _ _ _ rfl
  have gl3 := F7'.out.lt 3 (w.heap.size + 1) _ rfl
  go_wp2_with fail
  clear g3_0 g3_1 g3_2 g3_3
  have F7 : Aside0 (Owns w _ [(w4.heap.size, [.int .u32 c0, .int .u32 c1, .int .u32 c2, .int .u32 c3, .int .u32 c4, .int .u32 c5, .int .u32 z, .int .u32 bm, .int .u32 e]), (w3.heap.size, [.int .u32 c0, .int .u32 c1, .int .u32 c2, .int .u32 c3, .int .u32 c4, .int .u32 c5, .int .u32 s, .int .u32 bm, .int .u32 e]), (w2.heap.size, [.int .u32 c0, .int .u32 c1, .int .u32 c2, .int .u32 c3, .int .u32 c4, .int .u32 c5, .int .u32 s, .int .u32 am, .int .u32 e]), (w1.heap.size, [.int .u32 m0, .int .u32 m1, .int .u32 m2, .int .u32 m3, .int .u32 m4, .int .u32 m5, .int .u32 m6, .int .u32 m7, .int .u32 m8]), (w.heap.size + 1, [.int .i64 code, .bool refill, .bool true, .int .u32 pc]), (w.heap.size, [.int .u32 c0, .int .u32 c1, .int .u32 c2, .int .u32 c3, .int .u32 c4, .int .u32 c5, .int .u32 z, .int .u32 c7, .int .u32 c8])]) := ⟨F7'.out.new [.int .u32 c0, .int .u32 c1, .int .u32 c2, .int .u32 c3, .int .u32 c4, .int .u32 c5, .int .u32 z, .int .u32 bm, .int .u32 e] 24⟩
  clear F7'
  have hd2 := HD.out
  refine (fixed_c _).mono ?_
  rintro e5 w5 ⟨rfl, hb⟩
  have F8 := Aside0.mk (F7.out.call hb)
  clear hb F7
  obtain ⟨g0_0, g0_1, g0_2, g0_3, g0_4, g0_5, g0_6, g0_7, g0_8⟩ := F8.out.nine 0 (w4.heap.size) _ _ _ _ _ _ _ _ _ rfl
  have gl0 := F8.out.lt 0 (w4.heap.size) _ rfl
  obtain ⟨g1_0, g1_1, g1_2, g1_3, g1_4, g1_5, g1_6, g1_7, g1_8⟩ := F8.out.nine 1 (w3.heap.size) _ _ _ _ _ _ _ _ _ rfl
  have gl1 := F8.out.lt 1 (w3.heap.size) _ rfl
  obtain ⟨g2_0, g2_1, g2_2, g2_3, g2_4, g2_5, g2_6, g2_7, g2_8⟩ := F8.out.nine 2 (w2.heap.size) _ _ _ _ _ _ _ _ _ rfl
  have gl2 := F8.out.lt 2 (w2.heap.size) _ rfl
  obtain ⟨g4_0, g4_1, g4_2, g4_3⟩ := F8.out.four 4 (w.heap.size + 1) _ _ _ _ rfl
  have gl4 := F8.out.lt 4 (w.heap.size + 1) _ rfl
  obtain ⟨g5_0, g5_1, g5_2, g5_3, g5_4, g5_5, g5_6, g5_7, g5_8⟩ := F8.out.nine 5 (w.heap.size) _ _ _ _ _ _ _ _ _ rfl
  have gl5 := F8.out.lt 5 (w.heap.size) _ rfl
  go_wp2_with fail
  clear g0_0 g0_1 g0_2 g0_3 g0_4 g0_5 g0_6 g0_7 g0_8 g1_0 g1_1 g1_2 g1_3 g1_4 g1_5 g1_6 g1_7 g1_8 g2_0 g2_1 g2_2 g2_3 g2_4 g2_5 g2_6 g2_7 g2_8 g4_0 g4_1 g4_2 g4_3 g5_0 g5_1 g5_2 g5_3 g5_4 g5_5 g5_6 g5_7 g5_8
  refine (P1.out _).mono ?_
  rintro e6 w6 ⟨rfl, hb⟩
  have F9 := Aside0.mk (F8.out.call hb)
  clear hb F8
  obtain ⟨g0_0, g0_1, g0_2, g0_3, g0_4, g0_5, g0_6, g0_7, g0_8⟩ := F9.out.nine 0 (w4.heap.size) _ _ _ _ _ _ _ _ _ rfl
  have gl0 := F9.out.lt 0 (w4.heap.size) _ rfl
  obtain ⟨g1_0, g1_1, g1_2, g1_3, g1_4, g1_5, g1_6, g1_7, g1_8⟩ := F9.out.nine 1 (w3.heap.size) _ _ _ _ _ _ _ _ _ rfl
  have gl1 := F9.out.lt 1 (w3.heap.size) _ rfl
  obtain ⟨g2_0, g2_1, g2_2, g2_3, g2_4, g2_5, g2_6, g2_7, g2_8⟩ := F9.out.nine 2 (w2.heap.size) _ _ _ _ _ _ _ _ _ rfl
  have gl2 := F9.out.lt 2 (w2.heap.size) _ rfl
  obtain ⟨g4_0, g4_1, g4_2, g4_3⟩ := F9.out.four 4 (w.heap.size + 1) _ _ _ _ rfl
  have gl4 := F9.out.lt 4 (w.heap.size + 1) _ rfl
  obtain ⟨g5_0, g5_1, g5_2, g5_3, g5_4, g5_5, g5_6, g5_7, g5_8⟩ := F9.out.nine 5 (w.heap.size) _ _ _ _ _ _ _ _ _ rfl
  have gl5 := F9.out.lt 5 (w.heap.size) _ rfl
  go_wp2_with fail
  clear g0_0 g0_1 g0_2 g0_3 g0_4 g0_5 g0_6 g0_7 g0_8 g1_0 g1_1 g1_2 g1_3 g1_4 g1_5 g1_6 g1_7 g1_8 g2_0 g2_1 g2_2 g2_3 g2_4 g2_5 g2_6 g2_7 g2_8 g4_0 g4_1 g4_2 g4_3 g5_0 g5_1 g5_2 g5_3 g5_4 g5_5 g5_6 g5_7 g5_8
  refine (P2.out _).mono ?_
  rintro e7 w7 ⟨rfl, hb⟩
  have F10 := Aside0.mk (F9.out.call hb)
  clear hb F9
  obtain ⟨g0_0, g0_1, g0_2, g0_3, g0_4, g0_5, g0_6, g0_7, g0_8⟩ := F10.out.nine 0 (w4.heap.size) _ _ _ _ _ _ _ _ _ rfl
  have gl0 := F10.out.lt 0 (w4.heap.size) _ rfl
  obtain ⟨g1_0, g1_1, g1_2, g1_3, g1_4, g1_5, g1_6, g1_7, g1_8⟩ := F10.out.nine 1 (w3.heap.size) _ _ _ _ _ _ _ _ _ rfl
  have gl1 := F10.out.lt 1 (w3.heap.size) _ rfl
  obtain ⟨g2_0, g2_1, g2_2, g2_3, g2_4, g2_5, g2_6, g2_7, g2_8⟩ := F10.out.nine 2 (w2.heap.size) _ _ _ _ _ _ _ _ _ rfl
  have gl2 := F10.out.lt 2 (w2.heap.size) _ rfl
  obtain ⟨g4_0, g4_1, g4_2, g4_3⟩ := F10.out.four 4 (w.heap.size + 1) _ _ _ _ rfl
  have gl4 := F10.out.lt 4 (w.heap.size + 1) _ rfl
  obtain ⟨g5_0, g5_1, g5_2, g5_3, g5_4, g5_5, g5_6, g5_7, g5_8⟩ := F10.out.nine 5 (w.heap.size) _ _ _ _ _ _ _ _ _ rfl
  have gl5 := F10.out.lt 5 (w.heap.size) _ rfl
  go_wp2_with fail
  clear g0_0 g0_1 g0_2 g0_3 g0_4 g0_5 g0_6 g0_7 g0_8 g1_0 g1_1 g1_2 g1_3 g1_4 g1_5 g1_6 g1_7 g1_8 g2_0 g2_1 g2_2 g2_3 g2_4 g2_5 g2_6 g2_7 g2_8 g4_0 g4_1 g4_2 g4_3 g5_0 g5_1 g5_2 g5_3 g5_4 g5_5 g5_6 g5_7 g5_8
  go_ret
  exact ⟨rfl, F10.out.below⟩
end Go.Proofs.Yticibpginpkbfaa.LawD
