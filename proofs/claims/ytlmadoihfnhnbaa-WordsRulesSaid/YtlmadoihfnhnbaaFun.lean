/- The functions that the laws reach, as Lean functions, each with the proof that the Go code comes to its answers (lines of the kit's print, gathered). No conditions of their own. -/
import Derived.Test.YtlmadoihfnhnbaaProg
import Derived.Below
import Derived.Deep.Draws
import Derived.Deep.AppendLies
import Derived.Maps.AppendAt
import Derived.OwnWalk
import Derived.Laws.BytesArg
import Derived.Laws.MakeOwn
import Derived.Laws.OwnMore
import Derived.Deep.OwnRows
import Derived.Tactics
import Derived.Lib.ConvBytes
import Derived.Laws.Slices
import Derived.WalkKit
import Derived.KernelRfl
import Derived.RowKit3
import Derived.Deep.LoopGhost
import Derived.Deep.QuietTactic
import Derived.BigQuiet
import Derived.WideLaws
import Derived.Deep.DeepCutAuto
import Derived.Deep.CutBlock
import Derived.Deep.RegionHeld3
import Derived.Laws.Rows
import Derived.Lib.AppendStr
import Derived.ArgAppend
import Derived.Laws.IdiomCopy
import Derived.OrdersHeld
import Derived.Laws.BitsLemmas
import Derived.RowKit
import Derived.Test.YtlmadoihfnhnbaaWWords
import Derived.Test.YtlmadoihfnhnbaaWLast
import Derived.Test.YtlmadoihfnhnbaaWTab
import Derived.Test.YtlmadoihfnhnbaaWFour
import Derived.Test.YtlmadoihfnhnbaaWQPut
import Derived.Test.YtlmadoihfnhnbaaWApart
import Derived.Test.YtlmadoihfnhnbaaWArr
import Derived.Test.YtlmadoihfnhnbaaWZeros
import Derived.Test.YtlmadoihfnhnbaaWFoot
import Derived.Test.YtlmadoihfnhnbaaWKept
import Derived.Test.YtlmadoihfnhnbaaWShare
import Derived.Test.YtlmadoihfnhnbaaWN
import Derived.Test.YtlmadoihfnhnbaaWFootNe
import Derived.Test.YtlmadoihfnhnbaaWAt
import Derived.Test.YtlmadoihfnhnbaaWEqStruct
import Derived.Test.YtlmadoihfnhnbaaWRepsOne
import Derived.Test.YtlmadoihfnhnbaaWInv
import Derived.Test.YtlmadoihfnhnbaaWInvWords
import Derived.Test.YtlmadoihfnhnbaaWGuard
import Derived.Test.YtlmadoihfnhnbaaWNEv
import Derived.Test.YtlmadoihfnhnbaaWMore
namespace Go.Proofs.Ytlmadoihfnhnbaa.Fun
open Go.RowKit Go.Proofs.YtlmadoihfnhnbaaW.PrintWords Go.Proofs.YtlmadoihfnhnbaaW.PrintLast Go.Proofs.YtlmadoihfnhnbaaW.PrintMore
attribute [local go_sem] max2_int min2_int max_two min_two max_three min_three max_four min_four   -- for this text's walks alone
set_option linter.unusedVariables false
set_option linter.unusedSimpArgs false



def errW : Option Int → Value
  | none => .nilIface
  | some c => .iface 0 (.int .i64 c)
theorem errW_none : errW none = .nilIface := rfl
theorem errW_some (c : Int) : errW (some c) = .iface 0 (.int .i64 c) := rfl

-- the values' own types

/-! ### zoetroperef01_Mean: function 29 -/
def zoetroperef01_Mean.f (a0 : Int) : Option (Int) := if (wrap64 (a0)) ≥ 2147483648 then (some (wrap64 ((wrap64 (a0)) - 4294967296))) else (some (wrap64 (a0)))
set_option maxHeartbeats 8000000 in
set_option maxRecDepth 100000 in
theorem zoetroperef01_Mean.calls (a0 : Int) (r : Int) (w : World) (h : zoetroperef01_Mean.f a0 = some r) :
    Calls Try.prog 29 #[.int .u32 a0] w fun e w' => e = .returned (.int .i64 r) ∧ Drawn0 w w' := by
  have H : (if (wrap64 (a0)) ≥ 2147483648 then (some (wrap64 ((wrap64 (a0)) - 4294967296))) else (some (wrap64 (a0)))) = some r := h
  clear h
  by_cases c2 : (wrap64 (a0)) ≥ 2147483648
  · rw [if_pos c2] at H
    have c2b0 : decide (2147483648 ≤ (wrap64 (a0))) = true := decide_eq_true c2
    clear c2
    obtain rfl := Option.some.inj H
    go_enter Try.func29, Try.ntmps29
    go_wp2
    go_ret
    exact ⟨by first | rfl | (simp; done) | (simp [*]; done), by repeat (first | exact Drawn0.refl _ | apply Drawn0.step)⟩
  · rw [if_neg c2] at H
    have c2b0 : decide (2147483648 ≤ (wrap64 (a0))) = false := decide_eq_false c2
    clear c2
    obtain rfl := Option.some.inj H
    go_enter Try.func29, Try.ntmps29
    go_wp2
    go_ret
    exact ⟨by first | rfl | (simp; done) | (simp [*]; done), by repeat (first | exact Drawn0.refl _ | apply Drawn0.step)⟩

/-! ### zoetroperef01_Word: function 30 -/
def zoetroperef01_Word.f (a0 : Int) : Option (Int) := if (Int.tmod a0 4294967296) < 0 then (some ((wrap64 ((Int.tmod a0 4294967296) + 4294967296)) % 4294967296)) else (some ((Int.tmod a0 4294967296) % 4294967296))
set_option maxHeartbeats 8000000 in
set_option maxRecDepth 100000 in
theorem zoetroperef01_Word.calls (a0 : Int) (r : Int) (w : World) (h : zoetroperef01_Word.f a0 = some r) :
    Calls Try.prog 30 #[.int .i64 a0] w fun e w' => e = .returned (.int .u32 r) ∧ Drawn0 w w' := by
  have H : (if (Int.tmod a0 4294967296) < 0 then (some ((wrap64 ((Int.tmod a0 4294967296) + 4294967296)) % 4294967296)) else (some ((Int.tmod a0 4294967296) % 4294967296))) = some r := h
  clear h
  by_cases c2 : (Int.tmod a0 4294967296) < 0
  · rw [if_pos c2] at H
    have c2b0 : decide ((Int.tmod a0 4294967296) < 0) = true := decide_eq_true c2
    clear c2
    obtain rfl := Option.some.inj H
    go_enter Try.func30, Try.ntmps30
    go_wp2
    go_ret
    exact ⟨by first | rfl | (simp; done) | (simp [*]; done), by repeat (first | exact Drawn0.refl _ | apply Drawn0.step)⟩
  · rw [if_neg c2] at H
    have c2b0 : decide ((Int.tmod a0 4294967296) < 0) = false := decide_eq_false c2
    clear c2
    obtain rfl := Option.some.inj H
    go_enter Try.func30, Try.ntmps30
    go_wp2
    go_ret
    exact ⟨by first | rfl | (simp; done) | (simp [*]; done), by repeat (first | exact Drawn0.refl _ | apply Drawn0.step)⟩

/-! ### zoetroperef01_out: function 32 -/
def zoetroperef01_out.f (a0 : Int) : Option (Bool) := if a0 < (-2147483648) then (some true) else (some (decide (a0 > 2147483647)))
set_option maxHeartbeats 8000000 in
set_option maxRecDepth 100000 in
theorem zoetroperef01_out.calls (a0 : Int) (r : Bool) (w : World) (h : zoetroperef01_out.f a0 = some r) :
    Calls Try.prog 32 #[.int .i64 a0] w fun e w' => e = .returned (.bool r) ∧ Drawn0 w w' := by
  have H : (if a0 < (-2147483648) then (some true) else (some (decide (a0 > 2147483647)))) = some r := h
  clear h
  by_cases c2 : a0 < (-2147483648)
  · rw [if_pos c2] at H
    have c2b0 : decide (a0 < (-2147483648)) = true := decide_eq_true c2
    clear c2
    obtain rfl := Option.some.inj H
    go_enter Try.func32, Try.ntmps32
    go_wp2
    go_ret
    exact ⟨by first | rfl | (simp; done) | (simp [*]; done), by repeat (first | exact Drawn0.refl _ | apply Drawn0.step)⟩
  · rw [if_neg c2] at H
    have c2b0 : decide (a0 < (-2147483648)) = false := decide_eq_false c2
    clear c2
    obtain rfl := Option.some.inj H
    go_enter Try.func32, Try.ntmps32
    go_wp2
    go_ret
    exact ⟨by first | rfl | (simp; done) | (simp [*]; done), by repeat (first | exact Drawn0.refl _ | apply Drawn0.step)⟩

/-! ### zoetroperef01_mod: function 34 -/
def zoetroperef01_mod.f (a0 : Int) : Option (Int) := if (Int.tmod a0 32) < 0 then (some (wrap64 ((Int.tmod a0 32) + 32))) else (some (Int.tmod a0 32))
set_option maxHeartbeats 8000000 in
set_option maxRecDepth 100000 in
theorem zoetroperef01_mod.calls (a0 : Int) (r : Int) (w : World) (h : zoetroperef01_mod.f a0 = some r) :
    Calls Try.prog 34 #[.int .i64 a0] w fun e w' => e = .returned (.int .i64 r) ∧ Drawn0 w w' := by
  have H : (if (Int.tmod a0 32) < 0 then (some (wrap64 ((Int.tmod a0 32) + 32))) else (some (Int.tmod a0 32))) = some r := h
  clear h
  by_cases c2 : (Int.tmod a0 32) < 0
  · rw [if_pos c2] at H
    have c2b0 : decide ((Int.tmod a0 32) < 0) = true := decide_eq_true c2
    clear c2
    obtain rfl := Option.some.inj H
    go_enter Try.func34, Try.ntmps34
    go_wp2
    go_ret
    exact ⟨by first | rfl | (simp; done) | (simp [*]; done), by repeat (first | exact Drawn0.refl _ | apply Drawn0.step)⟩
  · rw [if_neg c2] at H
    have c2b0 : decide ((Int.tmod a0 32) < 0) = false := decide_eq_false c2
    clear c2
    obtain rfl := Option.some.inj H
    go_enter Try.func34, Try.ntmps34
    go_wp2
    go_ret
    exact ⟨by first | rfl | (simp; done) | (simp [*]; done), by repeat (first | exact Drawn0.refl _ | apply Drawn0.step)⟩

/-! ### zoetroperef01_down: function 35 -/
def zoetroperef01_down.f (a0 : Int) (a1 : Int) : Option (Int) := if a1 = 0 then (none) else (if (Int.tmod a0 a1) < 0 then (some (wrap64 ((wrap64 (Int.tdiv a0 a1)) - 1))) else (some (wrap64 (Int.tdiv a0 a1))))
set_option maxHeartbeats 8000000 in
set_option maxRecDepth 100000 in
theorem zoetroperef01_down.calls (a0 : Int) (a1 : Int) (r : Int) (w : World) (h : zoetroperef01_down.f a0 a1 = some r) :
    Calls Try.prog 35 #[.int .i64 a0, .int .i64 a1] w fun e w' => e = .returned (.int .i64 r) ∧ Drawn0 w w' := by
  have H : (if a1 = 0 then (none) else (if (Int.tmod a0 a1) < 0 then (some (wrap64 ((wrap64 (Int.tdiv a0 a1)) - 1))) else (some (wrap64 (Int.tdiv a0 a1))))) = some r := h
  clear h
  by_cases c3 : a1 = 0
  · rw [if_pos c3] at H
    exact absurd H (by simp)
  · rw [if_neg c3] at H
    have c3b0 : (a1 == 0) = false := beq_eq_false_iff_ne.mpr c3
    have c3b1 : (a1 != 0) = true := bne_iff_ne.mpr c3
    by_cases c4 : (Int.tmod a0 a1) < 0
    · rw [if_pos c4] at H
      have c4b0 : decide ((Int.tmod a0 a1) < 0) = true := decide_eq_true c4
      clear c4
      obtain rfl := Option.some.inj H
      go_enter Try.func35, Try.ntmps35
      go_wp2
      go_ret
      exact ⟨by first | rfl | (simp; done) | (simp [*]; done), by repeat (first | exact Drawn0.refl _ | apply Drawn0.step)⟩
    · rw [if_neg c4] at H
      have c4b0 : decide ((Int.tmod a0 a1) < 0) = false := decide_eq_false c4
      clear c4
      obtain rfl := Option.some.inj H
      go_enter Try.func35, Try.ntmps35
      go_wp2
      go_ret
      exact ⟨by first | rfl | (simp; done) | (simp [*]; done), by repeat (first | exact Drawn0.refl _ | apply Drawn0.step)⟩

/-! ### words_fill: function 33 -/
def words_fill.f (a0 : Int) : Option (Int) := if a0 = 2 then (some 1) else (some 0)
set_option maxHeartbeats 8000000 in
set_option maxRecDepth 100000 in
theorem words_fill.calls (a0 : Int) (r : Int) (w : World) (h : words_fill.f a0 = some r) :
    Calls Try.prog 33 #[.int .i64 a0] w fun e w' => e = .returned (.int .i64 r) ∧ Drawn0 w w' := by
  have H : (if a0 = 2 then (some 1) else (some 0)) = some r := h
  clear h
  by_cases c2 : a0 = 2
  · rw [if_pos c2] at H
    have c2b0 : (a0 == 2) = true := beq_iff_eq.mpr c2
    have c2b1 : (a0 != 2) = false := bne_eq_false_iff_eq.mpr c2
    clear c2
    obtain rfl := Option.some.inj H
    go_enter Try.func33, Try.ntmps33
    go_wp2
    go_ret
    exact ⟨by first | rfl | (simp; done) | (simp [*]; done), by repeat (first | exact Drawn0.refl _ | apply Drawn0.step)⟩
  · rw [if_neg c2] at H
    have c2b0 : (a0 == 2) = false := beq_eq_false_iff_ne.mpr c2
    have c2b1 : (a0 != 2) = true := bne_iff_ne.mpr c2
    obtain rfl := Option.some.inj H
    go_enter Try.func33, Try.ntmps33
    go_wp2
    go_ret
    exact ⟨by first | rfl | (simp; done) | (simp [*]; done), by repeat (first | exact Drawn0.refl _ | apply Drawn0.step)⟩

/-! ### words_Mul: function 12 -/
def words_Mul.f (a0 : Int) (a1 : Int) (a2 : Bool) : Option (Int × Int) := if a2 = true then (some (((IntKind.u64.wrap (wrap64 ((wrap64 (wrap32 (a0))) * (wrap64 (wrap32 (a1)))))) / 4294967296) % 4294967296, (IntKind.u64.wrap (wrap64 ((wrap64 (wrap32 (a0))) * (wrap64 (wrap32 (a1)))))) % 4294967296)) else (some (((IntKind.u64.wrap ((IntKind.u64.wrap (a0)) * (IntKind.u64.wrap (a1)))) / 4294967296) % 4294967296, (IntKind.u64.wrap ((IntKind.u64.wrap (a0)) * (IntKind.u64.wrap (a1)))) % 4294967296))
set_option maxHeartbeats 8000000 in
set_option maxRecDepth 100000 in
theorem words_Mul.calls (a0 : Int) (a1 : Int) (a2 : Bool) (r1 : Int) (r2 : Int) (w : World) (h : words_Mul.f a0 a1 a2 = some (r1, r2)) :
    Calls Try.prog 12 #[.int .u32 a0, .int .u32 a1, .bool a2] w fun e w' => e = .returned (.tuple #[.int .u32 r1, .int .u32 r2]) ∧ Drawn0 w w' := by
  have H : (if a2 = true then (some (((IntKind.u64.wrap (wrap64 ((wrap64 (wrap32 (a0))) * (wrap64 (wrap32 (a1)))))) / 4294967296) % 4294967296, (IntKind.u64.wrap (wrap64 ((wrap64 (wrap32 (a0))) * (wrap64 (wrap32 (a1)))))) % 4294967296)) else (some (((IntKind.u64.wrap ((IntKind.u64.wrap (a0)) * (IntKind.u64.wrap (a1)))) / 4294967296) % 4294967296, (IntKind.u64.wrap ((IntKind.u64.wrap (a0)) * (IntKind.u64.wrap (a1)))) % 4294967296))) = some (r1, r2) := h
  clear h
  by_cases c4 : a2 = true
  · subst c4
    have H1 : (some (((IntKind.u64.wrap (wrap64 ((wrap64 (wrap32 (a0))) * (wrap64 (wrap32 (a1)))))) / 4294967296) % 4294967296, (IntKind.u64.wrap (wrap64 ((wrap64 (wrap32 (a0))) * (wrap64 (wrap32 (a1)))))) % 4294967296)) = some (r1, r2) := by rw [if_pos rfl] at H; exact H
    clear H
    have H := H1
    clear H1
    simp only [Option.some.injEq, Prod.mk.injEq] at H
    obtain ⟨rfl, rfl⟩ := H
    go_enter Try.func12, Try.ntmps12
    go_wp2
    go_ret2
    exact ⟨by first | rfl | (simp; done) | (simp [*]; done), by repeat (first | exact Drawn0.refl _ | apply Drawn0.step)⟩
  · replace c4 := Bool.eq_false_iff.mpr c4
    subst c4
    have H1 : (some (((IntKind.u64.wrap ((IntKind.u64.wrap (a0)) * (IntKind.u64.wrap (a1)))) / 4294967296) % 4294967296, (IntKind.u64.wrap ((IntKind.u64.wrap (a0)) * (IntKind.u64.wrap (a1)))) % 4294967296)) = some (r1, r2) := by rw [if_neg (show ¬ (false = true) by decide)] at H; exact H
    clear H
    have H := H1
    clear H1
    simp only [Option.some.injEq, Prod.mk.injEq] at H
    obtain ⟨rfl, rfl⟩ := H
    go_enter Try.func12, Try.ntmps12
    go_wp2
    go_ret2
    exact ⟨by first | rfl | (simp; done) | (simp [*]; done), by repeat (first | exact Drawn0.refl _ | apply Drawn0.step)⟩

/-! ### words_Div: function 15 -/
def words_Div.f (a0 : Int) (a1 : Int) (a2 : Bool) : Option (Int × Int × Int) := if a1 = 0 then (some (0, 0, 10)) else (if a2 = true then (if (wrap64 (wrap32 (a1))) = 0 then (none) else (some ((wrap64 (Int.tdiv (wrap64 (wrap32 (a0))) (wrap64 (wrap32 (a1))))) % 4294967296, (Int.tmod (wrap64 (wrap32 (a0))) (wrap64 (wrap32 (a1)))) % 4294967296, 0))) else (some ((Int.tdiv a0 a1) % 4294967296, Int.tmod a0 a1, 0)))
set_option maxHeartbeats 8000000 in
set_option maxRecDepth 100000 in
theorem words_Div.calls (a0 : Int) (a1 : Int) (a2 : Bool) (r1 : Int) (r2 : Int) (r3 : Int) (w : World) (h : words_Div.f a0 a1 a2 = some (r1, r2, r3)) :
    Calls Try.prog 15 #[.int .u32 a0, .int .u32 a1, .bool a2] w fun e w' => e = .returned (.tuple #[.int .u32 r1, .int .u32 r2, .int .i64 r3]) ∧ Drawn0 w w' := by
  have H : (if a1 = 0 then (some (0, 0, 10)) else (if a2 = true then (if (wrap64 (wrap32 (a1))) = 0 then (none) else (some ((wrap64 (Int.tdiv (wrap64 (wrap32 (a0))) (wrap64 (wrap32 (a1))))) % 4294967296, (Int.tmod (wrap64 (wrap32 (a0))) (wrap64 (wrap32 (a1)))) % 4294967296, 0))) else (some ((Int.tdiv a0 a1) % 4294967296, Int.tmod a0 a1, 0)))) = some (r1, r2, r3) := h
  clear h
  by_cases c4 : a1 = 0
  · rw [if_pos c4] at H
    have c4b0 : (a1 == 0) = true := beq_iff_eq.mpr c4
    have c4b1 : (a1 != 0) = false := bne_eq_false_iff_eq.mpr c4
    clear c4
    simp only [Option.some.injEq, Prod.mk.injEq] at H
    obtain ⟨rfl, rfl, rfl⟩ := H
    go_enter Try.func15, Try.ntmps15
    go_wp2
    repeat (go_quiet (fail); try go_wp2)
    go_ret3
    exact ⟨by first | rfl | (simp; done) | (simp [*]; done), by repeat (first | exact Drawn0.refl _ | apply Drawn0.step)⟩
  · rw [if_neg c4] at H
    have c4b0 : (a1 == 0) = false := beq_eq_false_iff_ne.mpr c4
    have c4b1 : (a1 != 0) = true := bne_iff_ne.mpr c4
    by_cases c5 : a2 = true
    · subst c5
      have H1 : (if (wrap64 (wrap32 (a1))) = 0 then (none) else (some ((wrap64 (Int.tdiv (wrap64 (wrap32 (a0))) (wrap64 (wrap32 (a1))))) % 4294967296, (Int.tmod (wrap64 (wrap32 (a0))) (wrap64 (wrap32 (a1)))) % 4294967296, 0))) = some (r1, r2, r3) := by rw [if_pos rfl] at H; exact H
      clear H
      have H := H1
      clear H1
      by_cases c6 : (wrap64 (wrap32 (a1))) = 0
      · rw [if_pos c6] at H
        exact absurd H (by simp)
      · rw [if_neg c6] at H
        have c6b0 : ((wrap64 (wrap32 (a1))) == 0) = false := beq_eq_false_iff_ne.mpr c6
        have c6b1 : ((wrap64 (wrap32 (a1))) != 0) = true := bne_iff_ne.mpr c6
        simp only [Option.some.injEq, Prod.mk.injEq] at H
        obtain ⟨rfl, rfl, rfl⟩ := H
        go_enter Try.func15, Try.ntmps15
        go_wp2
        repeat (go_quiet (fail); try go_wp2)
        go_ret3
        exact ⟨by first | rfl | (simp; done) | (simp [*]; done), by repeat (first | exact Drawn0.refl _ | apply Drawn0.step)⟩
    · replace c5 := Bool.eq_false_iff.mpr c5
      subst c5
      have H1 : (some ((Int.tdiv a0 a1) % 4294967296, Int.tmod a0 a1, 0)) = some (r1, r2, r3) := by rw [if_neg (show ¬ (false = true) by decide)] at H; exact H
      clear H
      have H := H1
      clear H1
      simp only [Option.some.injEq, Prod.mk.injEq] at H
      obtain ⟨rfl, rfl, rfl⟩ := H
      go_enter Try.func15, Try.ntmps15
      go_wp2
      repeat (go_quiet (fail); try go_wp2)
      go_ret3
      exact ⟨by first | rfl | (simp; done) | (simp [*]; done), by repeat (first | exact Drawn0.refl _ | apply Drawn0.step)⟩

/-! ### words_Less: function 17 -/
def words_Less.f (a0 : Int) (a1 : Int) (a2 : Bool) : Option (Bool) := if a2 = true then (some (decide ((wrap32 (a0)) < (wrap32 (a1))))) else (some (decide (a0 < a1)))
set_option maxHeartbeats 8000000 in
set_option maxRecDepth 100000 in
theorem words_Less.calls (a0 : Int) (a1 : Int) (a2 : Bool) (r : Bool) (w : World) (h : words_Less.f a0 a1 a2 = some r) :
    Calls Try.prog 17 #[.int .u32 a0, .int .u32 a1, .bool a2] w fun e w' => e = .returned (.bool r) ∧ Drawn0 w w' := by
  have H : (if a2 = true then (some (decide ((wrap32 (a0)) < (wrap32 (a1))))) else (some (decide (a0 < a1)))) = some r := h
  clear h
  by_cases c4 : a2 = true
  · subst c4
    have H1 : (some (decide ((wrap32 (a0)) < (wrap32 (a1))))) = some r := by rw [if_pos rfl] at H; exact H
    clear H
    have H := H1
    clear H1
    obtain rfl := Option.some.inj H
    go_enter Try.func17, Try.ntmps17
    go_wp2
    go_ret
    exact ⟨by first | rfl | (simp; done) | (simp [*]; done), by repeat (first | exact Drawn0.refl _ | apply Drawn0.step)⟩
  · replace c4 := Bool.eq_false_iff.mpr c4
    subst c4
    have H1 : (some (decide (a0 < a1))) = some r := by rw [if_neg (show ¬ (false = true) by decide)] at H; exact H
    clear H
    have H := H1
    clear H1
    obtain rfl := Option.some.inj H
    go_enter Try.func17, Try.ntmps17
    go_wp2
    go_ret
    exact ⟨by first | rfl | (simp; done) | (simp [*]; done), by repeat (first | exact Drawn0.refl _ | apply Drawn0.step)⟩

/-! ### words_Ext: function 19 -/
def words_Ext.j0 : Nat → Int → Int → Bool → Bool → Option (Int)
  | 0, _, _, _, _ => none
  | k + 1, x0, x1, x2, x12 => if x12 = true then (some x0) else (if 0 ≤ (wrap64 (32 - x1)) then (if x2 = true then (some ((shr .i32 (wrap32 (shl .u32 x0 (wrap64 (32 - x1)))) (wrap64 (32 - x1))) % 4294967296)) else (some (shr .u32 (shl .u32 x0 (wrap64 (32 - x1))) (wrap64 (32 - x1))))) else (none))
def words_Ext.f (k : Nat) (a0 : Int) (a1 : Int) (a2 : Bool) : Option (Int) := if a1 < 1 then (words_Ext.j0 k a0 a1 a2 true) else (words_Ext.j0 k a0 a1 a2 (decide (a1 ≥ 32)))
theorem words_Ext.mono_l : ∀ k, (∀ y0 y1 y2 y3, LeO (words_Ext.j0 k y0 y1 y2 y3) (words_Ext.j0 (k + 1) y0 y1 y2 y3))
  | 0 => fun _ _ _ _ r h => by simp [words_Ext.j0] at h
  | k + 1 => by
    have ih0 := words_Ext.mono_l k
    · intro y0 y1 y2 y3
      unfold words_Ext.j0
      repeat' first
      | (with_reducible exact ih0 _ _ _ _)
      | (with_reducible exact LeO.refl _)
      | (with_reducible exact LeO.none _)
      | (with_reducible refine LeO.ite ?_ ?_)
      | (with_reducible refine LeO.bind ?_ (fun _ => ?_))
      | exact ih0 _ _ _ _
      | exact LeO.none _
      | refine LeO.ite ?_ ?_
      | refine LeO.bind ?_ (fun _ => ?_)
theorem words_Ext.mono : ∀ a0 a1 a2 k, LeO (words_Ext.f k a0 a1 a2) (words_Ext.f (k + 1) a0 a1 a2) := by
  intro a0 a1 a2 k
  have ih0 := words_Ext.mono_l k
  unfold words_Ext.f
  repeat' first
      | (with_reducible exact ih0 _ _ _ _)
      | (with_reducible exact LeO.refl _)
      | (with_reducible exact LeO.none _)
      | (with_reducible refine LeO.ite ?_ ?_)
      | (with_reducible refine LeO.bind ?_ (fun _ => ?_))
      | exact ih0 _ _ _ _
      | exact LeO.none _
      | refine LeO.ite ?_ ?_
      | refine LeO.bind ?_ (fun _ => ?_)
set_option maxHeartbeats 8000000 in
set_option maxRecDepth 100000 in
theorem words_Ext.calls (k : Nat) (a0 : Int) (a1 : Int) (a2 : Bool) (r : Int) (w : World) (h : words_Ext.f k a0 a1 a2 = some r) :
    Calls Try.prog 19 #[.int .u32 a0, .int .i64 a1, .bool a2] w fun e w' => e = .returned (.int .u32 r) ∧ Drawn0 w w' := by
  have H : (if a1 < 1 then (words_Ext.j0 k a0 a1 a2 true) else (words_Ext.j0 k a0 a1 a2 (decide (a1 ≥ 32)))) = some r := h
  clear h
  have HC4 := Aside0.mk H
  clear H
  go_enter Try.func19, Try.ntmps19
  go_upto_region 1 with (fail)
  go_cut [12] (fun v12 wc => ∃ (kq : Nat) (x12_3 : Bool), v12 = .bool x12_3 ∧ Aside0 (words_Ext.j0 kq a0 a1 a2 x12_3 = some r) ∧ Aside0 (kq ≤ k) ∧ Drawn0 w wc)
  case first =>
    have H := HC4.out
    clear HC4
    by_cases c5 : a1 < 1
    · rw [if_pos c5] at H
      have c5b0 : decide (a1 < 1) = true := decide_eq_true c5
      clear c5
      (first | rw [c5b0] | (simp only [i64_w, i32_w]; rw [c5b0]) | skip)
      have H' := Aside0.mk H
      clear H
      go_wp2
      go_meet
      case rel => exact ⟨_, (true), (by first | rfl | (simp; done) | (simp [*]; done)), H', ⟨by first | omega | exact Nat.le_refl _⟩, by repeat (first | exact Drawn0.refl _ | apply Drawn0.step)⟩
    · rw [if_neg c5] at H
      have c5b0 : decide (a1 < 1) = false := decide_eq_false c5
      clear c5
      (first | rw [c5b0] | (simp only [i64_w, i32_w]; rw [c5b0]) | skip)
      have H' := Aside0.mk H
      clear H
      go_wp2
      go_meet
      case rel => exact ⟨_, (decide (a1 ≥ 32)), (by first | rfl | (simp; done) | (simp [*]; done)), H', ⟨by first | omega | exact Nat.le_refl _⟩, by repeat (first | exact Drawn0.refl _ | apply Drawn0.step)⟩
  case rest =>
    clear HC4
    try clear c1
    try clear p2
    try clear c5
    try clear c5b0
    obtain ⟨kq, x12_3, rfl, HA, HJ3, ⟨mc3, rfl⟩⟩ := hcut
    cases kq with
    | zero => exact absurd HA.out (by simp [words_Ext.j0])
    | succ kj3 =>
      have H := HA.out
      clear HA
      simp only [words_Ext.j0] at H
      by_cases c6 : x12_3 = true
      · subst c6
        have H1 : (some a0) = some r := by rw [if_pos rfl] at H; exact H
        clear H
        have H := H1
        clear H1
        obtain rfl := Option.some.inj H
        go_wp2
        go_ret
        exact ⟨by first | rfl | (simp; done) | (simp [*]; done), by repeat (first | exact Drawn0.refl _ | apply Drawn0.step)⟩
      · replace c6 := Bool.eq_false_iff.mpr c6
        subst c6
        have H1 : (if 0 ≤ (wrap64 (32 - a1)) then (if a2 = true then (some ((shr .i32 (wrap32 (shl .u32 a0 (wrap64 (32 - a1)))) (wrap64 (32 - a1))) % 4294967296)) else (some (shr .u32 (shl .u32 a0 (wrap64 (32 - a1))) (wrap64 (32 - a1))))) else (none)) = some r := by rw [if_neg (show ¬ (false = true) by decide)] at H; exact H
        clear H
        have H := H1
        clear H1
        obtain ⟨ji7, hji7⟩ : ∃ j_ : Int, (wrap64 (32 - a1)) = j_ := ⟨_, rfl⟩
        replace H : (if 0 ≤ (ji7) then (if a2 = true then (some ((shr .i32 (wrap32 (shl .u32 a0 (ji7))) (ji7)) % 4294967296)) else (some (shr .u32 (shl .u32 a0 (ji7)) (ji7)))) else (none)) = some r := by first | (rw [hji7] at H; exact H) | (simp only [hji7] at H ⊢; exact H)
        have hji7w : (IntKind.i64.wrap (32 - a1)) = ji7 := (i64_w _).trans hji7
        by_cases c8 : 0 ≤ (ji7)
        · rw [if_pos c8] at H
          have c8b0 := eq_true c8
          have c8b1 : decide (0 ≤ (ji7)) = true := decide_eq_true c8
          clear c8
          obtain ⟨ji9, hji9⟩ : ∃ j_ : Int, (shl .u32 a0 (ji7)) = j_ := ⟨_, rfl⟩
          replace H : (if a2 = true then (some ((shr .i32 (wrap32 (ji9)) (ji7)) % 4294967296)) else (some (shr .u32 (ji9) (ji7)))) = some r := by first | (rw [hji9] at H; exact H) | (simp only [hji9] at H ⊢; exact H)
          have hji9_ : (IntKind.u32.wrap (a0 * 2 ^ min (ji7).toNat 32)) = ji9 := hji9
          have hji9z : (ji7) ≤ 32 → (IntKind.u32.wrap (a0 * 2 ^ (ji7).toNat)) = ji9 := shl_small hji9
          by_cases c10 : a2 = true
          · subst c10
            have H1 : (some ((shr .i32 (wrap32 (ji9)) (ji7)) % 4294967296)) = some r := by rw [if_pos rfl] at H; exact H
            clear H
            have H := H1
            clear H1
            have c11b0 := eq_true (of_decide_eq_true (by first | (with_reducible assumption) | assumption) : 0 ≤ (ji7))
            obtain ⟨ji12, hji12⟩ : ∃ j_ : Int, (shr .i32 (wrap32 (ji9)) (ji7)) = j_ := ⟨_, rfl⟩
            replace H : (some ((ji12) % 4294967296)) = some r := by first | (rw [hji12] at H; exact H) | (simp only [hji12] at H ⊢; exact H)
            have hji12_ : ((wrap32 (ji9)) / 2 ^ min (ji7).toNat 32) = ji12 := hji12
            have hji12z : (ji7) ≤ 32 → ((wrap32 (ji9)) / 2 ^ (ji7).toNat) = ji12 := shr_small hji12
            obtain rfl := Option.some.inj H
            go_wp2
            go_ret
            exact ⟨by first | rfl | (simp; done) | (simp only [← hji7, ← hji9, ← hji12] <;> (first | rfl | simp)) | (simp [*]; done), by repeat (first | exact Drawn0.refl _ | apply Drawn0.step)⟩
          · replace c10 := Bool.eq_false_iff.mpr c10
            subst c10
            have H1 : (some (shr .u32 (ji9) (ji7))) = some r := by rw [if_neg (show ¬ (false = true) by decide)] at H; exact H
            clear H
            have H := H1
            clear H1
            have c13b0 := eq_true (of_decide_eq_true (by first | (with_reducible assumption) | assumption) : 0 ≤ (ji7))
            obtain ⟨ji14, hji14⟩ : ∃ j_ : Int, (shr .u32 (ji9) (ji7)) = j_ := ⟨_, rfl⟩
            replace H : (some ji14) = some r := by first | (rw [hji14] at H; exact H) | (simp only [hji14] at H ⊢; exact H)
            have hji14_ : ((ji9) / 2 ^ min (ji7).toNat 32) = ji14 := hji14
            have hji14z : (ji7) ≤ 32 → ((ji9) / 2 ^ (ji7).toNat) = ji14 := shr_small hji14
            obtain rfl := Option.some.inj H
            go_wp2
            go_ret
            exact ⟨by first | rfl | (simp; done) | (simp only [← hji7, ← hji9, ← hji14] <;> (first | rfl | simp)) | (simp [*]; done), by repeat (first | exact Drawn0.refl _ | apply Drawn0.step)⟩
        · rw [if_neg c8] at H
          exact absurd H (by simp)

/-! ### words_Add: function 23 -/
def words_Add.f (a0 : Int) (a1 : Int) : Option (Int × Bool) := some ((a0 + a1) % 4294967296, (((Go.bits .and .u32 (Go.bits .xor .u32 a0 ((a0 + a1) % 4294967296)) (Go.bits .xor .u32 a1 ((a0 + a1) % 4294967296))) / 2147483648) == 1))
set_option maxHeartbeats 8000000 in
set_option maxRecDepth 100000 in
theorem words_Add.calls (a0 : Int) (a1 : Int) (r1 : Int) (r2 : Bool) (w : World) (h : words_Add.f a0 a1 = some (r1, r2)) :
    Calls Try.prog 23 #[.int .u32 a0, .int .u32 a1] w fun e w' => e = .returned (.tuple #[.int .u32 r1, .bool r2]) ∧ Drawn0 w w' := by
  have H : (some ((a0 + a1) % 4294967296, (((Go.bits .and .u32 (Go.bits .xor .u32 a0 ((a0 + a1) % 4294967296)) (Go.bits .xor .u32 a1 ((a0 + a1) % 4294967296))) / 2147483648) == 1))) = some (r1, r2) := h
  clear h
  simp only [Option.some.injEq, Prod.mk.injEq] at H
  obtain ⟨rfl, rfl⟩ := H
  go_enter Try.func23, Try.ntmps23
  go_wp2
  go_ret2
  exact ⟨by first | rfl | (simp; done) | (simp [*]; done), by repeat (first | exact Drawn0.refl _ | apply Drawn0.step)⟩

-- NOT PRINTED: function 14 (zoetropelaw01_fixed)

/-! ### zoetroperef01_Add: function 24 -/
def zoetroperef01_Add.f (a0 : Int) (a1 : Int) : Option (Int × Bool) := (zoetroperef01_Word.f (wrap64 ((wrap64 (a0)) + (wrap64 (a1))))).bind fun t113 => ((zoetroperef01_Mean.f a0).bind fun t114 => ((zoetroperef01_Mean.f a1).bind fun t115 => ((zoetroperef01_out.f (wrap64 (t114 + t115))).bind fun t116 => (some (t113, t116)))))
set_option maxHeartbeats 8000000 in
set_option maxRecDepth 100000 in
theorem zoetroperef01_Add.calls (a0 : Int) (a1 : Int) (r1 : Int) (r2 : Bool) (w : World) (h : zoetroperef01_Add.f a0 a1 = some (r1, r2)) :
    Calls Try.prog 24 #[.int .u32 a0, .int .u32 a1] w fun e w' => e = .returned (.tuple #[.int .u32 r1, .bool r2]) ∧ Drawn0 w w' := by
  have H : ((zoetroperef01_Word.f (wrap64 ((wrap64 (a0)) + (wrap64 (a1))))).bind fun t113 => ((zoetroperef01_Mean.f a0).bind fun t114 => ((zoetroperef01_Mean.f a1).bind fun t115 => ((zoetroperef01_out.f (wrap64 (t114 + t115))).bind fun t116 => (some (t113, t116)))))) = some (r1, r2) := h
  clear h
  replace H := Option.bind_eq_some_iff.mp H
  obtain ⟨t113, A30, H⟩ := H
  replace H : ((zoetroperef01_Mean.f a0).bind fun t114 => ((zoetroperef01_Mean.f a1).bind fun t115 => ((zoetroperef01_out.f (wrap64 (t114 + t115))).bind fun t116 => (some (t113, t116))))) = some (r1, r2) := H
  have A3 := Aside0.mk A30
  clear A30
  replace H := Option.bind_eq_some_iff.mp H
  obtain ⟨t114, A40, H⟩ := H
  replace H : ((zoetroperef01_Mean.f a1).bind fun t115 => ((zoetroperef01_out.f (wrap64 (t114 + t115))).bind fun t116 => (some (t113, t116)))) = some (r1, r2) := H
  have A4 := Aside0.mk A40
  clear A40
  replace H := Option.bind_eq_some_iff.mp H
  obtain ⟨t115, A50, H⟩ := H
  replace H : ((zoetroperef01_out.f (wrap64 (t114 + t115))).bind fun t116 => (some (t113, t116))) = some (r1, r2) := H
  have A5 := Aside0.mk A50
  clear A50
  replace H := Option.bind_eq_some_iff.mp H
  obtain ⟨t116, A60, H⟩ := H
  replace H : (some (t113, t116)) = some (r1, r2) := H
  have A6 := Aside0.mk A60
  clear A60
  simp only [Option.some.injEq, Prod.mk.injEq] at H
  obtain ⟨rfl, rfl⟩ := H
  go_enter Try.func24, Try.ntmps24
  go_wp2_with (first | ((with_reducible refine gate_callee (f := 30) rfl ?_); refine goesL_ (some 11) rfl rfl Try.func30 (by kernel_rfl) rfl #[.int .i64 (wrap64 ((wrap64 (a0)) + (wrap64 (a1))))] rfl (by (try simp only [List.map_toArray, List.map_cons, List.map_nil]); first | done | rfl | (simp only [List.length_drop, List.length_take]; rfl)) ?_; (with_reducible refine (zoetroperef01_Word.calls (wrap64 ((wrap64 (a0)) + (wrap64 (a1)))) t113 _ A3.out).mono ?_); rintro e w' ⟨rfl, ⟨nd, rfl⟩⟩; refine ⟨_, rfl, ?_⟩) | ((with_reducible refine gate_callee (f := 29) rfl ?_); refine goesL_ (some 13) rfl rfl Try.func29 (by kernel_rfl) rfl #[.int .u32 a0] rfl (by (try simp only [List.map_toArray, List.map_cons, List.map_nil]); first | done | rfl | (simp only [List.length_drop, List.length_take]; rfl)) ?_; (with_reducible refine (zoetroperef01_Mean.calls a0 t114 _ A4.out).mono ?_); rintro e w' ⟨rfl, ⟨nd, rfl⟩⟩; refine ⟨_, rfl, ?_⟩) | ((with_reducible refine gate_callee (f := 29) rfl ?_); refine goesL_ (some 15) rfl rfl Try.func29 (by kernel_rfl) rfl #[.int .u32 a1] rfl (by (try simp only [List.map_toArray, List.map_cons, List.map_nil]); first | done | rfl | (simp only [List.length_drop, List.length_take]; rfl)) ?_; (with_reducible refine (zoetroperef01_Mean.calls a1 t115 _ A5.out).mono ?_); rintro e w' ⟨rfl, ⟨nd, rfl⟩⟩; refine ⟨_, rfl, ?_⟩) | ((with_reducible refine gate_callee (f := 32) rfl ?_); refine goesL_ (some 17) rfl rfl Try.func32 (by kernel_rfl) rfl #[.int .i64 (wrap64 (t114 + t115))] rfl (by (try simp only [List.map_toArray, List.map_cons, List.map_nil]); first | done | rfl | (simp only [List.length_drop, List.length_take]; rfl)) ?_; (with_reducible refine (zoetroperef01_out.calls (wrap64 (t114 + t115)) t116 _ A6.out).mono ?_); rintro e w' ⟨rfl, ⟨nd, rfl⟩⟩; refine ⟨_, rfl, ?_⟩))
  go_ret2
  exact ⟨by first | rfl | (simp; done) | (simp [*]; done), by repeat (first | exact Drawn0.refl _ | apply Drawn0.step)⟩

/-! ### words_Sub: function 25 -/
def words_Sub.f (a0 : Int) (a1 : Int) : Option (Int × Bool) := some ((a0 - a1) % 4294967296, (((Go.bits .and .u32 (Go.bits .xor .u32 a0 a1) (Go.bits .xor .u32 a0 ((a0 - a1) % 4294967296))) / 2147483648) == 1))
set_option maxHeartbeats 8000000 in
set_option maxRecDepth 100000 in
theorem words_Sub.calls (a0 : Int) (a1 : Int) (r1 : Int) (r2 : Bool) (w : World) (h : words_Sub.f a0 a1 = some (r1, r2)) :
    Calls Try.prog 25 #[.int .u32 a0, .int .u32 a1] w fun e w' => e = .returned (.tuple #[.int .u32 r1, .bool r2]) ∧ Drawn0 w w' := by
  have H : (some ((a0 - a1) % 4294967296, (((Go.bits .and .u32 (Go.bits .xor .u32 a0 a1) (Go.bits .xor .u32 a0 ((a0 - a1) % 4294967296))) / 2147483648) == 1))) = some (r1, r2) := h
  clear h
  simp only [Option.some.injEq, Prod.mk.injEq] at H
  obtain ⟨rfl, rfl⟩ := H
  go_enter Try.func25, Try.ntmps25
  go_wp2
  go_ret2
  exact ⟨by first | rfl | (simp; done) | (simp [*]; done), by repeat (first | exact Drawn0.refl _ | apply Drawn0.step)⟩

/-! ### zoetroperef01_Sub: function 26 -/
def zoetroperef01_Sub.f (a0 : Int) (a1 : Int) : Option (Int × Bool) := (zoetroperef01_Word.f (wrap64 ((wrap64 (a0)) - (wrap64 (a1))))).bind fun t117 => ((zoetroperef01_Mean.f a0).bind fun t118 => ((zoetroperef01_Mean.f a1).bind fun t119 => ((zoetroperef01_out.f (wrap64 (t118 - t119))).bind fun t120 => (some (t117, t120)))))
set_option maxHeartbeats 8000000 in
set_option maxRecDepth 100000 in
theorem zoetroperef01_Sub.calls (a0 : Int) (a1 : Int) (r1 : Int) (r2 : Bool) (w : World) (h : zoetroperef01_Sub.f a0 a1 = some (r1, r2)) :
    Calls Try.prog 26 #[.int .u32 a0, .int .u32 a1] w fun e w' => e = .returned (.tuple #[.int .u32 r1, .bool r2]) ∧ Drawn0 w w' := by
  have H : ((zoetroperef01_Word.f (wrap64 ((wrap64 (a0)) - (wrap64 (a1))))).bind fun t117 => ((zoetroperef01_Mean.f a0).bind fun t118 => ((zoetroperef01_Mean.f a1).bind fun t119 => ((zoetroperef01_out.f (wrap64 (t118 - t119))).bind fun t120 => (some (t117, t120)))))) = some (r1, r2) := h
  clear h
  replace H := Option.bind_eq_some_iff.mp H
  obtain ⟨t117, A30, H⟩ := H
  replace H : ((zoetroperef01_Mean.f a0).bind fun t118 => ((zoetroperef01_Mean.f a1).bind fun t119 => ((zoetroperef01_out.f (wrap64 (t118 - t119))).bind fun t120 => (some (t117, t120))))) = some (r1, r2) := H
  have A3 := Aside0.mk A30
  clear A30
  replace H := Option.bind_eq_some_iff.mp H
  obtain ⟨t118, A40, H⟩ := H
  replace H : ((zoetroperef01_Mean.f a1).bind fun t119 => ((zoetroperef01_out.f (wrap64 (t118 - t119))).bind fun t120 => (some (t117, t120)))) = some (r1, r2) := H
  have A4 := Aside0.mk A40
  clear A40
  replace H := Option.bind_eq_some_iff.mp H
  obtain ⟨t119, A50, H⟩ := H
  replace H : ((zoetroperef01_out.f (wrap64 (t118 - t119))).bind fun t120 => (some (t117, t120))) = some (r1, r2) := H
  have A5 := Aside0.mk A50
  clear A50
  replace H := Option.bind_eq_some_iff.mp H
  obtain ⟨t120, A60, H⟩ := H
  replace H : (some (t117, t120)) = some (r1, r2) := H
  have A6 := Aside0.mk A60
  clear A60
  simp only [Option.some.injEq, Prod.mk.injEq] at H
  obtain ⟨rfl, rfl⟩ := H
  go_enter Try.func26, Try.ntmps26
  go_wp2_with (first | ((with_reducible refine gate_callee (f := 30) rfl ?_); refine goesL_ (some 11) rfl rfl Try.func30 (by kernel_rfl) rfl #[.int .i64 (wrap64 ((wrap64 (a0)) - (wrap64 (a1))))] rfl (by (try simp only [List.map_toArray, List.map_cons, List.map_nil]); first | done | rfl | (simp only [List.length_drop, List.length_take]; rfl)) ?_; (with_reducible refine (zoetroperef01_Word.calls (wrap64 ((wrap64 (a0)) - (wrap64 (a1)))) t117 _ A3.out).mono ?_); rintro e w' ⟨rfl, ⟨nd, rfl⟩⟩; refine ⟨_, rfl, ?_⟩) | ((with_reducible refine gate_callee (f := 29) rfl ?_); refine goesL_ (some 13) rfl rfl Try.func29 (by kernel_rfl) rfl #[.int .u32 a0] rfl (by (try simp only [List.map_toArray, List.map_cons, List.map_nil]); first | done | rfl | (simp only [List.length_drop, List.length_take]; rfl)) ?_; (with_reducible refine (zoetroperef01_Mean.calls a0 t118 _ A4.out).mono ?_); rintro e w' ⟨rfl, ⟨nd, rfl⟩⟩; refine ⟨_, rfl, ?_⟩) | ((with_reducible refine gate_callee (f := 29) rfl ?_); refine goesL_ (some 15) rfl rfl Try.func29 (by kernel_rfl) rfl #[.int .u32 a1] rfl (by (try simp only [List.map_toArray, List.map_cons, List.map_nil]); first | done | rfl | (simp only [List.length_drop, List.length_take]; rfl)) ?_; (with_reducible refine (zoetroperef01_Mean.calls a1 t119 _ A5.out).mono ?_); rintro e w' ⟨rfl, ⟨nd, rfl⟩⟩; refine ⟨_, rfl, ?_⟩) | ((with_reducible refine gate_callee (f := 32) rfl ?_); refine goesL_ (some 17) rfl rfl Try.func32 (by kernel_rfl) rfl #[.int .i64 (wrap64 (t118 - t119))] rfl (by (try simp only [List.map_toArray, List.map_cons, List.map_nil]); first | done | rfl | (simp only [List.length_drop, List.length_take]; rfl)) ?_; (with_reducible refine (zoetroperef01_out.calls (wrap64 (t118 - t119)) t120 _ A6.out).mono ?_); rintro e w' ⟨rfl, ⟨nd, rfl⟩⟩; refine ⟨_, rfl, ?_⟩))
  go_ret2
  exact ⟨by first | rfl | (simp; done) | (simp [*]; done), by repeat (first | exact Drawn0.refl _ | apply Drawn0.step)⟩

-- NOT PRINTED: function 6 (zoetropelaw01_WordsAdds)
/-! ### zoetroperef01_Less: function 18 -/
def zoetroperef01_Less.f (a0 : Int) (a1 : Int) (a2 : Bool) : Option (Bool) := if a2 = true then ((zoetroperef01_Mean.f a0).bind fun t119 => ((zoetroperef01_Mean.f a1).bind fun t120 => (some (decide (t119 < t120))))) else (some (decide ((wrap64 (a0)) < (wrap64 (a1)))))
set_option maxHeartbeats 8000000 in
set_option maxRecDepth 100000 in
theorem zoetroperef01_Less.calls (a0 : Int) (a1 : Int) (a2 : Bool) (r : Bool) (w : World) (h : zoetroperef01_Less.f a0 a1 a2 = some r) :
    Calls Try.prog 18 #[.int .u32 a0, .int .u32 a1, .bool a2] w fun e w' => e = .returned (.bool r) ∧ Drawn0 w w' := by
  have H : (if a2 = true then ((zoetroperef01_Mean.f a0).bind fun t119 => ((zoetroperef01_Mean.f a1).bind fun t120 => (some (decide (t119 < t120))))) else (some (decide ((wrap64 (a0)) < (wrap64 (a1)))))) = some r := h
  clear h
  by_cases c4 : a2 = true
  · subst c4
    have H1 : ((zoetroperef01_Mean.f a0).bind fun t119 => ((zoetroperef01_Mean.f a1).bind fun t120 => (some (decide (t119 < t120))))) = some r := by rw [if_pos rfl] at H; exact H
    clear H
    have H := H1
    clear H1
    replace H := Option.bind_eq_some_iff.mp H
    obtain ⟨t119, A50, H⟩ := H
    replace H : ((zoetroperef01_Mean.f a1).bind fun t120 => (some (decide (t119 < t120)))) = some r := H
    have A5 := Aside0.mk A50
    clear A50
    replace H := Option.bind_eq_some_iff.mp H
    obtain ⟨t120, A60, H⟩ := H
    replace H : (some (decide (t119 < t120))) = some r := H
    have A6 := Aside0.mk A60
    clear A60
    obtain rfl := Option.some.inj H
    go_enter Try.func18, Try.ntmps18
    go_wp2_with (first | ((with_reducible refine gate_callee (f := 29) rfl ?_); refine goesL_ (some 9) rfl rfl Try.func29 (by kernel_rfl) rfl #[.int .u32 a0] rfl (by (try simp only [List.map_toArray, List.map_cons, List.map_nil]); first | done | rfl | (simp only [List.length_drop, List.length_take]; rfl)) ?_; (with_reducible refine (zoetroperef01_Mean.calls a0 t119 _ A5.out).mono ?_); rintro e w' ⟨rfl, ⟨nd, rfl⟩⟩; refine ⟨_, rfl, ?_⟩) | ((with_reducible refine gate_callee (f := 29) rfl ?_); refine goesL_ (some 11) rfl rfl Try.func29 (by kernel_rfl) rfl #[.int .u32 a1] rfl (by (try simp only [List.map_toArray, List.map_cons, List.map_nil]); first | done | rfl | (simp only [List.length_drop, List.length_take]; rfl)) ?_; (with_reducible refine (zoetroperef01_Mean.calls a1 t120 _ A6.out).mono ?_); rintro e w' ⟨rfl, ⟨nd, rfl⟩⟩; refine ⟨_, rfl, ?_⟩))
    go_ret
    exact ⟨by first | rfl | (simp; done) | (simp [*]; done), by repeat (first | exact Drawn0.refl _ | apply Drawn0.step)⟩
  · replace c4 := Bool.eq_false_iff.mpr c4
    subst c4
    have H1 : (some (decide ((wrap64 (a0)) < (wrap64 (a1))))) = some r := by rw [if_neg (show ¬ (false = true) by decide)] at H; exact H
    clear H
    have H := H1
    clear H1
    obtain rfl := Option.some.inj H
    go_enter Try.func18, Try.ntmps18
    go_wp2
    go_ret
    exact ⟨by first | rfl | (simp; done) | (simp [*]; done), by repeat (first | exact Drawn0.refl _ | apply Drawn0.step)⟩

-- NOT PRINTED: function 4 (zoetropelaw01_WordsDivs)
/-! ### zoetroperef01_Ext: function 20 -/
mutual
def zoetroperef01_Ext.j0 : Nat → Int → Int → Bool → Bool → Option (Int)
  | 0, _, _, _, _ => none
  | k + 1, x0, x1, x2, x15 => if x15 = true then (some x0) else (zoetroperef01_Ext.l0 k x0 x1 x2 1 0)
def zoetroperef01_Ext.l0 : Nat → Int → Int → Bool → Int → Int → Option (Int)
  | 0, _, _, _, _, _ => none
  | k + 1, x0, x1, x2, x7, x8 => if x8 < x1 then (zoetroperef01_Ext.l0 k x0 x1 x2 (wrap64 (x7 * 2)) (wrap64 (x8 + 1))) else (if x7 = 0 then (none) else (if x2 = true then (if (Int.tmod (wrap64 (x0)) x7) ≥ (wrap64 (Int.tdiv x7 2)) then ((zoetroperef01_Word.f (wrap64 ((Int.tmod (wrap64 (x0)) x7) - x7))).bind fun t113 => (some t113)) else ((zoetroperef01_Word.f (Int.tmod (wrap64 (x0)) x7)).bind fun t114 => (some t114))) else ((zoetroperef01_Word.f (Int.tmod (wrap64 (x0)) x7)).bind fun t115 => (some t115))))
end
def zoetroperef01_Ext.f (k : Nat) (a0 : Int) (a1 : Int) (a2 : Bool) : Option (Int) := if a1 < 1 then (zoetroperef01_Ext.j0 k a0 a1 a2 true) else (zoetroperef01_Ext.j0 k a0 a1 a2 (decide (a1 > 31)))
theorem zoetroperef01_Ext.mono_l : ∀ k, (∀ y0 y1 y2 y3, LeO (zoetroperef01_Ext.j0 k y0 y1 y2 y3) (zoetroperef01_Ext.j0 (k + 1) y0 y1 y2 y3)) ∧ (∀ y0 y1 y2 y3 y4, LeO (zoetroperef01_Ext.l0 k y0 y1 y2 y3 y4) (zoetroperef01_Ext.l0 (k + 1) y0 y1 y2 y3 y4))
  | 0 => ⟨fun _ _ _ _ r h => by simp [zoetroperef01_Ext.j0] at h, fun _ _ _ _ _ r h => by simp [zoetroperef01_Ext.l0] at h⟩
  | k + 1 => by
    obtain ⟨ih0, ih1⟩ := zoetroperef01_Ext.mono_l k
    refine ⟨?_, ?_⟩
    · intro y0 y1 y2 y3
      unfold zoetroperef01_Ext.j0
      repeat' first
      | (with_reducible exact ih0 _ _ _ _)
      | (with_reducible exact ih1 _ _ _ _ _)
      | (with_reducible exact LeO.refl _)
      | (with_reducible exact LeO.none _)
      | (with_reducible refine LeO.ite ?_ ?_)
      | (with_reducible refine LeO.bind ?_ (fun _ => ?_))
      | exact ih0 _ _ _ _
      | exact ih1 _ _ _ _ _
      | exact LeO.none _
      | refine LeO.ite ?_ ?_
      | refine LeO.bind ?_ (fun _ => ?_)
    · intro y0 y1 y2 y3 y4
      unfold zoetroperef01_Ext.l0
      repeat' first
      | (with_reducible exact ih0 _ _ _ _)
      | (with_reducible exact ih1 _ _ _ _ _)
      | (with_reducible exact LeO.refl _)
      | (with_reducible exact LeO.none _)
      | (with_reducible refine LeO.ite ?_ ?_)
      | (with_reducible refine LeO.bind ?_ (fun _ => ?_))
      | exact ih0 _ _ _ _
      | exact ih1 _ _ _ _ _
      | exact LeO.none _
      | refine LeO.ite ?_ ?_
      | refine LeO.bind ?_ (fun _ => ?_)
theorem zoetroperef01_Ext.mono : ∀ a0 a1 a2 k, LeO (zoetroperef01_Ext.f k a0 a1 a2) (zoetroperef01_Ext.f (k + 1) a0 a1 a2) := by
  intro a0 a1 a2 k
  obtain ⟨ih0, ih1⟩ := zoetroperef01_Ext.mono_l k
  unfold zoetroperef01_Ext.f
  repeat' first
      | (with_reducible exact ih0 _ _ _ _)
      | (with_reducible exact ih1 _ _ _ _ _)
      | (with_reducible exact LeO.refl _)
      | (with_reducible exact LeO.none _)
      | (with_reducible refine LeO.ite ?_ ?_)
      | (with_reducible refine LeO.bind ?_ (fun _ => ?_))
      | exact ih0 _ _ _ _
      | exact ih1 _ _ _ _ _
      | exact LeO.none _
      | refine LeO.ite ?_ ?_
      | refine LeO.bind ?_ (fun _ => ?_)
set_option maxHeartbeats 8000000 in
set_option maxRecDepth 100000 in
theorem zoetroperef01_Ext.calls (k : Nat) (a0 : Int) (a1 : Int) (a2 : Bool) (r : Int) (w : World) (h : zoetroperef01_Ext.f k a0 a1 a2 = some r) :
    Calls Try.prog 20 #[.int .u32 a0, .int .i64 a1, .bool a2] w fun e w' => e = .returned (.int .u32 r) ∧ Drawn0 w w' := by
  have H : (if a1 < 1 then (zoetroperef01_Ext.j0 k a0 a1 a2 true) else (zoetroperef01_Ext.j0 k a0 a1 a2 (decide (a1 > 31)))) = some r := h
  clear h
  have HC4 := Aside0.mk H
  clear H
  go_enter Try.func20, Try.ntmps20
  go_upto_region 1 with (fail)
  go_cut [15] (fun v15 wc => ∃ (kq : Nat) (x15_3 : Bool), v15 = .bool x15_3 ∧ Aside0 (zoetroperef01_Ext.j0 kq a0 a1 a2 x15_3 = some r) ∧ Aside0 (kq ≤ k) ∧ Drawn0 w wc)
  case first =>
    have H := HC4.out
    clear HC4
    by_cases c5 : a1 < 1
    · rw [if_pos c5] at H
      have c5b0 : decide (a1 < 1) = true := decide_eq_true c5
      clear c5
      (first | rw [c5b0] | (simp only [i64_w, i32_w]; rw [c5b0]) | skip)
      have H' := Aside0.mk H
      clear H
      go_wp2
      go_meet
      case rel => exact ⟨_, (true), (by first | rfl | (simp; done) | (simp [*]; done)), H', ⟨by first | omega | exact Nat.le_refl _⟩, by repeat (first | exact Drawn0.refl _ | apply Drawn0.step)⟩
    · rw [if_neg c5] at H
      have c5b0 : decide (a1 < 1) = false := decide_eq_false c5
      clear c5
      (first | rw [c5b0] | (simp only [i64_w, i32_w]; rw [c5b0]) | skip)
      have H' := Aside0.mk H
      clear H
      go_wp2
      go_meet
      case rel => exact ⟨_, (decide (a1 > 31)), (by first | rfl | (simp; done) | (simp [*]; done)), H', ⟨by first | omega | exact Nat.le_refl _⟩, by repeat (first | exact Drawn0.refl _ | apply Drawn0.step)⟩
  case rest =>
    clear HC4
    try clear c2
    try clear p2
    try clear c5
    try clear c5b0
    obtain ⟨kq, x15_3, rfl, HA, HJ3, ⟨mc3, rfl⟩⟩ := hcut
    cases kq with
    | zero => exact absurd HA.out (by simp [zoetroperef01_Ext.j0])
    | succ kj3 =>
      have H := HA.out
      clear HA
      simp only [zoetroperef01_Ext.j0] at H
      by_cases c6 : x15_3 = true
      · subst c6
        have H1 : (some a0) = some r := by rw [if_pos rfl] at H; exact H
        clear H
        have H := H1
        clear H1
        obtain rfl := Option.some.inj H
        go_wp2
        go_ret
        exact ⟨by first | rfl | (simp; done) | (simp [*]; done), by repeat (first | exact Drawn0.refl _ | apply Drawn0.step)⟩
      · replace c6 := Bool.eq_false_iff.mpr c6
        subst c6
        have H1 : (zoetroperef01_Ext.l0 kj3 a0 a1 a2 1 0) = some r := by rw [if_neg (show ¬ (false = true) by decide)] at H; exact H
        clear H
        have H := H1
        clear H1
        have H' := Aside0.mk H
        clear H
        go_wp2
        go_loopg [7, 8] kj3 (fun kq v7 v8 w' => ∃ (x7_2 : Int) (x8_2 : Int), v7 = .int .i64 x7_2 ∧ v8 = .int .i64 x8_2 ∧ Aside0 (zoetroperef01_Ext.l0 kq a0 a1 a2 x7_2 x8_2 = some r) ∧ Aside0 (kq ≤ kj3) ∧ Drawn0 w w')
        case atStart => exact ⟨(1), (0), (by first | rfl | (simp; done) | (simp [*]; done)), (by first | rfl | (simp; done) | (simp [*]; done)), H', ⟨Nat.le_refl _⟩, by repeat (first | exact Drawn0.refl _ | apply Drawn0.step)⟩
        case round =>
          clear H'
          try clear c2
          try clear p2
          try clear c3
          try clear c5
          try clear c5b0
          try clear c6
          try clear p2
          obtain ⟨x7_2, x8_2, rfl, rfl, HA, HK2, ⟨m2, rfl⟩⟩ := hrel
          cases gk with
          | zero => exact absurd HA.out (by simp [zoetroperef01_Ext.l0])
          | succ k2 =>
            have H := HA.out
            clear HA
            simp only [zoetroperef01_Ext.l0] at H
            by_cases c7 : x8_2 < a1
            · rw [if_pos c7] at H
              have c7b0 : decide (x8_2 < a1) = true := decide_eq_true c7
              clear c7
              have H' := Aside0.mk H
              clear H
              go_wp2
              go_roundg k2
              case measure => have := HJ3.out; have := HK2.out; omega
              case rel => exact ⟨(wrap64 (x7_2 * 2)), (wrap64 (x8_2 + 1)), (by first | rfl | (simp; done) | (simp [*]; done)), (by first | rfl | (simp; done) | (simp [*]; done)), H', ⟨by have := HJ3.out; have := HK2.out; omega⟩, by repeat (first | exact Drawn0.refl _ | apply Drawn0.step)⟩
            · rw [if_neg c7] at H
              have c7b0 : decide (x8_2 < a1) = false := decide_eq_false c7
              clear c7
              by_cases c8 : x7_2 = 0
              · rw [if_pos c8] at H
                exact absurd H (by simp)
              · rw [if_neg c8] at H
                have c8b0 : (x7_2 == 0) = false := beq_eq_false_iff_ne.mpr c8
                have c8b1 : (x7_2 != 0) = true := bne_iff_ne.mpr c8
                by_cases c9 : a2 = true
                · subst c9
                  have H1 : (if (Int.tmod (wrap64 (a0)) x7_2) ≥ (wrap64 (Int.tdiv x7_2 2)) then ((zoetroperef01_Word.f (wrap64 ((Int.tmod (wrap64 (a0)) x7_2) - x7_2))).bind fun t113 => (some t113)) else ((zoetroperef01_Word.f (Int.tmod (wrap64 (a0)) x7_2)).bind fun t114 => (some t114))) = some r := by rw [if_pos rfl] at H; exact H
                  clear H
                  have H := H1
                  clear H1
                  by_cases c10 : (Int.tmod (wrap64 (a0)) x7_2) ≥ (wrap64 (Int.tdiv x7_2 2))
                  · rw [if_pos c10] at H
                    have c10b0 : decide ((wrap64 (Int.tdiv x7_2 2)) ≤ (Int.tmod (wrap64 (a0)) x7_2)) = true := decide_eq_true c10
                    clear c10
                    replace H := Option.bind_eq_some_iff.mp H
                    obtain ⟨t113, A110, H⟩ := H
                    replace H : (some t113) = some r := H
                    have A11 := Aside0.mk A110
                    clear A110
                    obtain rfl := Option.some.inj H
                    go_wp2_with (first | ((with_reducible refine gate_callee (f := 30) rfl ?_); refine goesL_ (some 39) rfl rfl Try.func30 (by kernel_rfl) rfl #[.int .i64 (wrap64 ((Int.tmod (wrap64 (a0)) x7_2) - x7_2))] rfl (by (try simp only [List.map_toArray, List.map_cons, List.map_nil]); first | done | rfl | (simp only [List.length_drop, List.length_take]; rfl)) ?_; (with_reducible refine (zoetroperef01_Word.calls (wrap64 ((Int.tmod (wrap64 (a0)) x7_2) - x7_2)) t113 _ A11.out).mono ?_); rintro e w' ⟨rfl, ⟨nd, rfl⟩⟩; refine ⟨_, rfl, ?_⟩))
                    go_ret
                    exact ⟨by first | rfl | (simp; done) | (simp [*]; done), by repeat (first | exact Drawn0.refl _ | apply Drawn0.step)⟩
                  · rw [if_neg c10] at H
                    have c10b0 : decide ((wrap64 (Int.tdiv x7_2 2)) ≤ (Int.tmod (wrap64 (a0)) x7_2)) = false := decide_eq_false c10
                    clear c10
                    replace H := Option.bind_eq_some_iff.mp H
                    obtain ⟨t114, A120, H⟩ := H
                    replace H : (some t114) = some r := H
                    have A12 := Aside0.mk A120
                    clear A120
                    obtain rfl := Option.some.inj H
                    go_wp2_with (first | ((with_reducible refine gate_callee (f := 30) rfl ?_); refine goesL_ (some 39) rfl rfl Try.func30 (by kernel_rfl) rfl #[.int .i64 (Int.tmod (wrap64 (a0)) x7_2)] rfl (by (try simp only [List.map_toArray, List.map_cons, List.map_nil]); first | done | rfl | (simp only [List.length_drop, List.length_take]; rfl)) ?_; (with_reducible refine (zoetroperef01_Word.calls (Int.tmod (wrap64 (a0)) x7_2) t114 _ A12.out).mono ?_); rintro e w' ⟨rfl, ⟨nd, rfl⟩⟩; refine ⟨_, rfl, ?_⟩))
                    go_ret
                    exact ⟨by first | rfl | (simp; done) | (simp [*]; done), by repeat (first | exact Drawn0.refl _ | apply Drawn0.step)⟩
                · replace c9 := Bool.eq_false_iff.mpr c9
                  subst c9
                  have H1 : ((zoetroperef01_Word.f (Int.tmod (wrap64 (a0)) x7_2)).bind fun t115 => (some t115)) = some r := by rw [if_neg (show ¬ (false = true) by decide)] at H; exact H
                  clear H
                  have H := H1
                  clear H1
                  replace H := Option.bind_eq_some_iff.mp H
                  obtain ⟨t115, A130, H⟩ := H
                  replace H : (some t115) = some r := H
                  have A13 := Aside0.mk A130
                  clear A130
                  obtain rfl := Option.some.inj H
                  go_wp2_with (first | ((with_reducible refine gate_callee (f := 30) rfl ?_); refine goesL_ (some 39) rfl rfl Try.func30 (by kernel_rfl) rfl #[.int .i64 (Int.tmod (wrap64 (a0)) x7_2)] rfl (by (try simp only [List.map_toArray, List.map_cons, List.map_nil]); first | done | rfl | (simp only [List.length_drop, List.length_take]; rfl)) ?_; (with_reducible refine (zoetroperef01_Word.calls (Int.tmod (wrap64 (a0)) x7_2) t115 _ A13.out).mono ?_); rintro e w' ⟨rfl, ⟨nd, rfl⟩⟩; refine ⟨_, rfl, ?_⟩))
                  go_ret
                  exact ⟨by first | rfl | (simp; done) | (simp [*]; done), by repeat (first | exact Drawn0.refl _ | apply Drawn0.step)⟩

/-! ### zoetroperef01_Lead: function 22 -/
def zoetroperef01_Lead.l0 : Nat → Int → Bool → Int → Int → Option (Int)
  | 0, _, _, _, _ => none
  | k + 1, x0, x1, x5, x6 => if x6 > 0 then (if x6 = 0 then (none) else (if (((Int.tmod (wrap64 (Int.tdiv (wrap64 (x0)) x6)) 2) == 1) != x1) = true then (some x5) else (zoetroperef01_Lead.l0 k x0 x1 (wrap64 (x5 + 1)) (wrap64 (Int.tdiv x6 2))))) else (some x5)
def zoetroperef01_Lead.f (k : Nat) (a0 : Int) (a1 : Bool) : Option (Int) := zoetroperef01_Lead.l0 k a0 a1 0 2147483648
theorem zoetroperef01_Lead.mono_l : ∀ k, (∀ y0 y1 y2 y3, LeO (zoetroperef01_Lead.l0 k y0 y1 y2 y3) (zoetroperef01_Lead.l0 (k + 1) y0 y1 y2 y3))
  | 0 => fun _ _ _ _ r h => by simp [zoetroperef01_Lead.l0] at h
  | k + 1 => by
    have ih0 := zoetroperef01_Lead.mono_l k
    · intro y0 y1 y2 y3
      unfold zoetroperef01_Lead.l0
      repeat' first
      | (with_reducible exact ih0 _ _ _ _)
      | (with_reducible exact LeO.refl _)
      | (with_reducible exact LeO.none _)
      | (with_reducible refine LeO.ite ?_ ?_)
      | (with_reducible refine LeO.bind ?_ (fun _ => ?_))
      | exact ih0 _ _ _ _
      | exact LeO.none _
      | refine LeO.ite ?_ ?_
      | refine LeO.bind ?_ (fun _ => ?_)
theorem zoetroperef01_Lead.mono : ∀ a0 a1 k, LeO (zoetroperef01_Lead.f k a0 a1) (zoetroperef01_Lead.f (k + 1) a0 a1) := by
  intro a0 a1 k
  have ih0 := zoetroperef01_Lead.mono_l k
  unfold zoetroperef01_Lead.f
  repeat' first
      | (with_reducible exact ih0 _ _ _ _)
      | (with_reducible exact LeO.refl _)
      | (with_reducible exact LeO.none _)
      | (with_reducible refine LeO.ite ?_ ?_)
      | (with_reducible refine LeO.bind ?_ (fun _ => ?_))
      | exact ih0 _ _ _ _
      | exact LeO.none _
      | refine LeO.ite ?_ ?_
      | refine LeO.bind ?_ (fun _ => ?_)
set_option maxHeartbeats 8000000 in
set_option maxRecDepth 100000 in
theorem zoetroperef01_Lead.calls (k : Nat) (a0 : Int) (a1 : Bool) (r : Int) (w : World) (h : zoetroperef01_Lead.f k a0 a1 = some r) :
    Calls Try.prog 22 #[.int .u32 a0, .bool a1] w fun e w' => e = .returned (.int .i64 r) ∧ Drawn0 w w' := by
  have H : (zoetroperef01_Lead.l0 k a0 a1 0 2147483648) = some r := h
  clear h
  have H' := Aside0.mk H
  clear H
  go_enter Try.func22, Try.ntmps22
  go_wp2
  go_loopg [5, 6] k (fun kq v5 v6 w' => ∃ (x5_1 : Int) (x6_1 : Int), v5 = .int .i64 x5_1 ∧ v6 = .int .i64 x6_1 ∧ Aside0 (zoetroperef01_Lead.l0 kq a0 a1 x5_1 x6_1 = some r) ∧ Aside0 (kq ≤ k) ∧ Drawn0 w w')
  case atStart => exact ⟨(0), (2147483648), (by first | rfl | (simp; done) | (simp [*]; done)), (by first | rfl | (simp; done) | (simp [*]; done)), H', ⟨Nat.le_refl _⟩, by repeat (first | exact Drawn0.refl _ | apply Drawn0.step)⟩
  case round =>
    clear H'
    try clear c2
    try clear p2
    obtain ⟨x5_1, x6_1, rfl, rfl, HA, HK1, ⟨m1, rfl⟩⟩ := hrel
    cases gk with
    | zero => exact absurd HA.out (by simp [zoetroperef01_Lead.l0])
    | succ k1 =>
      have H := HA.out
      clear HA
      simp only [zoetroperef01_Lead.l0] at H
      by_cases c3 : x6_1 > 0
      · rw [if_pos c3] at H
        have c3b0 : decide (0 < x6_1) = true := decide_eq_true c3
        clear c3
        by_cases c4 : x6_1 = 0
        · rw [if_pos c4] at H
          exact absurd H (by simp)
        · rw [if_neg c4] at H
          have c4b0 : (x6_1 == 0) = false := beq_eq_false_iff_ne.mpr c4
          have c4b1 : (x6_1 != 0) = true := bne_iff_ne.mpr c4
          by_cases c5 : (((Int.tmod (wrap64 (Int.tdiv (wrap64 (a0)) x6_1)) 2) == 1) != a1) = true
          · rw [if_pos c5] at H
            have c5b0 : (((Int.tmod (wrap64 (Int.tdiv (wrap64 (a0)) x6_1)) 2) == 1) != a1) = true := c5
            (try (have c5b1 : decide (((Int.tmod (wrap64 (Int.tdiv (wrap64 (a0)) x6_1)) 2) == 1) = a1) = false := by simpa using c5))
            (try (have c5b2 : (((Int.tmod (wrap64 (Int.tdiv (wrap64 (a0)) x6_1)) 2) == 1) == a1) = false := by simpa using c5))
            (try (have c5b3 : ¬ (((Int.tmod (wrap64 (Int.tdiv (wrap64 (a0)) x6_1)) 2) == 1) = a1) := by simpa using c5))
            clear c5
            obtain rfl := Option.some.inj H
            go_wp2
            go_ret
            exact ⟨by first | rfl | (simp; done) | (simp [*]; done), by repeat (first | exact Drawn0.refl _ | apply Drawn0.step)⟩
          · rw [if_neg c5] at H
            have c5b0 : (((Int.tmod (wrap64 (Int.tdiv (wrap64 (a0)) x6_1)) 2) == 1) != a1) = false := by simpa using c5
            (try (have c5b1 : decide (((Int.tmod (wrap64 (Int.tdiv (wrap64 (a0)) x6_1)) 2) == 1) = a1) = true := by simpa using c5))
            (try (have c5b2 : (((Int.tmod (wrap64 (Int.tdiv (wrap64 (a0)) x6_1)) 2) == 1) == a1) = true := by simpa using c5))
            clear c5
            have H' := Aside0.mk H
            clear H
            go_wp2
            go_roundg k1
            case measure => have := HK1.out; omega
            case rel => exact ⟨(wrap64 (x5_1 + 1)), (wrap64 (Int.tdiv x6_1 2)), (by first | rfl | (simp; done) | (simp [*]; done)), (by first | rfl | (simp; done) | (simp [*]; done)), H', ⟨by have := HK1.out; omega⟩, by repeat (first | exact Drawn0.refl _ | apply Drawn0.step)⟩
      · rw [if_neg c3] at H
        have c3b0 : decide (0 < x6_1) = false := decide_eq_false c3
        clear c3
        obtain rfl := Option.some.inj H
        go_wp2
        go_ret
        exact ⟨by first | rfl | (simp; done) | (simp [*]; done), by repeat (first | exact Drawn0.refl _ | apply Drawn0.step)⟩

-- NOT PRINTED: function 5 (zoetropelaw01_WordsExts)
/-! ### words_Shift: function 27 -/
def words_Shift.j0 : Nat → Int → Int → Int → Bool → Option (Int)
  | 0, _, _, _, _ => none
  | k + 1, x0, x1, x2, x15 => if x15 = true then (some x1) else ((words_fill.f x0).bind fun t113 => (if t113 = 1 then (if 0 ≤ x2 then (some ((shr .i32 (wrap32 (x1)) x2) % 4294967296)) else (none)) else (if 0 ≤ x2 then (some (shr .u32 x1 x2)) else (none))))
def words_Shift.f (k : Nat) (a0 : Int) (a1 : Int) (a2 : Int) : Option (Int) := if a0 = 0 then (if 0 ≤ (Go.bits .and .i64 a2 31) then (some (shl .u32 a1 (Go.bits .and .i64 a2 31))) else (none)) else (if a0 < 0 then (words_Shift.j0 k a0 a1 (Go.bits .and .i64 a2 31) true) else (words_Shift.j0 k a0 a1 (Go.bits .and .i64 a2 31) (decide (a0 ≥ 3))))
theorem words_Shift.mono_l : ∀ k, (∀ y0 y1 y2 y3, LeO (words_Shift.j0 k y0 y1 y2 y3) (words_Shift.j0 (k + 1) y0 y1 y2 y3))
  | 0 => fun _ _ _ _ r h => by simp [words_Shift.j0] at h
  | k + 1 => by
    have ih0 := words_Shift.mono_l k
    · intro y0 y1 y2 y3
      unfold words_Shift.j0
      repeat' first
      | (with_reducible exact ih0 _ _ _ _)
      | (with_reducible exact LeO.refl _)
      | (with_reducible exact LeO.none _)
      | (with_reducible refine LeO.ite ?_ ?_)
      | (with_reducible refine LeO.bind ?_ (fun _ => ?_))
      | exact ih0 _ _ _ _
      | exact LeO.none _
      | refine LeO.ite ?_ ?_
      | refine LeO.bind ?_ (fun _ => ?_)
theorem words_Shift.mono : ∀ a0 a1 a2 k, LeO (words_Shift.f k a0 a1 a2) (words_Shift.f (k + 1) a0 a1 a2) := by
  intro a0 a1 a2 k
  have ih0 := words_Shift.mono_l k
  unfold words_Shift.f
  repeat' first
      | (with_reducible exact ih0 _ _ _ _)
      | (with_reducible exact LeO.refl _)
      | (with_reducible exact LeO.none _)
      | (with_reducible refine LeO.ite ?_ ?_)
      | (with_reducible refine LeO.bind ?_ (fun _ => ?_))
      | exact ih0 _ _ _ _
      | exact LeO.none _
      | refine LeO.ite ?_ ?_
      | refine LeO.bind ?_ (fun _ => ?_)
set_option maxHeartbeats 8000000 in
set_option maxRecDepth 100000 in
theorem words_Shift.calls (k : Nat) (a0 : Int) (a1 : Int) (a2 : Int) (r : Int) (w : World) (h : words_Shift.f k a0 a1 a2 = some r) :
    Calls Try.prog 27 #[.int .i64 a0, .int .u32 a1, .int .i64 a2] w fun e w' => e = .returned (.int .u32 r) ∧ Drawn0 w w' := by
  have H : (if a0 = 0 then (if 0 ≤ (Go.bits .and .i64 a2 31) then (some (shl .u32 a1 (Go.bits .and .i64 a2 31))) else (none)) else (if a0 < 0 then (words_Shift.j0 k a0 a1 (Go.bits .and .i64 a2 31) true) else (words_Shift.j0 k a0 a1 (Go.bits .and .i64 a2 31) (decide (a0 ≥ 3))))) = some r := h
  clear h
  by_cases c4 : a0 = 0
  · rw [if_pos c4] at H
    have c4b0 : (a0 == 0) = true := beq_iff_eq.mpr c4
    have c4b1 : (a0 != 0) = false := bne_eq_false_iff_eq.mpr c4
    clear c4
    by_cases c5 : 0 ≤ (Go.bits .and .i64 a2 31)
    · rw [if_pos c5] at H
      have c5b0 := eq_true c5
      have c5b1 : decide (0 ≤ (Go.bits .and .i64 a2 31)) = true := decide_eq_true c5
      clear c5
      obtain ⟨ji6, hji6⟩ : ∃ j_ : Int, (shl .u32 a1 (Go.bits .and .i64 a2 31)) = j_ := ⟨_, rfl⟩
      replace H : (some ji6) = some r := by first | (rw [hji6] at H; exact H) | (simp only [hji6] at H ⊢; exact H)
      have hji6_ : (IntKind.u32.wrap (a1 * 2 ^ min (Go.bits .and .i64 a2 31).toNat 32)) = ji6 := hji6
      have hji6z : (Go.bits .and .i64 a2 31) ≤ 32 → (IntKind.u32.wrap (a1 * 2 ^ (Go.bits .and .i64 a2 31).toNat)) = ji6 := shl_small hji6
      obtain rfl := Option.some.inj H
      go_enter Try.func27, Try.ntmps27
      go_wp2
      go_ret
      exact ⟨by first | rfl | (simp; done) | (simp only [← hji6] <;> (first | rfl | simp)) | (simp [*]; done), by repeat (first | exact Drawn0.refl _ | apply Drawn0.step)⟩
    · rw [if_neg c5] at H
      exact absurd H (by simp)
  · rw [if_neg c4] at H
    have c4b0 : (a0 == 0) = false := beq_eq_false_iff_ne.mpr c4
    have c4b1 : (a0 != 0) = true := bne_iff_ne.mpr c4
    have HC7 := Aside0.mk H
    clear H
    go_enter Try.func27, Try.ntmps27
    go_upto_region 4 with (fail)
    go_cut [15] (fun v15 wc => ∃ (kq : Nat) (x15_6 : Bool), v15 = .bool x15_6 ∧ Aside0 (words_Shift.j0 kq a0 a1 (Go.bits .and .i64 a2 31) x15_6 = some r) ∧ Aside0 (kq ≤ k) ∧ Drawn0 w wc)
    case first =>
      have H := HC7.out
      clear HC7
      by_cases c8 : a0 < 0
      · rw [if_pos c8] at H
        have c8b0 : decide (a0 < 0) = true := decide_eq_true c8
        clear c8
        (first | rw [c8b0] | (simp only [i64_w, i32_w]; rw [c8b0]) | skip)
        have H' := Aside0.mk H
        clear H
        go_wp2
        go_meet
        case rel => exact ⟨_, (true), (by first | rfl | (simp; done) | (simp [*]; done)), H', ⟨by first | omega | exact Nat.le_refl _⟩, by repeat (first | exact Drawn0.refl _ | apply Drawn0.step)⟩
      · rw [if_neg c8] at H
        have c8b0 : decide (a0 < 0) = false := decide_eq_false c8
        clear c8
        (first | rw [c8b0] | (simp only [i64_w, i32_w]; rw [c8b0]) | skip)
        have H' := Aside0.mk H
        clear H
        go_wp2
        go_meet
        case rel => exact ⟨_, (decide (a0 ≥ 3)), (by first | rfl | (simp; done) | (simp [*]; done)), H', ⟨by first | omega | exact Nat.le_refl _⟩, by repeat (first | exact Drawn0.refl _ | apply Drawn0.step)⟩
    case rest =>
      clear HC7
      try clear c2
      try clear p2
      try clear c4
      try clear c4b0
      try clear c4b1
      try clear c5
      try clear c5b0
      try clear c5b1
      try clear c8
      try clear c8b0
      obtain ⟨kq, x15_6, rfl, HA, HJ6, ⟨mc6, rfl⟩⟩ := hcut
      cases kq with
      | zero => exact absurd HA.out (by simp [words_Shift.j0])
      | succ kj6 =>
        have H := HA.out
        clear HA
        simp only [words_Shift.j0] at H
        by_cases c9 : x15_6 = true
        · subst c9
          have H1 : (some a1) = some r := by rw [if_pos rfl] at H; exact H
          clear H
          have H := H1
          clear H1
          obtain rfl := Option.some.inj H
          go_wp2
          go_ret
          exact ⟨by first | rfl | (simp; done) | (simp [*]; done), by repeat (first | exact Drawn0.refl _ | apply Drawn0.step)⟩
        · replace c9 := Bool.eq_false_iff.mpr c9
          subst c9
          have H1 : ((words_fill.f a0).bind fun t113 => (if t113 = 1 then (if 0 ≤ (Go.bits .and .i64 a2 31) then (some ((shr .i32 (wrap32 (a1)) (Go.bits .and .i64 a2 31)) % 4294967296)) else (none)) else (if 0 ≤ (Go.bits .and .i64 a2 31) then (some (shr .u32 a1 (Go.bits .and .i64 a2 31))) else (none)))) = some r := by rw [if_neg (show ¬ (false = true) by decide)] at H; exact H
          clear H
          have H := H1
          clear H1
          replace H := Option.bind_eq_some_iff.mp H
          obtain ⟨t113, A100, H⟩ := H
          replace H : (if t113 = 1 then (if 0 ≤ (Go.bits .and .i64 a2 31) then (some ((shr .i32 (wrap32 (a1)) (Go.bits .and .i64 a2 31)) % 4294967296)) else (none)) else (if 0 ≤ (Go.bits .and .i64 a2 31) then (some (shr .u32 a1 (Go.bits .and .i64 a2 31))) else (none))) = some r := H
          have A10 := Aside0.mk A100
          clear A100
          by_cases c11 : t113 = 1
          · rw [if_pos c11] at H
            have c11b0 : (t113 == 1) = true := beq_iff_eq.mpr c11
            have c11b1 : (t113 != 1) = false := bne_eq_false_iff_eq.mpr c11
            clear c11
            by_cases c12 : 0 ≤ (Go.bits .and .i64 a2 31)
            · rw [if_pos c12] at H
              have c12b0 := eq_true c12
              have c12b1 : decide (0 ≤ (Go.bits .and .i64 a2 31)) = true := decide_eq_true c12
              clear c12
              obtain ⟨ji13, hji13⟩ : ∃ j_ : Int, (shr .i32 (wrap32 (a1)) (Go.bits .and .i64 a2 31)) = j_ := ⟨_, rfl⟩
              replace H : (some ((ji13) % 4294967296)) = some r := by first | (rw [hji13] at H; exact H) | (simp only [hji13] at H ⊢; exact H)
              (try rw [hji13] at A10)
              have hji13_ : ((wrap32 (a1)) / 2 ^ min (Go.bits .and .i64 a2 31).toNat 32) = ji13 := hji13
              have hji13z : (Go.bits .and .i64 a2 31) ≤ 32 → ((wrap32 (a1)) / 2 ^ (Go.bits .and .i64 a2 31).toNat) = ji13 := shr_small hji13
              obtain rfl := Option.some.inj H
              go_wp2_with (first | ((with_reducible refine gate_callee (f := 33) rfl ?_); refine goesL_ (some 25) rfl rfl Try.func33 (by kernel_rfl) rfl #[.int .i64 a0] rfl (by (try simp only [List.map_toArray, List.map_cons, List.map_nil]); first | done | rfl | (simp only [List.length_drop, List.length_take]; rfl)) ?_; (with_reducible refine (words_fill.calls a0 t113 _ A10.out).mono ?_); rintro e w' ⟨rfl, ⟨nd, rfl⟩⟩; refine ⟨_, rfl, ?_⟩))
              go_ret
              exact ⟨by first | rfl | (simp; done) | (simp only [← hji13] <;> (first | rfl | simp)) | (simp [*]; done), by repeat (first | exact Drawn0.refl _ | apply Drawn0.step)⟩
            · rw [if_neg c12] at H
              exact absurd H (by simp)
          · rw [if_neg c11] at H
            have c11b0 : (t113 == 1) = false := beq_eq_false_iff_ne.mpr c11
            have c11b1 : (t113 != 1) = true := bne_iff_ne.mpr c11
            by_cases c14 : 0 ≤ (Go.bits .and .i64 a2 31)
            · rw [if_pos c14] at H
              have c14b0 := eq_true c14
              have c14b1 : decide (0 ≤ (Go.bits .and .i64 a2 31)) = true := decide_eq_true c14
              clear c14
              obtain ⟨ji15, hji15⟩ : ∃ j_ : Int, (shr .u32 a1 (Go.bits .and .i64 a2 31)) = j_ := ⟨_, rfl⟩
              replace H : (some ji15) = some r := by first | (rw [hji15] at H; exact H) | (simp only [hji15] at H ⊢; exact H)
              (try rw [hji15] at A10)
              have hji15_ : (a1 / 2 ^ min (Go.bits .and .i64 a2 31).toNat 32) = ji15 := hji15
              have hji15z : (Go.bits .and .i64 a2 31) ≤ 32 → (a1 / 2 ^ (Go.bits .and .i64 a2 31).toNat) = ji15 := shr_small hji15
              obtain rfl := Option.some.inj H
              go_wp2_with (first | ((with_reducible refine gate_callee (f := 33) rfl ?_); refine goesL_ (some 25) rfl rfl Try.func33 (by kernel_rfl) rfl #[.int .i64 a0] rfl (by (try simp only [List.map_toArray, List.map_cons, List.map_nil]); first | done | rfl | (simp only [List.length_drop, List.length_take]; rfl)) ?_; (with_reducible refine (words_fill.calls a0 t113 _ A10.out).mono ?_); rintro e w' ⟨rfl, ⟨nd, rfl⟩⟩; refine ⟨_, rfl, ?_⟩))
              go_ret
              exact ⟨by first | rfl | (simp; done) | (simp only [← hji15] <;> (first | rfl | simp)) | (simp [*]; done), by repeat (first | exact Drawn0.refl _ | apply Drawn0.step)⟩
            · rw [if_neg c14] at H
              exact absurd H (by simp)

-- NOT PRINTED: function 10 (zoetropelaw01_WordsLead)
/-! ### zoetroperef01_Mul: function 13 -/
mutual
def zoetroperef01_Mul.j0 : Nat → Int → Int → Bool → Option (Int × Int)
  | 0, _, _, _ => none
  | k + 1, x8, x9, x10 => if x10 = true then (if (Int.tmod (wrap64 ((Int.tmod (wrap64 ((Int.tmod x8 65536) * x9)) 4294967296) + (wrap64 ((Int.tmod (wrap64 ((wrap64 (Int.tdiv x8 65536)) * x9)) 65536) * 65536)))) 4294967296) = 0 then (zoetroperef01_Mul.j1 k (Int.tmod (wrap64 ((Int.tmod (wrap64 ((Int.tmod x8 65536) * x9)) 4294967296) + (wrap64 ((Int.tmod (wrap64 ((wrap64 (Int.tdiv x8 65536)) * x9)) 65536) * 65536)))) 4294967296) (wrap64 ((wrap64 ((wrap64 (Int.tdiv (wrap64 ((Int.tmod x8 65536) * x9)) 4294967296)) + (wrap64 (Int.tdiv (wrap64 ((wrap64 (Int.tdiv x8 65536)) * x9)) 65536)))) + (wrap64 (Int.tdiv (wrap64 ((Int.tmod (wrap64 ((Int.tmod x8 65536) * x9)) 4294967296) + (wrap64 ((Int.tmod (wrap64 ((wrap64 (Int.tdiv x8 65536)) * x9)) 65536) * 65536)))) 4294967296)))) ((wrap64 ((wrap64 ((wrap64 (Int.tdiv (wrap64 ((Int.tmod x8 65536) * x9)) 4294967296)) + (wrap64 (Int.tdiv (wrap64 ((wrap64 (Int.tdiv x8 65536)) * x9)) 65536)))) + (wrap64 (Int.tdiv (wrap64 ((Int.tmod (wrap64 ((Int.tmod x8 65536) * x9)) 4294967296) + (wrap64 ((Int.tmod (wrap64 ((wrap64 (Int.tdiv x8 65536)) * x9)) 65536) * 65536)))) 4294967296)))) != 0)) else (zoetroperef01_Mul.j1 k (Int.tmod (wrap64 ((Int.tmod (wrap64 ((Int.tmod x8 65536) * x9)) 4294967296) + (wrap64 ((Int.tmod (wrap64 ((wrap64 (Int.tdiv x8 65536)) * x9)) 65536) * 65536)))) 4294967296) (wrap64 ((wrap64 ((wrap64 (Int.tdiv (wrap64 ((Int.tmod x8 65536) * x9)) 4294967296)) + (wrap64 (Int.tdiv (wrap64 ((wrap64 (Int.tdiv x8 65536)) * x9)) 65536)))) + (wrap64 (Int.tdiv (wrap64 ((Int.tmod (wrap64 ((Int.tmod x8 65536) * x9)) 4294967296) + (wrap64 ((Int.tmod (wrap64 ((wrap64 (Int.tdiv x8 65536)) * x9)) 65536) * 65536)))) 4294967296)))) true)) else (zoetroperef01_Mul.j1 k (Int.tmod (wrap64 ((Int.tmod (wrap64 ((Int.tmod x8 65536) * x9)) 4294967296) + (wrap64 ((Int.tmod (wrap64 ((wrap64 (Int.tdiv x8 65536)) * x9)) 65536) * 65536)))) 4294967296) (wrap64 ((wrap64 ((wrap64 (Int.tdiv (wrap64 ((Int.tmod x8 65536) * x9)) 4294967296)) + (wrap64 (Int.tdiv (wrap64 ((wrap64 (Int.tdiv x8 65536)) * x9)) 65536)))) + (wrap64 (Int.tdiv (wrap64 ((Int.tmod (wrap64 ((Int.tmod x8 65536) * x9)) 4294967296) + (wrap64 ((Int.tmod (wrap64 ((wrap64 (Int.tdiv x8 65536)) * x9)) 65536) * 65536)))) 4294967296)))) false)
def zoetroperef01_Mul.j1 : Nat → Int → Int → Bool → Option (Int × Int)
  | 0, _, _, _ => none
  | k + 1, x15, x16, x72 => if x72 = true then (if (wrap64 (4294967296 - x15)) = 4294967296 then ((zoetroperef01_Word.f (wrap64 ((wrap64 (4294967295 - x16)) + 1))).bind fun t103 => ((zoetroperef01_Word.f 0).bind fun t104 => (some (t103, t104)))) else ((zoetroperef01_Word.f (wrap64 (4294967295 - x16))).bind fun t105 => ((zoetroperef01_Word.f (wrap64 (4294967296 - x15))).bind fun t106 => (some (t105, t106))))) else ((zoetroperef01_Word.f x16).bind fun t107 => ((zoetroperef01_Word.f x15).bind fun t108 => (some (t107, t108))))
end
def zoetroperef01_Mul.f (k : Nat) (a0 : Int) (a1 : Int) (a2 : Bool) : Option (Int × Int) := if a2 = true then ((zoetroperef01_Mean.f a0).bind fun t101 => ((zoetroperef01_Mean.f a1).bind fun t102 => (if t101 < 0 then (if t102 < 0 then (zoetroperef01_Mul.j0 k (wrap64 (-t101)) (wrap64 (-t102)) (!(!false))) else (zoetroperef01_Mul.j0 k (wrap64 (-t101)) t102 (!false))) else (if t102 < 0 then (zoetroperef01_Mul.j0 k t101 (wrap64 (-t102)) (!false)) else (zoetroperef01_Mul.j0 k t101 t102 false))))) else (zoetroperef01_Mul.j0 k (wrap64 (a0)) (wrap64 (a1)) false)
theorem zoetroperef01_Mul.mono_l : ∀ k, (∀ y0 y1 y2, LeO (zoetroperef01_Mul.j0 k y0 y1 y2) (zoetroperef01_Mul.j0 (k + 1) y0 y1 y2)) ∧ (∀ y0 y1 y2, LeO (zoetroperef01_Mul.j1 k y0 y1 y2) (zoetroperef01_Mul.j1 (k + 1) y0 y1 y2))
  | 0 => ⟨fun _ _ _ r h => by simp [zoetroperef01_Mul.j0] at h, fun _ _ _ r h => by simp [zoetroperef01_Mul.j1] at h⟩
  | k + 1 => by
    obtain ⟨ih0, ih1⟩ := zoetroperef01_Mul.mono_l k
    refine ⟨?_, ?_⟩
    · intro y0 y1 y2
      unfold zoetroperef01_Mul.j0
      repeat' first
      | (with_reducible exact ih0 _ _ _)
      | (with_reducible exact ih1 _ _ _)
      | (with_reducible exact LeO.refl _)
      | (with_reducible exact LeO.none _)
      | (with_reducible refine LeO.ite ?_ ?_)
      | (with_reducible refine LeO.bind ?_ (fun _ => ?_))
      | exact ih0 _ _ _
      | exact ih1 _ _ _
      | exact LeO.none _
      | refine LeO.ite ?_ ?_
      | refine LeO.bind ?_ (fun _ => ?_)
    · intro y0 y1 y2
      unfold zoetroperef01_Mul.j1
      repeat' first
      | (with_reducible exact ih0 _ _ _)
      | (with_reducible exact ih1 _ _ _)
      | (with_reducible exact LeO.refl _)
      | (with_reducible exact LeO.none _)
      | (with_reducible refine LeO.ite ?_ ?_)
      | (with_reducible refine LeO.bind ?_ (fun _ => ?_))
      | exact ih0 _ _ _
      | exact ih1 _ _ _
      | exact LeO.none _
      | refine LeO.ite ?_ ?_
      | refine LeO.bind ?_ (fun _ => ?_)
theorem zoetroperef01_Mul.mono : ∀ a0 a1 a2 k, LeO (zoetroperef01_Mul.f k a0 a1 a2) (zoetroperef01_Mul.f (k + 1) a0 a1 a2) := by
  intro a0 a1 a2 k
  obtain ⟨ih0, ih1⟩ := zoetroperef01_Mul.mono_l k
  unfold zoetroperef01_Mul.f
  repeat' first
      | (with_reducible exact ih0 _ _ _)
      | (with_reducible exact ih1 _ _ _)
      | (with_reducible exact LeO.refl _)
      | (with_reducible exact LeO.none _)
      | (with_reducible refine LeO.ite ?_ ?_)
      | (with_reducible refine LeO.bind ?_ (fun _ => ?_))
      | exact ih0 _ _ _
      | exact ih1 _ _ _
      | exact LeO.none _
      | refine LeO.ite ?_ ?_
      | refine LeO.bind ?_ (fun _ => ?_)
set_option maxHeartbeats 8000000 in
set_option maxRecDepth 100000 in
theorem zoetroperef01_Mul.calls (k : Nat) (a0 : Int) (a1 : Int) (a2 : Bool) (r1 : Int) (r2 : Int) (w : World) (h : zoetroperef01_Mul.f k a0 a1 a2 = some (r1, r2)) :
    Calls Try.prog 13 #[.int .u32 a0, .int .u32 a1, .bool a2] w fun e w' => e = .returned (.tuple #[.int .u32 r1, .int .u32 r2]) ∧ Drawn0 w w' := by
  have H : (if a2 = true then ((zoetroperef01_Mean.f a0).bind fun t101 => ((zoetroperef01_Mean.f a1).bind fun t102 => (if t101 < 0 then (if t102 < 0 then (zoetroperef01_Mul.j0 k (wrap64 (-t101)) (wrap64 (-t102)) (!(!false))) else (zoetroperef01_Mul.j0 k (wrap64 (-t101)) t102 (!false))) else (if t102 < 0 then (zoetroperef01_Mul.j0 k t101 (wrap64 (-t102)) (!false)) else (zoetroperef01_Mul.j0 k t101 t102 false))))) else (zoetroperef01_Mul.j0 k (wrap64 (a0)) (wrap64 (a1)) false)) = some (r1, r2) := h
  clear h
  have HC4 := Aside0.mk H
  clear H
  go_enter Try.func13, Try.ntmps13
  go_upto_if 21 with (fail)
  go_cut [8, 9, 10] (fun v8 v9 v10 wc => ∃ (kq : Nat) (x8_3 : Int) (x9_3 : Int) (x10_3 : Bool), v8 = .int .i64 x8_3 ∧ v9 = .int .i64 x9_3 ∧ v10 = .bool x10_3 ∧ Aside0 (zoetroperef01_Mul.j0 kq x8_3 x9_3 x10_3 = some (r1, r2)) ∧ Aside0 (kq ≤ k) ∧ Drawn0 w wc)
  case first =>
    have H := HC4.out
    clear HC4
    by_cases c5 : a2 = true
    · subst c5
      have H1 : ((zoetroperef01_Mean.f a0).bind fun t101 => ((zoetroperef01_Mean.f a1).bind fun t102 => (if t101 < 0 then (if t102 < 0 then (zoetroperef01_Mul.j0 k (wrap64 (-t101)) (wrap64 (-t102)) (!(!false))) else (zoetroperef01_Mul.j0 k (wrap64 (-t101)) t102 (!false))) else (if t102 < 0 then (zoetroperef01_Mul.j0 k t101 (wrap64 (-t102)) (!false)) else (zoetroperef01_Mul.j0 k t101 t102 false))))) = some (r1, r2) := by rw [if_pos rfl] at H; exact H
      clear H
      have H := H1
      clear H1
      replace H := Option.bind_eq_some_iff.mp H
      obtain ⟨t101, A60, H⟩ := H
      replace H : ((zoetroperef01_Mean.f a1).bind fun t102 => (if t101 < 0 then (if t102 < 0 then (zoetroperef01_Mul.j0 k (wrap64 (-t101)) (wrap64 (-t102)) (!(!false))) else (zoetroperef01_Mul.j0 k (wrap64 (-t101)) t102 (!false))) else (if t102 < 0 then (zoetroperef01_Mul.j0 k t101 (wrap64 (-t102)) (!false)) else (zoetroperef01_Mul.j0 k t101 t102 false)))) = some (r1, r2) := H
      have A6 := Aside0.mk A60
      clear A60
      replace H := Option.bind_eq_some_iff.mp H
      obtain ⟨t102, A70, H⟩ := H
      replace H : (if t101 < 0 then (if t102 < 0 then (zoetroperef01_Mul.j0 k (wrap64 (-t101)) (wrap64 (-t102)) (!(!false))) else (zoetroperef01_Mul.j0 k (wrap64 (-t101)) t102 (!false))) else (if t102 < 0 then (zoetroperef01_Mul.j0 k t101 (wrap64 (-t102)) (!false)) else (zoetroperef01_Mul.j0 k t101 t102 false))) = some (r1, r2) := H
      have A7 := Aside0.mk A70
      clear A70
      by_cases c8 : t101 < 0
      · rw [if_pos c8] at H
        have c8b0 : decide (t101 < 0) = true := decide_eq_true c8
        clear c8
        (first | rw [c8b0] | (simp only [i64_w, i32_w]; rw [c8b0]) | skip)
        by_cases c9 : t102 < 0
        · rw [if_pos c9] at H
          have c9b0 : decide (t102 < 0) = true := decide_eq_true c9
          clear c9
          have H' := Aside0.mk H
          clear H
          go_wp2_with (first | ((with_reducible refine gate_callee (f := 29) rfl ?_); refine goesL_ (some 23) rfl rfl Try.func29 (by kernel_rfl) rfl #[.int .u32 a0] rfl (by (try simp only [List.map_toArray, List.map_cons, List.map_nil]); first | done | rfl | (simp only [List.length_drop, List.length_take]; rfl)) ?_; (with_reducible refine (zoetroperef01_Mean.calls a0 t101 _ A6.out).mono ?_); rintro e w' ⟨rfl, ⟨nd, rfl⟩⟩; refine ⟨_, rfl, ?_⟩) | ((with_reducible refine gate_callee (f := 29) rfl ?_); refine goesL_ (some 25) rfl rfl Try.func29 (by kernel_rfl) rfl #[.int .u32 a1] rfl (by (try simp only [List.map_toArray, List.map_cons, List.map_nil]); first | done | rfl | (simp only [List.length_drop, List.length_take]; rfl)) ?_; (with_reducible refine (zoetroperef01_Mean.calls a1 t102 _ A7.out).mono ?_); rintro e w' ⟨rfl, ⟨nd, rfl⟩⟩; refine ⟨_, rfl, ?_⟩))
          go_meet
          case rel => exact ⟨_, (wrap64 (-t101)), (wrap64 (-t102)), (!(!false)), (by first | rfl | (simp; done) | (simp [*]; done)), (by first | rfl | (simp; done) | (simp [*]; done)), (by first | rfl | (simp; done) | (simp [*]; done)), H', ⟨by first | omega | exact Nat.le_refl _⟩, by repeat (first | exact Drawn0.refl _ | apply Drawn0.step)⟩
        · rw [if_neg c9] at H
          have c9b0 : decide (t102 < 0) = false := decide_eq_false c9
          clear c9
          have H' := Aside0.mk H
          clear H
          go_wp2_with (first | ((with_reducible refine gate_callee (f := 29) rfl ?_); refine goesL_ (some 23) rfl rfl Try.func29 (by kernel_rfl) rfl #[.int .u32 a0] rfl (by (try simp only [List.map_toArray, List.map_cons, List.map_nil]); first | done | rfl | (simp only [List.length_drop, List.length_take]; rfl)) ?_; (with_reducible refine (zoetroperef01_Mean.calls a0 t101 _ A6.out).mono ?_); rintro e w' ⟨rfl, ⟨nd, rfl⟩⟩; refine ⟨_, rfl, ?_⟩) | ((with_reducible refine gate_callee (f := 29) rfl ?_); refine goesL_ (some 25) rfl rfl Try.func29 (by kernel_rfl) rfl #[.int .u32 a1] rfl (by (try simp only [List.map_toArray, List.map_cons, List.map_nil]); first | done | rfl | (simp only [List.length_drop, List.length_take]; rfl)) ?_; (with_reducible refine (zoetroperef01_Mean.calls a1 t102 _ A7.out).mono ?_); rintro e w' ⟨rfl, ⟨nd, rfl⟩⟩; refine ⟨_, rfl, ?_⟩))
          go_meet
          case rel => exact ⟨_, (wrap64 (-t101)), (t102), (!false), (by first | rfl | (simp; done) | (simp [*]; done)), (by first | rfl | (simp; done) | (simp [*]; done)), (by first | rfl | (simp; done) | (simp [*]; done)), H', ⟨by first | omega | exact Nat.le_refl _⟩, by repeat (first | exact Drawn0.refl _ | apply Drawn0.step)⟩
      · rw [if_neg c8] at H
        have c8b0 : decide (t101 < 0) = false := decide_eq_false c8
        clear c8
        (first | rw [c8b0] | (simp only [i64_w, i32_w]; rw [c8b0]) | skip)
        by_cases c10 : t102 < 0
        · rw [if_pos c10] at H
          have c10b0 : decide (t102 < 0) = true := decide_eq_true c10
          clear c10
          have H' := Aside0.mk H
          clear H
          go_wp2_with (first | ((with_reducible refine gate_callee (f := 29) rfl ?_); refine goesL_ (some 23) rfl rfl Try.func29 (by kernel_rfl) rfl #[.int .u32 a0] rfl (by (try simp only [List.map_toArray, List.map_cons, List.map_nil]); first | done | rfl | (simp only [List.length_drop, List.length_take]; rfl)) ?_; (with_reducible refine (zoetroperef01_Mean.calls a0 t101 _ A6.out).mono ?_); rintro e w' ⟨rfl, ⟨nd, rfl⟩⟩; refine ⟨_, rfl, ?_⟩) | ((with_reducible refine gate_callee (f := 29) rfl ?_); refine goesL_ (some 25) rfl rfl Try.func29 (by kernel_rfl) rfl #[.int .u32 a1] rfl (by (try simp only [List.map_toArray, List.map_cons, List.map_nil]); first | done | rfl | (simp only [List.length_drop, List.length_take]; rfl)) ?_; (with_reducible refine (zoetroperef01_Mean.calls a1 t102 _ A7.out).mono ?_); rintro e w' ⟨rfl, ⟨nd, rfl⟩⟩; refine ⟨_, rfl, ?_⟩))
          go_meet
          case rel => exact ⟨_, (t101), (wrap64 (-t102)), (!false), (by first | rfl | (simp; done) | (simp [*]; done)), (by first | rfl | (simp; done) | (simp [*]; done)), (by first | rfl | (simp; done) | (simp [*]; done)), H', ⟨by first | omega | exact Nat.le_refl _⟩, by repeat (first | exact Drawn0.refl _ | apply Drawn0.step)⟩
        · rw [if_neg c10] at H
          have c10b0 : decide (t102 < 0) = false := decide_eq_false c10
          clear c10
          have H' := Aside0.mk H
          clear H
          go_wp2_with (first | ((with_reducible refine gate_callee (f := 29) rfl ?_); refine goesL_ (some 23) rfl rfl Try.func29 (by kernel_rfl) rfl #[.int .u32 a0] rfl (by (try simp only [List.map_toArray, List.map_cons, List.map_nil]); first | done | rfl | (simp only [List.length_drop, List.length_take]; rfl)) ?_; (with_reducible refine (zoetroperef01_Mean.calls a0 t101 _ A6.out).mono ?_); rintro e w' ⟨rfl, ⟨nd, rfl⟩⟩; refine ⟨_, rfl, ?_⟩) | ((with_reducible refine gate_callee (f := 29) rfl ?_); refine goesL_ (some 25) rfl rfl Try.func29 (by kernel_rfl) rfl #[.int .u32 a1] rfl (by (try simp only [List.map_toArray, List.map_cons, List.map_nil]); first | done | rfl | (simp only [List.length_drop, List.length_take]; rfl)) ?_; (with_reducible refine (zoetroperef01_Mean.calls a1 t102 _ A7.out).mono ?_); rintro e w' ⟨rfl, ⟨nd, rfl⟩⟩; refine ⟨_, rfl, ?_⟩))
          go_meet
          case rel => exact ⟨_, (t101), (t102), (false), (by first | rfl | (simp; done) | (simp [*]; done)), (by first | rfl | (simp; done) | (simp [*]; done)), (by first | rfl | (simp; done) | (simp [*]; done)), H', ⟨by first | omega | exact Nat.le_refl _⟩, by repeat (first | exact Drawn0.refl _ | apply Drawn0.step)⟩
    · replace c5 := Bool.eq_false_iff.mpr c5
      subst c5
      have H1 : (zoetroperef01_Mul.j0 k (wrap64 (a0)) (wrap64 (a1)) false) = some (r1, r2) := by rw [if_neg (show ¬ (false = true) by decide)] at H; exact H
      clear H
      have H := H1
      clear H1
      have H' := Aside0.mk H
      clear H
      go_wp2
      go_meet
      case rel => exact ⟨_, (wrap64 (a0)), (wrap64 (a1)), (false), (by first | rfl | (simp; done) | (simp [*]; done)), (by first | rfl | (simp; done) | (simp [*]; done)), (by first | rfl | (simp; done) | (simp [*]; done)), H', ⟨by first | omega | exact Nat.le_refl _⟩, by repeat (first | exact Drawn0.refl _ | apply Drawn0.step)⟩
  case rest =>
    clear HC4
    try clear c1
    try clear c2
    try clear p2
    try clear c5
    try clear p6
    try clear c8
    try clear c8b0
    try clear c9
    try clear c9b0
    try clear c10
    try clear c10b0
    obtain ⟨kq, x8_3, x9_3, x10_3, rfl, rfl, rfl, HA, HJ3, ⟨mc3, rfl⟩⟩ := hcut
    cases kq with
    | zero => exact absurd HA.out (by simp [zoetroperef01_Mul.j0])
    | succ kj3 =>
      have H := HA.out
      clear HA
      simp only [zoetroperef01_Mul.j0] at H
      have HC11 := Aside0.mk H
      clear H
      go_upto_region 18 with (fail)
      go_cut [72] (fun v72 wc => ∃ (kq : Nat) (x72_10 : Bool), v72 = .bool x72_10 ∧ Aside0 (zoetroperef01_Mul.j1 kq (Int.tmod (wrap64 ((Int.tmod (wrap64 ((Int.tmod x8_3 65536) * x9_3)) 4294967296) + (wrap64 ((Int.tmod (wrap64 ((wrap64 (Int.tdiv x8_3 65536)) * x9_3)) 65536) * 65536)))) 4294967296) (wrap64 ((wrap64 ((wrap64 (Int.tdiv (wrap64 ((Int.tmod x8_3 65536) * x9_3)) 4294967296)) + (wrap64 (Int.tdiv (wrap64 ((wrap64 (Int.tdiv x8_3 65536)) * x9_3)) 65536)))) + (wrap64 (Int.tdiv (wrap64 ((Int.tmod (wrap64 ((Int.tmod x8_3 65536) * x9_3)) 4294967296) + (wrap64 ((Int.tmod (wrap64 ((wrap64 (Int.tdiv x8_3 65536)) * x9_3)) 65536) * 65536)))) 4294967296)))) x72_10 = some (r1, r2)) ∧ Aside0 (kq ≤ kj3) ∧ Drawn0 w wc)
      case first =>
        have H := HC11.out
        clear HC11
        by_cases c12 : x10_3 = true
        · subst c12
          have H1 : (if (Int.tmod (wrap64 ((Int.tmod (wrap64 ((Int.tmod x8_3 65536) * x9_3)) 4294967296) + (wrap64 ((Int.tmod (wrap64 ((wrap64 (Int.tdiv x8_3 65536)) * x9_3)) 65536) * 65536)))) 4294967296) = 0 then (zoetroperef01_Mul.j1 kj3 (Int.tmod (wrap64 ((Int.tmod (wrap64 ((Int.tmod x8_3 65536) * x9_3)) 4294967296) + (wrap64 ((Int.tmod (wrap64 ((wrap64 (Int.tdiv x8_3 65536)) * x9_3)) 65536) * 65536)))) 4294967296) (wrap64 ((wrap64 ((wrap64 (Int.tdiv (wrap64 ((Int.tmod x8_3 65536) * x9_3)) 4294967296)) + (wrap64 (Int.tdiv (wrap64 ((wrap64 (Int.tdiv x8_3 65536)) * x9_3)) 65536)))) + (wrap64 (Int.tdiv (wrap64 ((Int.tmod (wrap64 ((Int.tmod x8_3 65536) * x9_3)) 4294967296) + (wrap64 ((Int.tmod (wrap64 ((wrap64 (Int.tdiv x8_3 65536)) * x9_3)) 65536) * 65536)))) 4294967296)))) ((wrap64 ((wrap64 ((wrap64 (Int.tdiv (wrap64 ((Int.tmod x8_3 65536) * x9_3)) 4294967296)) + (wrap64 (Int.tdiv (wrap64 ((wrap64 (Int.tdiv x8_3 65536)) * x9_3)) 65536)))) + (wrap64 (Int.tdiv (wrap64 ((Int.tmod (wrap64 ((Int.tmod x8_3 65536) * x9_3)) 4294967296) + (wrap64 ((Int.tmod (wrap64 ((wrap64 (Int.tdiv x8_3 65536)) * x9_3)) 65536) * 65536)))) 4294967296)))) != 0)) else (zoetroperef01_Mul.j1 kj3 (Int.tmod (wrap64 ((Int.tmod (wrap64 ((Int.tmod x8_3 65536) * x9_3)) 4294967296) + (wrap64 ((Int.tmod (wrap64 ((wrap64 (Int.tdiv x8_3 65536)) * x9_3)) 65536) * 65536)))) 4294967296) (wrap64 ((wrap64 ((wrap64 (Int.tdiv (wrap64 ((Int.tmod x8_3 65536) * x9_3)) 4294967296)) + (wrap64 (Int.tdiv (wrap64 ((wrap64 (Int.tdiv x8_3 65536)) * x9_3)) 65536)))) + (wrap64 (Int.tdiv (wrap64 ((Int.tmod (wrap64 ((Int.tmod x8_3 65536) * x9_3)) 4294967296) + (wrap64 ((Int.tmod (wrap64 ((wrap64 (Int.tdiv x8_3 65536)) * x9_3)) 65536) * 65536)))) 4294967296)))) true)) = some (r1, r2) := by rw [if_pos rfl] at H; exact H
          clear H
          have H := H1
          clear H1
          by_cases c13 : (Int.tmod (wrap64 ((Int.tmod (wrap64 ((Int.tmod x8_3 65536) * x9_3)) 4294967296) + (wrap64 ((Int.tmod (wrap64 ((wrap64 (Int.tdiv x8_3 65536)) * x9_3)) 65536) * 65536)))) 4294967296) = 0
          · rw [if_pos c13] at H
            have c13b0 : ((Int.tmod (wrap64 ((Int.tmod (wrap64 ((Int.tmod x8_3 65536) * x9_3)) 4294967296) + (wrap64 ((Int.tmod (wrap64 ((wrap64 (Int.tdiv x8_3 65536)) * x9_3)) 65536) * 65536)))) 4294967296) == 0) = true := beq_iff_eq.mpr c13
            have c13b1 : ((Int.tmod (wrap64 ((Int.tmod (wrap64 ((Int.tmod x8_3 65536) * x9_3)) 4294967296) + (wrap64 ((Int.tmod (wrap64 ((wrap64 (Int.tdiv x8_3 65536)) * x9_3)) 65536) * 65536)))) 4294967296) != 0) = false := bne_eq_false_iff_eq.mpr c13
            clear c13
            (first | rw [c13b0] | (simp only [i64_w, i32_w]; rw [c13b0]) | skip)
            have H' := Aside0.mk H
            clear H
            go_wp2
            go_meet
            case rel => exact ⟨_, (((wrap64 ((wrap64 ((wrap64 (Int.tdiv (wrap64 ((Int.tmod x8_3 65536) * x9_3)) 4294967296)) + (wrap64 (Int.tdiv (wrap64 ((wrap64 (Int.tdiv x8_3 65536)) * x9_3)) 65536)))) + (wrap64 (Int.tdiv (wrap64 ((Int.tmod (wrap64 ((Int.tmod x8_3 65536) * x9_3)) 4294967296) + (wrap64 ((Int.tmod (wrap64 ((wrap64 (Int.tdiv x8_3 65536)) * x9_3)) 65536) * 65536)))) 4294967296)))) != 0)), (by first | rfl | (simp; done) | (simp [*]; done)), H', ⟨by have := HJ3.out; first | omega | exact Nat.le_refl _⟩, by repeat (first | exact Drawn0.refl _ | apply Drawn0.step)⟩
          · rw [if_neg c13] at H
            have c13b0 : ((Int.tmod (wrap64 ((Int.tmod (wrap64 ((Int.tmod x8_3 65536) * x9_3)) 4294967296) + (wrap64 ((Int.tmod (wrap64 ((wrap64 (Int.tdiv x8_3 65536)) * x9_3)) 65536) * 65536)))) 4294967296) == 0) = false := beq_eq_false_iff_ne.mpr c13
            have c13b1 : ((Int.tmod (wrap64 ((Int.tmod (wrap64 ((Int.tmod x8_3 65536) * x9_3)) 4294967296) + (wrap64 ((Int.tmod (wrap64 ((wrap64 (Int.tdiv x8_3 65536)) * x9_3)) 65536) * 65536)))) 4294967296) != 0) = true := bne_iff_ne.mpr c13
            (first | rw [c13b0] | (simp only [i64_w, i32_w]; rw [c13b0]) | skip)
            have H' := Aside0.mk H
            clear H
            go_wp2
            go_meet
            case rel => exact ⟨_, (true), (by first | rfl | (simp; done) | (simp [*]; done)), H', ⟨by have := HJ3.out; first | omega | exact Nat.le_refl _⟩, by repeat (first | exact Drawn0.refl _ | apply Drawn0.step)⟩
        · replace c12 := Bool.eq_false_iff.mpr c12
          subst c12
          have H1 : (zoetroperef01_Mul.j1 kj3 (Int.tmod (wrap64 ((Int.tmod (wrap64 ((Int.tmod x8_3 65536) * x9_3)) 4294967296) + (wrap64 ((Int.tmod (wrap64 ((wrap64 (Int.tdiv x8_3 65536)) * x9_3)) 65536) * 65536)))) 4294967296) (wrap64 ((wrap64 ((wrap64 (Int.tdiv (wrap64 ((Int.tmod x8_3 65536) * x9_3)) 4294967296)) + (wrap64 (Int.tdiv (wrap64 ((wrap64 (Int.tdiv x8_3 65536)) * x9_3)) 65536)))) + (wrap64 (Int.tdiv (wrap64 ((Int.tmod (wrap64 ((Int.tmod x8_3 65536) * x9_3)) 4294967296) + (wrap64 ((Int.tmod (wrap64 ((wrap64 (Int.tdiv x8_3 65536)) * x9_3)) 65536) * 65536)))) 4294967296)))) false) = some (r1, r2) := by rw [if_neg (show ¬ (false = true) by decide)] at H; exact H
          clear H
          have H := H1
          clear H1
          have H' := Aside0.mk H
          clear H
          go_wp2
          go_meet
          case rel => exact ⟨_, (false), (by first | rfl | (simp; done) | (simp [*]; done)), H', ⟨by have := HJ3.out; first | omega | exact Nat.le_refl _⟩, by repeat (first | exact Drawn0.refl _ | apply Drawn0.step)⟩
      case rest =>
        clear HC11
        try clear c1
        try clear c2
        try clear p2
        try clear c3
        try clear c5
        try clear p6
        try clear c8
        try clear c8b0
        try clear c9
        try clear c9b0
        try clear c10
        try clear c10b0
        try clear c12
        try clear c13
        try clear c13b0
        try clear c13b1
        try clear p2
        try clear p6
        obtain ⟨kq, x72_10, rfl, HA, HJ10, ⟨mc10, rfl⟩⟩ := hcut
        cases kq with
        | zero => exact absurd HA.out (by simp [zoetroperef01_Mul.j1])
        | succ kj10 =>
          have H := HA.out
          clear HA
          simp only [zoetroperef01_Mul.j1] at H
          by_cases c14 : x72_10 = true
          · subst c14
            have H1 : (if (wrap64 (4294967296 - (Int.tmod (wrap64 ((Int.tmod (wrap64 ((Int.tmod x8_3 65536) * x9_3)) 4294967296) + (wrap64 ((Int.tmod (wrap64 ((wrap64 (Int.tdiv x8_3 65536)) * x9_3)) 65536) * 65536)))) 4294967296))) = 4294967296 then ((zoetroperef01_Word.f (wrap64 ((wrap64 (4294967295 - (wrap64 ((wrap64 ((wrap64 (Int.tdiv (wrap64 ((Int.tmod x8_3 65536) * x9_3)) 4294967296)) + (wrap64 (Int.tdiv (wrap64 ((wrap64 (Int.tdiv x8_3 65536)) * x9_3)) 65536)))) + (wrap64 (Int.tdiv (wrap64 ((Int.tmod (wrap64 ((Int.tmod x8_3 65536) * x9_3)) 4294967296) + (wrap64 ((Int.tmod (wrap64 ((wrap64 (Int.tdiv x8_3 65536)) * x9_3)) 65536) * 65536)))) 4294967296)))))) + 1))).bind fun t103 => ((zoetroperef01_Word.f 0).bind fun t104 => (some (t103, t104)))) else ((zoetroperef01_Word.f (wrap64 (4294967295 - (wrap64 ((wrap64 ((wrap64 (Int.tdiv (wrap64 ((Int.tmod x8_3 65536) * x9_3)) 4294967296)) + (wrap64 (Int.tdiv (wrap64 ((wrap64 (Int.tdiv x8_3 65536)) * x9_3)) 65536)))) + (wrap64 (Int.tdiv (wrap64 ((Int.tmod (wrap64 ((Int.tmod x8_3 65536) * x9_3)) 4294967296) + (wrap64 ((Int.tmod (wrap64 ((wrap64 (Int.tdiv x8_3 65536)) * x9_3)) 65536) * 65536)))) 4294967296))))))).bind fun t105 => ((zoetroperef01_Word.f (wrap64 (4294967296 - (Int.tmod (wrap64 ((Int.tmod (wrap64 ((Int.tmod x8_3 65536) * x9_3)) 4294967296) + (wrap64 ((Int.tmod (wrap64 ((wrap64 (Int.tdiv x8_3 65536)) * x9_3)) 65536) * 65536)))) 4294967296)))).bind fun t106 => (some (t105, t106))))) = some (r1, r2) := by rw [if_pos rfl] at H; exact H
            clear H
            have H := H1
            clear H1
            by_cases c15 : (wrap64 (4294967296 - (Int.tmod (wrap64 ((Int.tmod (wrap64 ((Int.tmod x8_3 65536) * x9_3)) 4294967296) + (wrap64 ((Int.tmod (wrap64 ((wrap64 (Int.tdiv x8_3 65536)) * x9_3)) 65536) * 65536)))) 4294967296))) = 4294967296
            · rw [if_pos c15] at H
              have c15b0 : ((wrap64 (4294967296 - (Int.tmod (wrap64 ((Int.tmod (wrap64 ((Int.tmod x8_3 65536) * x9_3)) 4294967296) + (wrap64 ((Int.tmod (wrap64 ((wrap64 (Int.tdiv x8_3 65536)) * x9_3)) 65536) * 65536)))) 4294967296))) == 4294967296) = true := beq_iff_eq.mpr c15
              have c15b1 : ((wrap64 (4294967296 - (Int.tmod (wrap64 ((Int.tmod (wrap64 ((Int.tmod x8_3 65536) * x9_3)) 4294967296) + (wrap64 ((Int.tmod (wrap64 ((wrap64 (Int.tdiv x8_3 65536)) * x9_3)) 65536) * 65536)))) 4294967296))) != 4294967296) = false := bne_eq_false_iff_eq.mpr c15
              clear c15
              replace H := Option.bind_eq_some_iff.mp H
              obtain ⟨t103, A160, H⟩ := H
              replace H : ((zoetroperef01_Word.f 0).bind fun t104 => (some (t103, t104))) = some (r1, r2) := H
              have A16 := Aside0.mk A160
              clear A160
              replace H := Option.bind_eq_some_iff.mp H
              obtain ⟨t104, A170, H⟩ := H
              replace H : (some (t103, t104)) = some (r1, r2) := H
              have A17 := Aside0.mk A170
              clear A170
              simp only [Option.some.injEq, Prod.mk.injEq] at H
              obtain ⟨rfl, rfl⟩ := H
              go_wp2_with (first | ((with_reducible refine gate_callee (f := 30) rfl ?_); refine goesL_ (some 82) rfl rfl Try.func30 (by kernel_rfl) rfl #[.int .i64 (wrap64 ((wrap64 (4294967295 - (wrap64 ((wrap64 ((wrap64 (Int.tdiv (wrap64 ((Int.tmod x8_3 65536) * x9_3)) 4294967296)) + (wrap64 (Int.tdiv (wrap64 ((wrap64 (Int.tdiv x8_3 65536)) * x9_3)) 65536)))) + (wrap64 (Int.tdiv (wrap64 ((Int.tmod (wrap64 ((Int.tmod x8_3 65536) * x9_3)) 4294967296) + (wrap64 ((Int.tmod (wrap64 ((wrap64 (Int.tdiv x8_3 65536)) * x9_3)) 65536) * 65536)))) 4294967296)))))) + 1))] rfl (by (try simp only [List.map_toArray, List.map_cons, List.map_nil]); first | done | rfl | (simp only [List.length_drop, List.length_take]; rfl)) ?_; (with_reducible refine (zoetroperef01_Word.calls (wrap64 ((wrap64 (4294967295 - (wrap64 ((wrap64 ((wrap64 (Int.tdiv (wrap64 ((Int.tmod x8_3 65536) * x9_3)) 4294967296)) + (wrap64 (Int.tdiv (wrap64 ((wrap64 (Int.tdiv x8_3 65536)) * x9_3)) 65536)))) + (wrap64 (Int.tdiv (wrap64 ((Int.tmod (wrap64 ((Int.tmod x8_3 65536) * x9_3)) 4294967296) + (wrap64 ((Int.tmod (wrap64 ((wrap64 (Int.tdiv x8_3 65536)) * x9_3)) 65536) * 65536)))) 4294967296)))))) + 1)) t103 _ A16.out).mono ?_); rintro e w' ⟨rfl, ⟨nd, rfl⟩⟩; refine ⟨_, rfl, ?_⟩) | ((with_reducible refine gate_callee (f := 30) rfl ?_); refine goesL_ (some 84) rfl rfl Try.func30 (by kernel_rfl) rfl #[.int .i64 0] rfl (by (try simp only [List.map_toArray, List.map_cons, List.map_nil]); first | done | rfl | (simp only [List.length_drop, List.length_take]; rfl)) ?_; (with_reducible refine (zoetroperef01_Word.calls 0 t104 _ A17.out).mono ?_); rintro e w' ⟨rfl, ⟨nd, rfl⟩⟩; refine ⟨_, rfl, ?_⟩))
              go_ret2
              exact ⟨by first | rfl | (simp; done) | (simp [*]; done), by repeat (first | exact Drawn0.refl _ | apply Drawn0.step)⟩
            · rw [if_neg c15] at H
              have c15b0 : ((wrap64 (4294967296 - (Int.tmod (wrap64 ((Int.tmod (wrap64 ((Int.tmod x8_3 65536) * x9_3)) 4294967296) + (wrap64 ((Int.tmod (wrap64 ((wrap64 (Int.tdiv x8_3 65536)) * x9_3)) 65536) * 65536)))) 4294967296))) == 4294967296) = false := beq_eq_false_iff_ne.mpr c15
              have c15b1 : ((wrap64 (4294967296 - (Int.tmod (wrap64 ((Int.tmod (wrap64 ((Int.tmod x8_3 65536) * x9_3)) 4294967296) + (wrap64 ((Int.tmod (wrap64 ((wrap64 (Int.tdiv x8_3 65536)) * x9_3)) 65536) * 65536)))) 4294967296))) != 4294967296) = true := bne_iff_ne.mpr c15
              replace H := Option.bind_eq_some_iff.mp H
              obtain ⟨t105, A180, H⟩ := H
              replace H : ((zoetroperef01_Word.f (wrap64 (4294967296 - (Int.tmod (wrap64 ((Int.tmod (wrap64 ((Int.tmod x8_3 65536) * x9_3)) 4294967296) + (wrap64 ((Int.tmod (wrap64 ((wrap64 (Int.tdiv x8_3 65536)) * x9_3)) 65536) * 65536)))) 4294967296)))).bind fun t106 => (some (t105, t106))) = some (r1, r2) := H
              have A18 := Aside0.mk A180
              clear A180
              replace H := Option.bind_eq_some_iff.mp H
              obtain ⟨t106, A190, H⟩ := H
              replace H : (some (t105, t106)) = some (r1, r2) := H
              have A19 := Aside0.mk A190
              clear A190
              simp only [Option.some.injEq, Prod.mk.injEq] at H
              obtain ⟨rfl, rfl⟩ := H
              go_wp2_with (first | ((with_reducible refine gate_callee (f := 30) rfl ?_); refine goesL_ (some 82) rfl rfl Try.func30 (by kernel_rfl) rfl #[.int .i64 (wrap64 (4294967295 - (wrap64 ((wrap64 ((wrap64 (Int.tdiv (wrap64 ((Int.tmod x8_3 65536) * x9_3)) 4294967296)) + (wrap64 (Int.tdiv (wrap64 ((wrap64 (Int.tdiv x8_3 65536)) * x9_3)) 65536)))) + (wrap64 (Int.tdiv (wrap64 ((Int.tmod (wrap64 ((Int.tmod x8_3 65536) * x9_3)) 4294967296) + (wrap64 ((Int.tmod (wrap64 ((wrap64 (Int.tdiv x8_3 65536)) * x9_3)) 65536) * 65536)))) 4294967296))))))] rfl (by (try simp only [List.map_toArray, List.map_cons, List.map_nil]); first | done | rfl | (simp only [List.length_drop, List.length_take]; rfl)) ?_; (with_reducible refine (zoetroperef01_Word.calls (wrap64 (4294967295 - (wrap64 ((wrap64 ((wrap64 (Int.tdiv (wrap64 ((Int.tmod x8_3 65536) * x9_3)) 4294967296)) + (wrap64 (Int.tdiv (wrap64 ((wrap64 (Int.tdiv x8_3 65536)) * x9_3)) 65536)))) + (wrap64 (Int.tdiv (wrap64 ((Int.tmod (wrap64 ((Int.tmod x8_3 65536) * x9_3)) 4294967296) + (wrap64 ((Int.tmod (wrap64 ((wrap64 (Int.tdiv x8_3 65536)) * x9_3)) 65536) * 65536)))) 4294967296)))))) t105 _ A18.out).mono ?_); rintro e w' ⟨rfl, ⟨nd, rfl⟩⟩; refine ⟨_, rfl, ?_⟩) | ((with_reducible refine gate_callee (f := 30) rfl ?_); refine goesL_ (some 84) rfl rfl Try.func30 (by kernel_rfl) rfl #[.int .i64 (wrap64 (4294967296 - (Int.tmod (wrap64 ((Int.tmod (wrap64 ((Int.tmod x8_3 65536) * x9_3)) 4294967296) + (wrap64 ((Int.tmod (wrap64 ((wrap64 (Int.tdiv x8_3 65536)) * x9_3)) 65536) * 65536)))) 4294967296)))] rfl (by (try simp only [List.map_toArray, List.map_cons, List.map_nil]); first | done | rfl | (simp only [List.length_drop, List.length_take]; rfl)) ?_; (with_reducible refine (zoetroperef01_Word.calls (wrap64 (4294967296 - (Int.tmod (wrap64 ((Int.tmod (wrap64 ((Int.tmod x8_3 65536) * x9_3)) 4294967296) + (wrap64 ((Int.tmod (wrap64 ((wrap64 (Int.tdiv x8_3 65536)) * x9_3)) 65536) * 65536)))) 4294967296))) t106 _ A19.out).mono ?_); rintro e w' ⟨rfl, ⟨nd, rfl⟩⟩; refine ⟨_, rfl, ?_⟩))
              go_ret2
              exact ⟨by first | rfl | (simp; done) | (simp [*]; done), by repeat (first | exact Drawn0.refl _ | apply Drawn0.step)⟩
          · replace c14 := Bool.eq_false_iff.mpr c14
            subst c14
            have H1 : ((zoetroperef01_Word.f (wrap64 ((wrap64 ((wrap64 (Int.tdiv (wrap64 ((Int.tmod x8_3 65536) * x9_3)) 4294967296)) + (wrap64 (Int.tdiv (wrap64 ((wrap64 (Int.tdiv x8_3 65536)) * x9_3)) 65536)))) + (wrap64 (Int.tdiv (wrap64 ((Int.tmod (wrap64 ((Int.tmod x8_3 65536) * x9_3)) 4294967296) + (wrap64 ((Int.tmod (wrap64 ((wrap64 (Int.tdiv x8_3 65536)) * x9_3)) 65536) * 65536)))) 4294967296))))).bind fun t107 => ((zoetroperef01_Word.f (Int.tmod (wrap64 ((Int.tmod (wrap64 ((Int.tmod x8_3 65536) * x9_3)) 4294967296) + (wrap64 ((Int.tmod (wrap64 ((wrap64 (Int.tdiv x8_3 65536)) * x9_3)) 65536) * 65536)))) 4294967296)).bind fun t108 => (some (t107, t108)))) = some (r1, r2) := by rw [if_neg (show ¬ (false = true) by decide)] at H; exact H
            clear H
            have H := H1
            clear H1
            replace H := Option.bind_eq_some_iff.mp H
            obtain ⟨t107, A200, H⟩ := H
            replace H : ((zoetroperef01_Word.f (Int.tmod (wrap64 ((Int.tmod (wrap64 ((Int.tmod x8_3 65536) * x9_3)) 4294967296) + (wrap64 ((Int.tmod (wrap64 ((wrap64 (Int.tdiv x8_3 65536)) * x9_3)) 65536) * 65536)))) 4294967296)).bind fun t108 => (some (t107, t108))) = some (r1, r2) := H
            have A20 := Aside0.mk A200
            clear A200
            replace H := Option.bind_eq_some_iff.mp H
            obtain ⟨t108, A210, H⟩ := H
            replace H : (some (t107, t108)) = some (r1, r2) := H
            have A21 := Aside0.mk A210
            clear A210
            simp only [Option.some.injEq, Prod.mk.injEq] at H
            obtain ⟨rfl, rfl⟩ := H
            go_wp2_with (first | ((with_reducible refine gate_callee (f := 30) rfl ?_); refine goesL_ (some 82) rfl rfl Try.func30 (by kernel_rfl) rfl #[.int .i64 (wrap64 ((wrap64 ((wrap64 (Int.tdiv (wrap64 ((Int.tmod x8_3 65536) * x9_3)) 4294967296)) + (wrap64 (Int.tdiv (wrap64 ((wrap64 (Int.tdiv x8_3 65536)) * x9_3)) 65536)))) + (wrap64 (Int.tdiv (wrap64 ((Int.tmod (wrap64 ((Int.tmod x8_3 65536) * x9_3)) 4294967296) + (wrap64 ((Int.tmod (wrap64 ((wrap64 (Int.tdiv x8_3 65536)) * x9_3)) 65536) * 65536)))) 4294967296))))] rfl (by (try simp only [List.map_toArray, List.map_cons, List.map_nil]); first | done | rfl | (simp only [List.length_drop, List.length_take]; rfl)) ?_; (with_reducible refine (zoetroperef01_Word.calls (wrap64 ((wrap64 ((wrap64 (Int.tdiv (wrap64 ((Int.tmod x8_3 65536) * x9_3)) 4294967296)) + (wrap64 (Int.tdiv (wrap64 ((wrap64 (Int.tdiv x8_3 65536)) * x9_3)) 65536)))) + (wrap64 (Int.tdiv (wrap64 ((Int.tmod (wrap64 ((Int.tmod x8_3 65536) * x9_3)) 4294967296) + (wrap64 ((Int.tmod (wrap64 ((wrap64 (Int.tdiv x8_3 65536)) * x9_3)) 65536) * 65536)))) 4294967296)))) t107 _ A20.out).mono ?_); rintro e w' ⟨rfl, ⟨nd, rfl⟩⟩; refine ⟨_, rfl, ?_⟩) | ((with_reducible refine gate_callee (f := 30) rfl ?_); refine goesL_ (some 84) rfl rfl Try.func30 (by kernel_rfl) rfl #[.int .i64 (Int.tmod (wrap64 ((Int.tmod (wrap64 ((Int.tmod x8_3 65536) * x9_3)) 4294967296) + (wrap64 ((Int.tmod (wrap64 ((wrap64 (Int.tdiv x8_3 65536)) * x9_3)) 65536) * 65536)))) 4294967296)] rfl (by (try simp only [List.map_toArray, List.map_cons, List.map_nil]); first | done | rfl | (simp only [List.length_drop, List.length_take]; rfl)) ?_; (with_reducible refine (zoetroperef01_Word.calls (Int.tmod (wrap64 ((Int.tmod (wrap64 ((Int.tmod x8_3 65536) * x9_3)) 4294967296) + (wrap64 ((Int.tmod (wrap64 ((wrap64 (Int.tdiv x8_3 65536)) * x9_3)) 65536) * 65536)))) 4294967296) t108 _ A21.out).mono ?_); rintro e w' ⟨rfl, ⟨nd, rfl⟩⟩; refine ⟨_, rfl, ?_⟩))
            go_ret2
            exact ⟨by first | rfl | (simp; done) | (simp [*]; done), by repeat (first | exact Drawn0.refl _ | apply Drawn0.step)⟩


end Go.Proofs.Ytlmadoihfnhnbaa.Fun
