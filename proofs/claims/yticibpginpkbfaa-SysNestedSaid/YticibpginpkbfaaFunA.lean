/- The functions 29,28,27 of the program and of the document's answer, as Lean functions, each with the proof that the Go code comes to its answers (lines of the kit's print, gathered). No conditions of their own. -/
import Derived.Test.YticibpginpkbfaaProg
import Derived.Below
import Derived.Deep.Draws
import Derived.Deep.AppendLies
import Derived.Maps.AppendAt
import Derived.OwnWalk
import Derived.Laws.BytesArg
import Derived.Laws.MakeOwn
import Derived.Laws.OwnMore
import Derived.Deep.OwnRows
import Derived.Tactics
import Derived.Lib.ConvBytes
import Derived.Laws.Slices
import Derived.WalkKit
import Derived.KernelRfl
import Derived.RowKit3
import Derived.Deep.LoopGhost
import Derived.Deep.QuietTactic
import Derived.BigQuiet
import Derived.WideLaws
import Derived.Deep.DeepCutAuto
import Derived.Deep.CutBlock
import Derived.Deep.RegionHeld3
import Derived.Laws.Rows
import Derived.Lib.AppendStr
import Derived.ArgAppend
import Derived.Laws.IdiomCopy
import Derived.OrdersHeld
import Derived.Laws.BitsLemmas
import Derived.RowKit
import Derived.Test.YticibpginpkbfaaWWords
import Derived.Test.YticibpginpkbfaaWLast
import Derived.Test.YticibpginpkbfaaWTab
import Derived.Test.YticibpginpkbfaaWFour
import Derived.Test.YticibpginpkbfaaWQPut
import Derived.Test.YticibpginpkbfaaWApart
import Derived.Test.YticibpginpkbfaaWArr
import Derived.Test.YticibpginpkbfaaWZeros
import Derived.Test.YticibpginpkbfaaWFoot
import Derived.Test.YticibpginpkbfaaWKept
import Derived.Test.YticibpginpkbfaaWShare
import Derived.Test.YticibpginpkbfaaWN
import Derived.Test.YticibpginpkbfaaWFootNe
import Derived.Test.YticibpginpkbfaaWAt
import Derived.Test.YticibpginpkbfaaWEqStruct
import Derived.Test.YticibpginpkbfaaWRepsOne
import Derived.Test.YticibpginpkbfaaWInv
import Derived.Test.YticibpginpkbfaaWInvWords
import Derived.Test.YticibpginpkbfaaWGuard
import Derived.Test.YticibpginpkbfaaWNEv
import Derived.Test.YticibpginpkbfaaWMore
namespace Go.Proofs.Yticibpginpkbfaa.Fun
open Go.RowKit Go.Proofs.YticibpginpkbfaaW.PrintWords Go.Proofs.YticibpginpkbfaaW.PrintLast Go.Proofs.YticibpginpkbfaaW.PrintMore
attribute [local go_sem] max2_int min2_int max_two min_two max_three min_three max_four min_four   -- for this text's walks alone
set_option linter.unusedVariables false
set_option linter.unusedSimpArgs false



def errW : Option Int → Value
  | none => .nilIface
  | some c => .iface 0 (.int .i64 c)
theorem errW_none : errW none = .nilIface := rfl
theorem errW_some (c : Int) : errW (some c) = .iface 0 (.int .i64 c) := rfl

-- the values' own types

/-! ### zoetroperef08_Bit: function 29 -/
def zoetroperef08_Bit.f (a0 : Int) (a1 : Int) : Option (Bool) := if 0 ≤ a1 then (some ((Int.tmod (shr .i64 (wrap64 (a0)) a1) 2) == 1)) else (none)
set_option maxHeartbeats 8000000 in
set_option maxRecDepth 100000 in
theorem zoetroperef08_Bit.calls (a0 : Int) (a1 : Int) (r : Bool) (w : World) (h : zoetroperef08_Bit.f a0 a1 = some r) :
    Calls Try.prog 29 #[.int .u32 a0, .int .i64 a1] w fun e w' => e = .returned (.bool r) ∧ Drawn0 w w' := by
  have H : (if 0 ≤ a1 then (some ((Int.tmod (shr .i64 (wrap64 (a0)) a1) 2) == 1)) else (none)) = some r := h
  clear h
  by_cases c3 : 0 ≤ a1
  · rw [if_pos c3] at H
    have c3b0 := eq_true c3
    have c3b1 : decide (0 ≤ a1) = true := decide_eq_true c3
    clear c3
    obtain ⟨ji4, hji4⟩ : ∃ j_ : Int, (shr .i64 (wrap64 (a0)) a1) = j_ := ⟨_, rfl⟩
    replace H : (some ((Int.tmod (ji4) 2) == 1)) = some r := by first | (rw [hji4] at H; exact H) | (simp only [hji4] at H ⊢; exact H)
    have hji4_ : ((wrap64 (a0)) / 2 ^ min a1.toNat 64) = ji4 := hji4
    have hji4z : a1 ≤ 64 → ((wrap64 (a0)) / 2 ^ a1.toNat) = ji4 := shr_small hji4
    obtain rfl := Option.some.inj H
    go_enter Try.func29, Try.ntmps29
    go_wp2
    go_ret
    exact ⟨by first | rfl | (simp; done) | (simp only [← hji4] <;> (first | rfl | simp)) | (simp [*]; done), by repeat (first | exact Drawn0.refl _ | apply Drawn0.step)⟩
  · rw [if_neg c3] at H
    exact absurd H (by simp)

/-! ### zoetroperef08_With: function 28 -/
def zoetroperef08_With.f (a0 : Int) (a1 : Int) (a2 : Bool) : Option (Int) := if 0 ≤ a1 then (if (shl .i64 1 a1) = 0 then (none) else (if a2 = true then (some ((wrap64 ((wrap64 ((wrap64 (a0)) - (wrap64 ((Int.tmod (wrap64 (Int.tdiv (wrap64 (a0)) (shl .i64 1 a1))) 2) * (shl .i64 1 a1))))) + (shl .i64 1 a1))) % 4294967296)) else (some ((wrap64 ((wrap64 (a0)) - (wrap64 ((Int.tmod (wrap64 (Int.tdiv (wrap64 (a0)) (shl .i64 1 a1))) 2) * (shl .i64 1 a1))))) % 4294967296)))) else (none)
set_option maxHeartbeats 8000000 in
set_option maxRecDepth 100000 in
theorem zoetroperef08_With.calls (a0 : Int) (a1 : Int) (a2 : Bool) (r : Int) (w : World) (h : zoetroperef08_With.f a0 a1 a2 = some r) :
    Calls Try.prog 28 #[.int .u32 a0, .int .i64 a1, .bool a2] w fun e w' => e = .returned (.int .u32 r) ∧ Drawn0 w w' := by
  have H : (if 0 ≤ a1 then (if (shl .i64 1 a1) = 0 then (none) else (if a2 = true then (some ((wrap64 ((wrap64 ((wrap64 (a0)) - (wrap64 ((Int.tmod (wrap64 (Int.tdiv (wrap64 (a0)) (shl .i64 1 a1))) 2) * (shl .i64 1 a1))))) + (shl .i64 1 a1))) % 4294967296)) else (some ((wrap64 ((wrap64 (a0)) - (wrap64 ((Int.tmod (wrap64 (Int.tdiv (wrap64 (a0)) (shl .i64 1 a1))) 2) * (shl .i64 1 a1))))) % 4294967296)))) else (none)) = some r := h
  clear h
  by_cases c4 : 0 ≤ a1
  · rw [if_pos c4] at H
    have c4b0 := eq_true c4
    have c4b1 : decide (0 ≤ a1) = true := decide_eq_true c4
    clear c4
    obtain ⟨ji5, hji5⟩ : ∃ j_ : Int, (shl .i64 1 a1) = j_ := ⟨_, rfl⟩
    replace H : (if (ji5) = 0 then (none) else (if a2 = true then (some ((wrap64 ((wrap64 ((wrap64 (a0)) - (wrap64 ((Int.tmod (wrap64 (Int.tdiv (wrap64 (a0)) (ji5))) 2) * (ji5))))) + (ji5))) % 4294967296)) else (some ((wrap64 ((wrap64 (a0)) - (wrap64 ((Int.tmod (wrap64 (Int.tdiv (wrap64 (a0)) (ji5))) 2) * (ji5))))) % 4294967296)))) = some r := by first | (rw [hji5] at H; exact H) | (simp only [hji5] at H ⊢; exact H)
    have hji5_ : (IntKind.i64.wrap (1 * 2 ^ min a1.toNat 64)) = ji5 := hji5
    have hji5z : a1 ≤ 64 → (IntKind.i64.wrap (1 * 2 ^ a1.toNat)) = ji5 := shl_small hji5
    have hji5u : (IntKind.i64.wrap (2 ^ min a1.toNat 64)) = ji5 := by have h_ := hji5_; rw [Int.one_mul] at h_; exact h_
    have hji5v : a1 ≤ 64 → (IntKind.i64.wrap (2 ^ a1.toNat)) = ji5 := fun hle_ => by have h_ := hji5z hle_; rw [Int.one_mul] at h_; exact h_
    have hji5y : (wrap64 (1 * 2 ^ min a1.toNat 64)) = ji5 := (i64_w _).symm.trans hji5_
    have hji5x : a1 ≤ 64 → (wrap64 (1 * 2 ^ a1.toNat)) = ji5 := fun h_ => (i64_w _).symm.trans (hji5z h_)
    by_cases c6 : (ji5) = 0
    · rw [if_pos c6] at H
      exact absurd H (by simp)
    · rw [if_neg c6] at H
      have c6b0 : ((ji5) == 0) = false := beq_eq_false_iff_ne.mpr c6
      have c6b1 : ((ji5) != 0) = true := bne_iff_ne.mpr c6
      by_cases c7 : a2 = true
      · subst c7
        have H1 : (some ((wrap64 ((wrap64 ((wrap64 (a0)) - (wrap64 ((Int.tmod (wrap64 (Int.tdiv (wrap64 (a0)) (ji5))) 2) * (ji5))))) + (ji5))) % 4294967296)) = some r := by rw [if_pos rfl] at H; exact H
        clear H
        have H := H1
        clear H1
        obtain rfl := Option.some.inj H
        go_enter Try.func28, Try.ntmps28
        go_wp2
        go_ret
        exact ⟨by first | rfl | (simp; done) | (simp only [← hji5] <;> (first | rfl | simp)) | (simp [*]; done), by repeat (first | exact Drawn0.refl _ | apply Drawn0.step)⟩
      · replace c7 := Bool.eq_false_iff.mpr c7
        subst c7
        have H1 : (some ((wrap64 ((wrap64 (a0)) - (wrap64 ((Int.tmod (wrap64 (Int.tdiv (wrap64 (a0)) (ji5))) 2) * (ji5))))) % 4294967296)) = some r := by rw [if_neg (show ¬ (false = true) by decide)] at H; exact H
        clear H
        have H := H1
        clear H1
        obtain rfl := Option.some.inj H
        go_enter Try.func28, Try.ntmps28
        go_wp2
        go_ret
        exact ⟨by first | rfl | (simp; done) | (simp only [← hji5] <;> (first | rfl | simp)) | (simp [*]; done), by repeat (first | exact Drawn0.refl _ | apply Drawn0.step)⟩
  · rw [if_neg c4] at H
    exact absurd H (by simp)

/-! ### zoetroperef08_Mix: function 27 -/
def zoetroperef08_Mix.l0 : Nat → Int → Int → Int → Int → Option (Int)
  | 0, _, _, _, _ => none
  | k + 1, x0, x1, x3, x9 => if x9 ≤ x3 then ((zoetroperef08_Bit.f x1 x9).bind fun t114 => ((zoetroperef08_With.f x0 x9 t114).bind fun t115 => (zoetroperef08_Mix.l0 k t115 x1 x3 (wrap64 (x9 + 1))))) else (some x0)
def zoetroperef08_Mix.f (k : Nat) (a0 : Int) (a1 : Int) (a2 : Int) (a3 : Int) : Option (Int) := zoetroperef08_Mix.l0 k a0 a1 a3 a2
theorem zoetroperef08_Mix.mono_l : ∀ k, (∀ y0 y1 y2 y3, LeO (zoetroperef08_Mix.l0 k y0 y1 y2 y3) (zoetroperef08_Mix.l0 (k + 1) y0 y1 y2 y3))
  | 0 => fun _ _ _ _ r h => by simp [zoetroperef08_Mix.l0] at h
  | k + 1 => by
    have ih0 := zoetroperef08_Mix.mono_l k
    · intro y0 y1 y2 y3
      unfold zoetroperef08_Mix.l0
      repeat' first
      | (with_reducible exact ih0 _ _ _ _)
      | (with_reducible exact LeO.refl _)
      | (with_reducible exact LeO.none _)
      | (with_reducible refine LeO.ite ?_ ?_)
      | (with_reducible refine LeO.bind ?_ (fun _ => ?_))
      | exact ih0 _ _ _ _
      | exact LeO.none _
      | refine LeO.ite ?_ ?_
      | refine LeO.bind ?_ (fun _ => ?_)
theorem zoetroperef08_Mix.mono : ∀ a0 a1 a2 a3 k, LeO (zoetroperef08_Mix.f k a0 a1 a2 a3) (zoetroperef08_Mix.f (k + 1) a0 a1 a2 a3) := by
  intro a0 a1 a2 a3 k
  have ih0 := zoetroperef08_Mix.mono_l k
  unfold zoetroperef08_Mix.f
  repeat' first
      | (with_reducible exact ih0 _ _ _ _)
      | (with_reducible exact LeO.refl _)
      | (with_reducible exact LeO.none _)
      | (with_reducible refine LeO.ite ?_ ?_)
      | (with_reducible refine LeO.bind ?_ (fun _ => ?_))
      | exact ih0 _ _ _ _
      | exact LeO.none _
      | refine LeO.ite ?_ ?_
      | refine LeO.bind ?_ (fun _ => ?_)
set_option maxHeartbeats 8000000 in
set_option maxRecDepth 100000 in
theorem zoetroperef08_Mix.calls (k : Nat) (a0 : Int) (a1 : Int) (a2 : Int) (a3 : Int) (r : Int) (w : World) (h : zoetroperef08_Mix.f k a0 a1 a2 a3 = some r) :
    Calls Try.prog 27 #[.int .u32 a0, .int .u32 a1, .int .i64 a2, .int .i64 a3] w fun e w' => e = .returned (.int .u32 r) ∧ Drawn0 w w' := by
  have H : (zoetroperef08_Mix.l0 k a0 a1 a3 a2) = some r := h
  clear h
  have H' := Aside0.mk H
  clear H
  go_enter Try.func27, Try.ntmps27
  go_wp2
  go_loopg [0, 9] k (fun kq v0 v9 w' => ∃ (x0_1 : Int) (x9_1 : Int), v0 = .int .u32 x0_1 ∧ v9 = .int .i64 x9_1 ∧ Aside0 (zoetroperef08_Mix.l0 kq x0_1 a1 a3 x9_1 = some r) ∧ Aside0 (kq ≤ k) ∧ Drawn0 w w')
  case atStart => exact ⟨(a0), (a2), (by first | rfl | (simp; done) | (simp [*]; done)), (by first | rfl | (simp; done) | (simp [*]; done)), H', ⟨Nat.le_refl _⟩, by repeat (first | exact Drawn0.refl _ | apply Drawn0.step)⟩
  case round =>
    clear H'
    try clear c2
    try clear p2
    obtain ⟨x0_1, x9_1, rfl, rfl, HA, HK1, ⟨m1, rfl⟩⟩ := hrel
    cases gk with
    | zero => exact absurd HA.out (by simp [zoetroperef08_Mix.l0])
    | succ k1 =>
      have H := HA.out
      clear HA
      simp only [zoetroperef08_Mix.l0] at H
      by_cases c5 : x9_1 ≤ a3
      · rw [if_pos c5] at H
        have c5b0 : decide (x9_1 ≤ a3) = true := decide_eq_true c5
        clear c5
        replace H := Option.bind_eq_some_iff.mp H
        obtain ⟨t114, A60, H⟩ := H
        replace H : ((zoetroperef08_With.f x0_1 x9_1 t114).bind fun t115 => (zoetroperef08_Mix.l0 k1 t115 a1 a3 (wrap64 (x9_1 + 1)))) = some r := H
        have A6 := Aside0.mk A60
        clear A60
        replace H := Option.bind_eq_some_iff.mp H
        obtain ⟨t115, A70, H⟩ := H
        replace H : (zoetroperef08_Mix.l0 k1 t115 a1 a3 (wrap64 (x9_1 + 1))) = some r := H
        have A7 := Aside0.mk A70
        clear A70
        have H' := Aside0.mk H
        clear H
        go_wp2_with (first | ((with_reducible refine gate_callee (f := 29) rfl ?_); refine goesL_ (some 20) rfl rfl Try.func29 (by kernel_rfl) rfl #[.int .u32 a1, .int .i64 x9_1] rfl (by (try simp only [List.map_toArray, List.map_cons, List.map_nil]); first | done | rfl | (simp only [List.length_drop, List.length_take]; rfl)) ?_; (with_reducible refine (zoetroperef08_Bit.calls a1 x9_1 t114 _ A6.out).mono ?_); rintro e w' ⟨rfl, ⟨nd, rfl⟩⟩; refine ⟨_, rfl, ?_⟩) | ((with_reducible refine gate_callee (f := 28) rfl ?_); refine goesL_ (some 21) rfl rfl Try.func28 (by kernel_rfl) rfl #[.int .u32 x0_1, .int .i64 x9_1, .bool t114] rfl (by (try simp only [List.map_toArray, List.map_cons, List.map_nil]); first | done | rfl | (simp only [List.length_drop, List.length_take]; rfl)) ?_; (with_reducible refine (zoetroperef08_With.calls x0_1 x9_1 t114 t115 _ A7.out).mono ?_); rintro e w' ⟨rfl, ⟨nd, rfl⟩⟩; refine ⟨_, rfl, ?_⟩))
        go_roundg k1
        case measure => have := HK1.out; omega
        case rel => exact ⟨(t115), (wrap64 (x9_1 + 1)), (by first | rfl | (simp; done) | (simp [*]; done)), (by first | rfl | (simp; done) | (simp [*]; done)), H', ⟨by have := HK1.out; omega⟩, by repeat (first | exact Drawn0.refl _ | apply Drawn0.step)⟩
      · rw [if_neg c5] at H
        have c5b0 : decide (x9_1 ≤ a3) = false := decide_eq_false c5
        clear c5
        obtain rfl := Option.some.inj H
        go_wp2
        go_ret
        exact ⟨by first | rfl | (simp; done) | (simp [*]; done), by repeat (first | exact Drawn0.refl _ | apply Drawn0.step)⟩


end Go.Proofs.Yticibpginpkbfaa.Fun
