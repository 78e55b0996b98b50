/- What the functions of package cp0 come to, as contracts of the calls. Conditions: each register is from 0 to 2^32 - 1. -/
import Derived.Test.YticibpginpkbfaaBits
import Derived.WalkLawsBesides
import Derived.RegionTactic
import Derived.ChangeAlike
namespace Go.Proofs.Yticibpginpkbfaa.Con
open Go.RowKit Go.Proofs.Yticibpginpkbfaa.Fun Go.Proofs.Yticibpginpkbfaa.Bits Go.Proofs.YticibpginpkbfaaW.PrintWords Go.Proofs.YticibpginpkbfaaW.PrintLast Go.Proofs.YticibpginpkbfaaW.PrintMore
set_option linter.unusedVariables false
set_option linter.unusedSimpArgs false

/-- The registers as a value. -/
abbrev regs (c0 c1 c2 c3 c4 c5 c6 c7 c8 : Int) : Value := .agg #[.int .u32 c0, .int .u32 c1, .int .u32 c2, .int .u32 c3, .int .u32 c4, .int .u32 c5, .int .u32 c6, .int .u32 c7, .int .u32 c8]

set_option maxHeartbeats 2000000 in
set_option maxRecDepth 100000 in
theorem tick_raw (c0 c1 c2 c3 c4 c5 c6 c7 c8 l : Int) (w : World) : Calls Try.prog 20 #[regs c0 c1 c2 c3 c4 c5 c6 c7 c8, .int .u32 l] w fun e w' =>
    e = .returned (regs c0 c1 c2 ((c3 + 1) % 4294967296) c4 c5 c6 (if ((c3 + 1) % 4294967296 == c5) = true then Go.bits .or .u32 (Go.bits .or .u32 (Go.bits .andNot .u32 c7 31744) (Go.bits .and .u32 (l * 1024 % 4294967296) 31744)) 32768 else Go.bits .or .u32 (Go.bits .andNot .u32 c7 31744) (Go.bits .and .u32 (l * 1024 % 4294967296) 31744)) c8) ∧ ∃ o1 o2, w' = (w.alloc o1).alloc o2 := by
  by_cases h : ((c3 + 1) % 4294967296 == c5) = true
  · rw [if_pos h]
    go_enter Try.func20, Try.ntmps20
    go_wp2
    exact bodyPost_ret (v := regs _ _ _ _ _ _ _ _ _) (by simp [results, Try.results20, go_sem]) rfl ⟨rfl, _, _, rfl⟩
  · rw [if_neg h]
    have h' : ((c3 + 1) % 4294967296 == c5) = false := by simpa using h
    clear h
    go_enter Try.func20, Try.ntmps20
    go_wp2
    exact bodyPost_ret (v := regs _ _ _ _ _ _ _ _ _) (by simp [results, Try.results20, go_sem]) rfl ⟨rfl, _, _, rfl⟩
def raise7 (ex delay : Bool) (c7 : Int) : Int := if ex = true then (if delay = true then Go.bits .or .u32 (Go.bits .andNot .u32 c7 2147483648) 2147483648 else Go.bits .andNot .u32 c7 2147483648) else c7
def raise8 (ex delay : Bool) (c8 pc : Int) : Int := if ex = true then (if delay = true then (pc - 4) % 4294967296 else pc) else c8
def raiseTo (ex refill : Bool) : Int := if ex = true then (if refill = true then 2147483648 else 2147484032) else 2147484032

set_option maxHeartbeats 4000000 in
set_option maxRecDepth 100000 in
theorem raise_raw (c0 c1 c2 c3 c4 c5 c6 c7 c8 code pc : Int) (refill delay : Bool) (w : World) : Calls Try.prog 14 #[regs c0 c1 c2 c3 c4 c5 c6 c7 c8, .int .i64 code, .bool refill, .int .u32 pc, .bool delay] w fun e w' =>
    e = .returned (.tuple #[regs c0 c1 c2 c3 c4 c5 (Go.bits .or .u32 c6 2) (Go.bits .or .u32 (Go.bits .andNot .u32 (raise7 (Go.bits .and .u32 c6 2 == 0) delay c7) 124) (Go.bits .and .u32 (code % 4294967296 * 4 % 4294967296) 124)) (raise8 (Go.bits .and .u32 c6 2 == 0) delay c8 pc), .int .u32 (raiseTo (Go.bits .and .u32 c6 2 == 0) refill)]) ∧ ∃ o1 o2, w' = (w.alloc o1).alloc o2 := by
  obtain ⟨ex, hex⟩ : ∃ ex : Bool, (Go.bits .and .u32 c6 2 == 0) = ex := ⟨_, rfl⟩
  rw [hex]
  cases ex
  · go_enter Try.func14, Try.ntmps14
    go_wp2
    exact bodyPost_ret (v := .tuple #[regs _ _ _ _ _ _ _ _ _, .int .u32 _]) (by simp [results, Try.results14, go_sem, raise7, raise8, raiseTo]) rfl ⟨rfl, _, _, rfl⟩
  · cases delay <;> cases refill
    · go_enter Try.func14, Try.ntmps14
      go_wp2
      exact bodyPost_ret (v := .tuple #[regs _ _ _ _ _ _ _ _ _, .int .u32 _]) (by simp [results, Try.results14, go_sem, raise7, raise8, raiseTo]) rfl ⟨rfl, _, _, rfl⟩
    · go_enter Try.func14, Try.ntmps14
      go_wp2
      exact bodyPost_ret (v := .tuple #[regs _ _ _ _ _ _ _ _ _, .int .u32 _]) (by simp [results, Try.results14, go_sem, raise7, raise8, raiseTo]) rfl ⟨rfl, _, _, rfl⟩
    · go_enter Try.func14, Try.ntmps14
      go_wp2
      exact bodyPost_ret (v := .tuple #[regs _ _ _ _ _ _ _ _ _, .int .u32 _]) (by simp [results, Try.results14, go_sem, raise7, raise8, raiseTo]) rfl ⟨rfl, _, _, rfl⟩
    · go_enter Try.func14, Try.ntmps14
      go_wp2
      exact bodyPost_ret (v := .tuple #[regs _ _ _ _ _ _ _ _ _, .int .u32 _]) (by simp [results, Try.results14, go_sem, raise7, raise8, raiseTo]) rfl ⟨rfl, _, _, rfl⟩

set_option maxHeartbeats 4000000 in
set_option maxRecDepth 100000 in
theorem pend_raw (c0 c1 c2 c3 c4 c5 c6 c7 c8 : Int) (w : World) : Calls Try.prog 22 #[regs c0 c1 c2 c3 c4 c5 c6 c7 c8] w fun e w' =>
    e = .returned (.bool (if (Go.bits .and .u32 c6 3 == 1) = true then Go.bits .and .u32 ((Go.bits .and .u32 c6 c7) / 256) 255 != 0 else false)) ∧ ∃ o1, w' = w.alloc o1 := by
  obtain ⟨ex, hex⟩ : ∃ ex : Bool, (Go.bits .and .u32 c6 3 == 1) = ex := ⟨_, rfl⟩
  rw [hex]
  cases ex
  · go_enter Try.func22, Try.ntmps22
    go_wp2
    go_ret
    exact ⟨rfl, _, rfl⟩
  · go_enter Try.func22, Try.ntmps22
    go_wp2
    go_ret
    exact ⟨rfl, _, rfl⟩

set_option maxHeartbeats 4000000 in
set_option maxRecDepth 100000 in
theorem user_raw (c0 c1 c2 c3 c4 c5 c6 c7 c8 : Int) (w : World) : Calls Try.prog 24 #[regs c0 c1 c2 c3 c4 c5 c6 c7 c8] w fun e w' =>
    e = .returned (.bool (Go.bits .and .u32 c6 18 == 16)) ∧ ∃ o1, w' = w.alloc o1 := by
  go_enter Try.func24, Try.ntmps24
  go_wp2
  go_ret
  exact ⟨rfl, _, rfl⟩

set_option maxHeartbeats 4000000 in
set_option maxRecDepth 100000 in
theorem return_raw (c0 c1 c2 c3 c4 c5 c6 c7 c8 : Int) (w : World) : Calls Try.prog 16 #[regs c0 c1 c2 c3 c4 c5 c6 c7 c8] w fun e w' =>
    e = .returned (.tuple #[regs c0 c1 c2 c3 c4 c5 (Go.bits .andNot .u32 c6 2) c7 c8, .int .u32 c8]) ∧ ∃ o1 o2, w' = ((w.alloc o1).alloc o2).drew := by
  go_enter Try.func16, Try.ntmps16
  go_wp2
  go_region
  go_wp2
  exact bodyPost_ret (v := .tuple #[regs _ _ _ _ _ _ _ _ _, .int .u32 _]) (by simp [results, Try.results16, go_sem]) rfl ⟨rfl, _, _, rfl⟩

set_option maxHeartbeats 4000000 in
set_option maxRecDepth 100000 in
theorem bad_raw (c0 c1 c2 c3 c4 c5 c6 c7 c8 a : Int) (page : Bool) (w : World) : Calls Try.prog 18 #[regs c0 c1 c2 c3 c4 c5 c6 c7 c8, .int .u32 a, .bool page] w fun e w' =>
    e = .returned (regs c0 c1 a c3 (if page = true then Go.bits .or .u32 (Go.bits .andNot .u32 c4 4294967040) (Go.bits .and .u32 a 4294967040) else c4) c5 c6 c7 c8) ∧ ∃ o1 o2, w' = (w.alloc o1).alloc o2 := by
  cases page
  · go_enter Try.func18, Try.ntmps18
    go_wp2
    exact bodyPost_ret (v := regs _ _ _ _ _ _ _ _ _) (by simp [results, Try.results18, go_sem]) rfl ⟨rfl, _, _, rfl⟩
  · go_enter Try.func18, Try.ntmps18
    go_wp2
    exact bodyPost_ret (v := regs _ _ _ _ _ _ _ _ _) (by simp [results, Try.results18, go_sem]) rfl ⟨rfl, _, _, rfl⟩

end Go.Proofs.Yticibpginpkbfaa.Con
