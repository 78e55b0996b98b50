/-
  No cell of these rows narrows 'for every input' (looked for: loops, veiled, ifaces, maps, wideKeys, modest, calm, conditions, laid).
  DERIVED. THE GIVEN ROWS OF THIS SEAT. 6 by the template 'for every input the law returns true; each argument reads behind the call as it read before'; 0 by the template 'total and deterministic' (their statements: YticibpginpkbfaaTotals.lean).
  GIVEN WITH THE SEED: the statements are not yours to turn. If you find one false, say at which input.
  Laid BY PROGRAM, IN A SANDBOX (cutbox-rows.mjs): the forced cells as the released guide's own fill.sh prints them over the translation 2fbf5d2e6d8b5e3a… (all of the seat's roots in one cut). By AI agents, Wed Nov 11 2026. No macro, syntax, notation, axiom, sorry.
-/
import Derived.Test.YticibpginpkbfaaChecked
import GoSem.Claim
import GoSem.ClaimJoined
import GoSem.ClaimMapViews
import Derived.JoinedTies
import Derived.KernelRfl
namespace Go.Proofs.Yticibpginpkbfaa
/- THE CELL 'sum', in the pinned program and in every row, IS THE sha256 OF THE DUMP (.gsa) THAT YticibpginpkbfaaProg.lean LOADS. Nothing in Lean hashes anything: it is a label: what it is worth is what the hold of that sum in a sandbox is worth. -/
noncomputable def Try.pinned : Pinned := { name := "yticibpginpkbfaa", sum := "2fbf5d2e6d8b5e3a5d290b15b4a73107f7fe13c9594e2093b7a30695f1014fa8", checked := Try.checked }
namespace Rows
def none {H : Type} : Left H := { results := [], args := [] }

/-- 'zoetropelaw08.SysRegs': WHATEVER THE INPUT: true; the input reads as it did. -/
def sysRegsSpec : ChangeSpec := { name := "sysRegs", fn := fun _ => fun
  | [d1, d2, d3] => { results := [.lit (.bool true)], args := [d1, d2, d3] }
  | _ => none }
def sysRegsRow : OpenClaim := { program := "yticibpginpkbfaa", sum := "2fbf5d2e6d8b5e3a5d290b15b4a73107f7fe13c9594e2093b7a30695f1014fa8", func := "zoetrope/zoetropelaw08.SysRegs", spec := "sysRegs", apart := false }
def SysRegsSaid : Prop := sysRegsRow.holds Try.pinned (OpenSpec.ofChange sysRegsSpec)

/-- ITS FALSE NEIGHBOUR: 'it returns false'. Refute it at one input. -/
def sysRegsWrong : ChangeSpec := { name := "sysRegs", fn := fun _ => fun
  | [d1, d2, d3] => { results := [.lit (.bool false)], args := [d1, d2, d3] }
  | _ => none }
def SysRegsWrongFalsely : Prop := sysRegsRow.holds Try.pinned (OpenSpec.ofChange sysRegsWrong)

/-- 'zoetropelaw08.SysRaises': WHATEVER THE INPUT: true; the input reads as it did. -/
def sysRaisesSpec : ChangeSpec := { name := "sysRaises", fn := fun _ => fun
  | [d1, d2] => { results := [.lit (.bool true)], args := [d1, d2] }
  | _ => none }
def sysRaisesRow : OpenClaim := { program := "yticibpginpkbfaa", sum := "2fbf5d2e6d8b5e3a5d290b15b4a73107f7fe13c9594e2093b7a30695f1014fa8", func := "zoetrope/zoetropelaw08.SysRaises", spec := "sysRaises", apart := false }
def SysRaisesSaid : Prop := sysRaisesRow.holds Try.pinned (OpenSpec.ofChange sysRaisesSpec)

/-- ITS FALSE NEIGHBOUR: 'it returns false'. Refute it at one input. -/
def sysRaisesWrong : ChangeSpec := { name := "sysRaises", fn := fun _ => fun
  | [d1, d2] => { results := [.lit (.bool false)], args := [d1, d2] }
  | _ => none }
def SysRaisesWrongFalsely : Prop := sysRaisesRow.holds Try.pinned (OpenSpec.ofChange sysRaisesWrong)

/-- 'zoetropelaw08.SysTicks': WHATEVER THE INPUT: true; the input reads as it did. -/
def sysTicksSpec : ChangeSpec := { name := "sysTicks", fn := fun _ => fun
  | [d1, d2] => { results := [.lit (.bool true)], args := [d1, d2] }
  | _ => none }
def sysTicksRow : OpenClaim := { program := "yticibpginpkbfaa", sum := "2fbf5d2e6d8b5e3a5d290b15b4a73107f7fe13c9594e2093b7a30695f1014fa8", func := "zoetrope/zoetropelaw08.SysTicks", spec := "sysTicks", apart := false }
def SysTicksSaid : Prop := sysTicksRow.holds Try.pinned (OpenSpec.ofChange sysTicksSpec)

/-- ITS FALSE NEIGHBOUR: 'it returns false'. Refute it at one input. -/
def sysTicksWrong : ChangeSpec := { name := "sysTicks", fn := fun _ => fun
  | [d1, d2] => { results := [.lit (.bool false)], args := [d1, d2] }
  | _ => none }
def SysTicksWrongFalsely : Prop := sysTicksRow.holds Try.pinned (OpenSpec.ofChange sysTicksWrong)

/-- 'zoetropelaw08.SysBack': WHATEVER THE INPUT: true; the input reads as it did. -/
def sysBackSpec : ChangeSpec := { name := "sysBack", fn := fun _ => fun
  | [d1, d2, d3] => { results := [.lit (.bool true)], args := [d1, d2, d3] }
  | _ => none }
def sysBackRow : OpenClaim := { program := "yticibpginpkbfaa", sum := "2fbf5d2e6d8b5e3a5d290b15b4a73107f7fe13c9594e2093b7a30695f1014fa8", func := "zoetrope/zoetropelaw08.SysBack", spec := "sysBack", apart := false }
def SysBackSaid : Prop := sysBackRow.holds Try.pinned (OpenSpec.ofChange sysBackSpec)

/-- ITS FALSE NEIGHBOUR: 'it returns false'. Refute it at one input. -/
def sysBackWrong : ChangeSpec := { name := "sysBack", fn := fun _ => fun
  | [d1, d2, d3] => { results := [.lit (.bool false)], args := [d1, d2, d3] }
  | _ => none }
def SysBackWrongFalsely : Prop := sysBackRow.holds Try.pinned (OpenSpec.ofChange sysBackWrong)

/-- 'zoetropelaw08.SysCounts': WHATEVER THE INPUT: true; the input reads as it did. -/
def sysCountsSpec : ChangeSpec := { name := "sysCounts", fn := fun _ => fun
  | [d1, d2, d3] => { results := [.lit (.bool true)], args := [d1, d2, d3] }
  | _ => none }
def sysCountsRow : OpenClaim := { program := "yticibpginpkbfaa", sum := "2fbf5d2e6d8b5e3a5d290b15b4a73107f7fe13c9594e2093b7a30695f1014fa8", func := "zoetrope/zoetropelaw08.SysCounts", spec := "sysCounts", apart := false }
def SysCountsSaid : Prop := sysCountsRow.holds Try.pinned (OpenSpec.ofChange sysCountsSpec)

/-- ITS FALSE NEIGHBOUR: 'it returns false'. Refute it at one input. -/
def sysCountsWrong : ChangeSpec := { name := "sysCounts", fn := fun _ => fun
  | [d1, d2, d3] => { results := [.lit (.bool false)], args := [d1, d2, d3] }
  | _ => none }
def SysCountsWrongFalsely : Prop := sysCountsRow.holds Try.pinned (OpenSpec.ofChange sysCountsWrong)

/-- 'zoetropelaw08.SysNested': WHATEVER THE INPUT: true; the input reads as it did. -/
def sysNestedSpec : ChangeSpec := { name := "sysNested", fn := fun _ => fun
  | [d1, d2] => { results := [.lit (.bool true)], args := [d1, d2] }
  | _ => none }
def sysNestedRow : OpenClaim := { program := "yticibpginpkbfaa", sum := "2fbf5d2e6d8b5e3a5d290b15b4a73107f7fe13c9594e2093b7a30695f1014fa8", func := "zoetrope/zoetropelaw08.SysNested", spec := "sysNested", apart := false }
def SysNestedSaid : Prop := sysNestedRow.holds Try.pinned (OpenSpec.ofChange sysNestedSpec)

/-- ITS FALSE NEIGHBOUR: 'it returns false'. Refute it at one input. -/
def sysNestedWrong : ChangeSpec := { name := "sysNested", fn := fun _ => fun
  | [d1, d2] => { results := [.lit (.bool false)], args := [d1, d2] }
  | _ => none }
def SysNestedWrongFalsely : Prop := sysNestedRow.holds Try.pinned (OpenSpec.ofChange sysNestedWrong)

/- THE SECOND FORM. 'bulk': how many values and letters a reading holds, each counted each time it is reached (what is shared counts as often as it is met; a slice's spare places count too). A statement '..UptoSaid' is the law's where the arguments, and the package variables that the reading takes, are together of bulk at most 1048576: NARROWER than '..Said'. Prove '..Said' where nothing that the law and all that it calls make is longer than what came in: it says more and counts as full. Else prove '..UptoSaid'. A law counts once. -/
mutual
def uptoBulk {H : Type} : DataW H → Nat
  | .lit (.string bytes) => bytes.length + 1
  | .lit _ => 1
  | .nil => 1
  | .ptr d => uptoBulk d + 1
  | .slice elems spare => uptoBulkAll elems + uptoBulkAll spare + 1
  | .agg parts => uptoBulkAll parts + 1
  | .iface _ d => uptoBulk d + 1
  | .map entries => uptoBulkEntries entries + 1
  | .held _ => 1
def uptoBulkAll {H : Type} : List (DataW H) → Nat
  | [] => 0
  | d :: r => uptoBulk d + uptoBulkAll r
def uptoBulkEntries {H : Type} : List (Lit × DataW H) → Nat
  | [] => 0
  | x :: r => uptoBulkEntry x + uptoBulkEntries r
def uptoBulkEntry {H : Type} : Lit × DataW H → Nat
  | (.string bytes, d) => bytes.length + uptoBulk d + 1
  | (_, d) => uptoBulk d + 1
 end
def uptoSmall : (H : Type) → List (DataW H) → Bool := fun _ ds => decide (uptoBulkAll ds ≤ 1048576)
def OpenSpec.upto (s : _root_.Go.ChangeSpec) : _root_.Go.OpenSpec := { _root_.Go.OpenSpec.ofChange s with cond := some uptoSmall }

/-- 'zoetropelaw08.SysRegs', WHERE WHAT IT READS IS OF BULK AT MOST 1048576: true; the input reads as it did. -/
def sysRegsUptoRow : OpenClaim := { program := "yticibpginpkbfaa", sum := "2fbf5d2e6d8b5e3a5d290b15b4a73107f7fe13c9594e2093b7a30695f1014fa8", func := "zoetrope/zoetropelaw08.SysRegs", spec := "sysRegs", apart := false, narrowed := true }
def SysRegsUptoSaid : Prop := sysRegsUptoRow.holds Try.pinned (OpenSpec.upto sysRegsSpec)

/-- 'zoetropelaw08.SysRaises', WHERE WHAT IT READS IS OF BULK AT MOST 1048576: true; the input reads as it did. -/
def sysRaisesUptoRow : OpenClaim := { program := "yticibpginpkbfaa", sum := "2fbf5d2e6d8b5e3a5d290b15b4a73107f7fe13c9594e2093b7a30695f1014fa8", func := "zoetrope/zoetropelaw08.SysRaises", spec := "sysRaises", apart := false, narrowed := true }
def SysRaisesUptoSaid : Prop := sysRaisesUptoRow.holds Try.pinned (OpenSpec.upto sysRaisesSpec)

/-- 'zoetropelaw08.SysTicks', WHERE WHAT IT READS IS OF BULK AT MOST 1048576: true; the input reads as it did. -/
def sysTicksUptoRow : OpenClaim := { program := "yticibpginpkbfaa", sum := "2fbf5d2e6d8b5e3a5d290b15b4a73107f7fe13c9594e2093b7a30695f1014fa8", func := "zoetrope/zoetropelaw08.SysTicks", spec := "sysTicks", apart := false, narrowed := true }
def SysTicksUptoSaid : Prop := sysTicksUptoRow.holds Try.pinned (OpenSpec.upto sysTicksSpec)

/-- 'zoetropelaw08.SysBack', WHERE WHAT IT READS IS OF BULK AT MOST 1048576: true; the input reads as it did. -/
def sysBackUptoRow : OpenClaim := { program := "yticibpginpkbfaa", sum := "2fbf5d2e6d8b5e3a5d290b15b4a73107f7fe13c9594e2093b7a30695f1014fa8", func := "zoetrope/zoetropelaw08.SysBack", spec := "sysBack", apart := false, narrowed := true }
def SysBackUptoSaid : Prop := sysBackUptoRow.holds Try.pinned (OpenSpec.upto sysBackSpec)

/-- 'zoetropelaw08.SysCounts', WHERE WHAT IT READS IS OF BULK AT MOST 1048576: true; the input reads as it did. -/
def sysCountsUptoRow : OpenClaim := { program := "yticibpginpkbfaa", sum := "2fbf5d2e6d8b5e3a5d290b15b4a73107f7fe13c9594e2093b7a30695f1014fa8", func := "zoetrope/zoetropelaw08.SysCounts", spec := "sysCounts", apart := false, narrowed := true }
def SysCountsUptoSaid : Prop := sysCountsUptoRow.holds Try.pinned (OpenSpec.upto sysCountsSpec)

/-- 'zoetropelaw08.SysNested', WHERE WHAT IT READS IS OF BULK AT MOST 1048576: true; the input reads as it did. -/
def sysNestedUptoRow : OpenClaim := { program := "yticibpginpkbfaa", sum := "2fbf5d2e6d8b5e3a5d290b15b4a73107f7fe13c9594e2093b7a30695f1014fa8", func := "zoetrope/zoetropelaw08.SysNested", spec := "sysNested", apart := false, narrowed := true }
def SysNestedUptoSaid : Prop := sysNestedUptoRow.holds Try.pinned (OpenSpec.upto sysNestedSpec)

end Rows
end Go.Proofs.Yticibpginpkbfaa
