/-
  No cell of these rows narrows 'for every input' (looked for: loops, veiled, ifaces, maps, wideKeys, modest, calm, conditions, laid).
  DERIVED. THE GIVEN ROWS OF THIS SEAT. 4 by the template 'for every input the law returns true; each argument reads behind the call as it read before'; 0 by the template 'total and deterministic' (their statements: YtngebimnahojlaaTotals.lean).
  GIVEN WITH THE SEED: the statements are not yours to turn. If you find one false, say at which input.
  Laid BY PROGRAM, IN A SANDBOX (cutbox-rows.mjs): the forced cells as the released guide's own fill.sh prints them over the translation 82780a18a8d0450a… (all of the seat's roots in one cut). By AI agents, Wed Nov 11 2026. No macro, syntax, notation, axiom, sorry.
-/
import Derived.Test.YtngebimnahojlaaChecked
import GoSem.Claim
import GoSem.ClaimJoined
import GoSem.ClaimMapViews
import Derived.JoinedTies
import Derived.KernelRfl
namespace Go.Proofs.Ytngebimnahojlaa
/- THE CELL 'sum', in the pinned program and in every row, IS THE sha256 OF THE DUMP (.gsa) THAT YtngebimnahojlaaProg.lean LOADS. Nothing in Lean hashes anything: it is a label: what it is worth is what the hold of that sum in a sandbox is worth. -/
noncomputable def Try.pinned : Pinned := { name := "ytngebimnahojlaa", sum := "82780a18a8d0450a129aed1b6936fc46c08243f8fccf8b3872557b1c5d84b04a", checked := Try.checked }
namespace Rows
def none {H : Type} : Left H := { results := [], args := [] }

/-- 'zoetropelaw07.TlbWrites': WHATEVER THE INPUT: true; the input reads as it did. -/
def tlbWritesSpec : ChangeSpec := { name := "tlbWrites", fn := fun _ => fun
  | [d1, d2, d3] => { results := [.lit (.bool true)], args := [d1, d2, d3] }
  | _ => none }
def tlbWritesRow : OpenClaim := { program := "ytngebimnahojlaa", sum := "82780a18a8d0450a129aed1b6936fc46c08243f8fccf8b3872557b1c5d84b04a", func := "zoetrope/zoetropelaw07.TlbWrites", spec := "tlbWrites", apart := false }
def TlbWritesSaid : Prop := tlbWritesRow.holds Try.pinned (OpenSpec.ofChange tlbWritesSpec)

/-- ITS FALSE NEIGHBOUR: 'it returns false'. Refute it at one input. -/
def tlbWritesWrong : ChangeSpec := { name := "tlbWrites", fn := fun _ => fun
  | [d1, d2, d3] => { results := [.lit (.bool false)], args := [d1, d2, d3] }
  | _ => none }
def TlbWritesWrongFalsely : Prop := tlbWritesRow.holds Try.pinned (OpenSpec.ofChange tlbWritesWrong)

/-- 'zoetropelaw07.TlbMaps': WHATEVER THE INPUT: true; the input reads as it did. -/
def tlbMapsSpec : ChangeSpec := { name := "tlbMaps", fn := fun _ => fun
  | [d1, d2, d3] => { results := [.lit (.bool true)], args := [d1, d2, d3] }
  | _ => none }
def tlbMapsRow : OpenClaim := { program := "ytngebimnahojlaa", sum := "82780a18a8d0450a129aed1b6936fc46c08243f8fccf8b3872557b1c5d84b04a", func := "zoetrope/zoetropelaw07.TlbMaps", spec := "tlbMaps", apart := false }
def TlbMapsSaid : Prop := tlbMapsRow.holds Try.pinned (OpenSpec.ofChange tlbMapsSpec)

/-- ITS FALSE NEIGHBOUR: 'it returns false'. Refute it at one input. -/
def tlbMapsWrong : ChangeSpec := { name := "tlbMaps", fn := fun _ => fun
  | [d1, d2, d3] => { results := [.lit (.bool false)], args := [d1, d2, d3] }
  | _ => none }
def TlbMapsWrongFalsely : Prop := tlbMapsRow.holds Try.pinned (OpenSpec.ofChange tlbMapsWrong)

/-- 'zoetropelaw07.TlbBack': WHATEVER THE INPUT: true; the input reads as it did. -/
def tlbBackSpec : ChangeSpec := { name := "tlbBack", fn := fun _ => fun
  | [d1, d2, d3] => { results := [.lit (.bool true)], args := [d1, d2, d3] }
  | _ => none }
def tlbBackRow : OpenClaim := { program := "ytngebimnahojlaa", sum := "82780a18a8d0450a129aed1b6936fc46c08243f8fccf8b3872557b1c5d84b04a", func := "zoetrope/zoetropelaw07.TlbBack", spec := "tlbBack", apart := false }
def TlbBackSaid : Prop := tlbBackRow.holds Try.pinned (OpenSpec.ofChange tlbBackSpec)

/-- ITS FALSE NEIGHBOUR: 'it returns false'. Refute it at one input. -/
def tlbBackWrong : ChangeSpec := { name := "tlbBack", fn := fun _ => fun
  | [d1, d2, d3] => { results := [.lit (.bool false)], args := [d1, d2, d3] }
  | _ => none }
def TlbBackWrongFalsely : Prop := tlbBackRow.holds Try.pinned (OpenSpec.ofChange tlbBackWrong)

/-- 'zoetropelaw07.TlbFirst': WHATEVER THE INPUT: true; the input reads as it did. -/
def tlbFirstSpec : ChangeSpec := { name := "tlbFirst", fn := fun _ => fun
  | [d] => { results := [.lit (.bool true)], args := [d] }
  | _ => none }
def tlbFirstRow : OpenClaim := { program := "ytngebimnahojlaa", sum := "82780a18a8d0450a129aed1b6936fc46c08243f8fccf8b3872557b1c5d84b04a", func := "zoetrope/zoetropelaw07.TlbFirst", spec := "tlbFirst", apart := false }
def TlbFirstSaid : Prop := tlbFirstRow.holds Try.pinned (OpenSpec.ofChange tlbFirstSpec)

/-- ITS FALSE NEIGHBOUR: 'it returns false'. Refute it at one input. -/
def tlbFirstWrong : ChangeSpec := { name := "tlbFirst", fn := fun _ => fun
  | [d] => { results := [.lit (.bool false)], args := [d] }
  | _ => none }
def TlbFirstWrongFalsely : Prop := tlbFirstRow.holds Try.pinned (OpenSpec.ofChange tlbFirstWrong)

/- THE SECOND FORM. 'bulk': how many values and letters a reading holds, each counted each time it is reached (what is shared counts as often as it is met; a slice's spare places count too). A statement '..UptoSaid' is the law's where the arguments, and the package variables that the reading takes, are together of bulk at most 1048576: NARROWER than '..Said'. Prove '..Said' where nothing that the law and all that it calls make is longer than what came in: it says more and counts as full. Else prove '..UptoSaid'. A law counts once. -/
mutual
def uptoBulk {H : Type} : DataW H → Nat
  | .lit (.string bytes) => bytes.length + 1
  | .lit _ => 1
  | .nil => 1
  | .ptr d => uptoBulk d + 1
  | .slice elems spare => uptoBulkAll elems + uptoBulkAll spare + 1
  | .agg parts => uptoBulkAll parts + 1
  | .iface _ d => uptoBulk d + 1
  | .map entries => uptoBulkEntries entries + 1
  | .held _ => 1
def uptoBulkAll {H : Type} : List (DataW H) → Nat
  | [] => 0
  | d :: r => uptoBulk d + uptoBulkAll r
def uptoBulkEntries {H : Type} : List (Lit × DataW H) → Nat
  | [] => 0
  | x :: r => uptoBulkEntry x + uptoBulkEntries r
def uptoBulkEntry {H : Type} : Lit × DataW H → Nat
  | (.string bytes, d) => bytes.length + uptoBulk d + 1
  | (_, d) => uptoBulk d + 1
 end
def uptoSmall : (H : Type) → List (DataW H) → Bool := fun _ ds => decide (uptoBulkAll ds ≤ 1048576)
def OpenSpec.upto (s : _root_.Go.ChangeSpec) : _root_.Go.OpenSpec := { _root_.Go.OpenSpec.ofChange s with cond := some uptoSmall }

/-- 'zoetropelaw07.TlbWrites', WHERE WHAT IT READS IS OF BULK AT MOST 1048576: true; the input reads as it did. -/
def tlbWritesUptoRow : OpenClaim := { program := "ytngebimnahojlaa", sum := "82780a18a8d0450a129aed1b6936fc46c08243f8fccf8b3872557b1c5d84b04a", func := "zoetrope/zoetropelaw07.TlbWrites", spec := "tlbWrites", apart := false, narrowed := true }
def TlbWritesUptoSaid : Prop := tlbWritesUptoRow.holds Try.pinned (OpenSpec.upto tlbWritesSpec)

/-- 'zoetropelaw07.TlbMaps', WHERE WHAT IT READS IS OF BULK AT MOST 1048576: true; the input reads as it did. -/
def tlbMapsUptoRow : OpenClaim := { program := "ytngebimnahojlaa", sum := "82780a18a8d0450a129aed1b6936fc46c08243f8fccf8b3872557b1c5d84b04a", func := "zoetrope/zoetropelaw07.TlbMaps", spec := "tlbMaps", apart := false, narrowed := true }
def TlbMapsUptoSaid : Prop := tlbMapsUptoRow.holds Try.pinned (OpenSpec.upto tlbMapsSpec)

/-- 'zoetropelaw07.TlbBack', WHERE WHAT IT READS IS OF BULK AT MOST 1048576: true; the input reads as it did. -/
def tlbBackUptoRow : OpenClaim := { program := "ytngebimnahojlaa", sum := "82780a18a8d0450a129aed1b6936fc46c08243f8fccf8b3872557b1c5d84b04a", func := "zoetrope/zoetropelaw07.TlbBack", spec := "tlbBack", apart := false, narrowed := true }
def TlbBackUptoSaid : Prop := tlbBackUptoRow.holds Try.pinned (OpenSpec.upto tlbBackSpec)

/-- 'zoetropelaw07.TlbFirst', WHERE WHAT IT READS IS OF BULK AT MOST 1048576: true; the input reads as it did. -/
def tlbFirstUptoRow : OpenClaim := { program := "ytngebimnahojlaa", sum := "82780a18a8d0450a129aed1b6936fc46c08243f8fccf8b3872557b1c5d84b04a", func := "zoetrope/zoetropelaw07.TlbFirst", spec := "tlbFirst", apart := false, narrowed := true }
def TlbFirstUptoSaid : Prop := tlbFirstUptoRow.holds Try.pinned (OpenSpec.upto tlbFirstSpec)

end Rows
end Go.Proofs.Ytngebimnahojlaa
