/-
  No cell of these rows narrows 'for every input' (looked for: loops, veiled, ifaces, maps, wideKeys, modest, calm, conditions, laid).
  DERIVED. THE GIVEN ROWS OF THIS SEAT. 9 by the template 'for every input the law returns true; each argument reads behind the call as it read before'; 0 by the template 'total and deterministic' (their statements: YtlmadoihfnhnbaaTotals.lean).
  GIVEN WITH THE SEED: the statements are not yours to turn. If you find one false, say at which input.
  Laid BY PROGRAM, IN A SANDBOX (cutbox-rows.mjs): the forced cells as the released guide's own fill.sh prints them over the translation 69bbf7b7b5e97819… (all of the seat's roots in one cut). By AI agents, Wed Nov 11 2026. No macro, syntax, notation, axiom, sorry.
-/
import Derived.Test.YtlmadoihfnhnbaaChecked
import GoSem.Claim
import GoSem.ClaimJoined
import GoSem.ClaimMapViews
import Derived.JoinedTies
import Derived.KernelRfl
namespace Go.Proofs.Ytlmadoihfnhnbaa
/- THE CELL 'sum', in the pinned program and in every row, IS THE sha256 OF THE DUMP (.gsa) THAT YtlmadoihfnhnbaaProg.lean LOADS. Nothing in Lean hashes anything: it is a label: what it is worth is what the hold of that sum in a sandbox is worth. -/
noncomputable def Try.pinned : Pinned := { name := "ytlmadoihfnhnbaa", sum := "69bbf7b7b5e97819879aa02a083464b2dd93782e3a6dde8c7046e865554e9338", checked := Try.checked }
namespace Rows
def none {H : Type} : Left H := { results := [], args := [] }

/-- 'zoetropelaw01.WordsTimes': WHATEVER THE INPUT: true; the input reads as it did. -/
def wordsTimesSpec : ChangeSpec := { name := "wordsTimes", fn := fun _ => fun
  | [d1, d2] => { results := [.lit (.bool true)], args := [d1, d2] }
  | _ => none }
def wordsTimesRow : OpenClaim := { program := "ytlmadoihfnhnbaa", sum := "69bbf7b7b5e97819879aa02a083464b2dd93782e3a6dde8c7046e865554e9338", func := "zoetrope/zoetropelaw01.WordsTimes", spec := "wordsTimes", apart := false }
def WordsTimesSaid : Prop := wordsTimesRow.holds Try.pinned (OpenSpec.ofChange wordsTimesSpec)

/-- ITS FALSE NEIGHBOUR: 'it returns false'. Refute it at one input. -/
def wordsTimesWrong : ChangeSpec := { name := "wordsTimes", fn := fun _ => fun
  | [d1, d2] => { results := [.lit (.bool false)], args := [d1, d2] }
  | _ => none }
def WordsTimesWrongFalsely : Prop := wordsTimesRow.holds Try.pinned (OpenSpec.ofChange wordsTimesWrong)

/-- 'zoetropelaw01.WordsDivs': WHATEVER THE INPUT: true; the input reads as it did. -/
def wordsDivsSpec : ChangeSpec := { name := "wordsDivs", fn := fun _ => fun
  | [d1, d2] => { results := [.lit (.bool true)], args := [d1, d2] }
  | _ => none }
def wordsDivsRow : OpenClaim := { program := "ytlmadoihfnhnbaa", sum := "69bbf7b7b5e97819879aa02a083464b2dd93782e3a6dde8c7046e865554e9338", func := "zoetrope/zoetropelaw01.WordsDivs", spec := "wordsDivs", apart := false }
def WordsDivsSaid : Prop := wordsDivsRow.holds Try.pinned (OpenSpec.ofChange wordsDivsSpec)

/-- ITS FALSE NEIGHBOUR: 'it returns false'. Refute it at one input. -/
def wordsDivsWrong : ChangeSpec := { name := "wordsDivs", fn := fun _ => fun
  | [d1, d2] => { results := [.lit (.bool false)], args := [d1, d2] }
  | _ => none }
def WordsDivsWrongFalsely : Prop := wordsDivsRow.holds Try.pinned (OpenSpec.ofChange wordsDivsWrong)

/-- 'zoetropelaw01.WordsExts': WHATEVER THE INPUT: true; the input reads as it did. -/
def wordsExtsSpec : ChangeSpec := { name := "wordsExts", fn := fun _ => fun
  | [d1, d2] => { results := [.lit (.bool true)], args := [d1, d2] }
  | _ => none }
def wordsExtsRow : OpenClaim := { program := "ytlmadoihfnhnbaa", sum := "69bbf7b7b5e97819879aa02a083464b2dd93782e3a6dde8c7046e865554e9338", func := "zoetrope/zoetropelaw01.WordsExts", spec := "wordsExts", apart := false }
def WordsExtsSaid : Prop := wordsExtsRow.holds Try.pinned (OpenSpec.ofChange wordsExtsSpec)

/-- ITS FALSE NEIGHBOUR: 'it returns false'. Refute it at one input. -/
def wordsExtsWrong : ChangeSpec := { name := "wordsExts", fn := fun _ => fun
  | [d1, d2] => { results := [.lit (.bool false)], args := [d1, d2] }
  | _ => none }
def WordsExtsWrongFalsely : Prop := wordsExtsRow.holds Try.pinned (OpenSpec.ofChange wordsExtsWrong)

/-- 'zoetropelaw01.WordsAdds': WHATEVER THE INPUT: true; the input reads as it did. -/
def wordsAddsSpec : ChangeSpec := { name := "wordsAdds", fn := fun _ => fun
  | [d1, d2] => { results := [.lit (.bool true)], args := [d1, d2] }
  | _ => none }
def wordsAddsRow : OpenClaim := { program := "ytlmadoihfnhnbaa", sum := "69bbf7b7b5e97819879aa02a083464b2dd93782e3a6dde8c7046e865554e9338", func := "zoetrope/zoetropelaw01.WordsAdds", spec := "wordsAdds", apart := false }
def WordsAddsSaid : Prop := wordsAddsRow.holds Try.pinned (OpenSpec.ofChange wordsAddsSpec)

/-- ITS FALSE NEIGHBOUR: 'it returns false'. Refute it at one input. -/
def wordsAddsWrong : ChangeSpec := { name := "wordsAdds", fn := fun _ => fun
  | [d1, d2] => { results := [.lit (.bool false)], args := [d1, d2] }
  | _ => none }
def WordsAddsWrongFalsely : Prop := wordsAddsRow.holds Try.pinned (OpenSpec.ofChange wordsAddsWrong)

/-- 'zoetropelaw01.WordsSigns': WHATEVER THE INPUT: true; the input reads as it did. -/
def wordsSignsSpec : ChangeSpec := { name := "wordsSigns", fn := fun _ => fun
  | [d1, d2, d3] => { results := [.lit (.bool true)], args := [d1, d2, d3] }
  | _ => none }
def wordsSignsRow : OpenClaim := { program := "ytlmadoihfnhnbaa", sum := "69bbf7b7b5e97819879aa02a083464b2dd93782e3a6dde8c7046e865554e9338", func := "zoetrope/zoetropelaw01.WordsSigns", spec := "wordsSigns", apart := false }
def WordsSignsSaid : Prop := wordsSignsRow.holds Try.pinned (OpenSpec.ofChange wordsSignsSpec)

/-- ITS FALSE NEIGHBOUR: 'it returns false'. Refute it at one input. -/
def wordsSignsWrong : ChangeSpec := { name := "wordsSigns", fn := fun _ => fun
  | [d1, d2, d3] => { results := [.lit (.bool false)], args := [d1, d2, d3] }
  | _ => none }
def WordsSignsWrongFalsely : Prop := wordsSignsRow.holds Try.pinned (OpenSpec.ofChange wordsSignsWrong)

/-- 'zoetropelaw01.WordsShifts': WHATEVER THE INPUT: true; the input reads as it did. -/
def wordsShiftsSpec : ChangeSpec := { name := "wordsShifts", fn := fun _ => fun
  | [d1, d2, d3] => { results := [.lit (.bool true)], args := [d1, d2, d3] }
  | _ => none }
def wordsShiftsRow : OpenClaim := { program := "ytlmadoihfnhnbaa", sum := "69bbf7b7b5e97819879aa02a083464b2dd93782e3a6dde8c7046e865554e9338", func := "zoetrope/zoetropelaw01.WordsShifts", spec := "wordsShifts", apart := false }
def WordsShiftsSaid : Prop := wordsShiftsRow.holds Try.pinned (OpenSpec.ofChange wordsShiftsSpec)

/-- ITS FALSE NEIGHBOUR: 'it returns false'. Refute it at one input. -/
def wordsShiftsWrong : ChangeSpec := { name := "wordsShifts", fn := fun _ => fun
  | [d1, d2, d3] => { results := [.lit (.bool false)], args := [d1, d2, d3] }
  | _ => none }
def WordsShiftsWrongFalsely : Prop := wordsShiftsRow.holds Try.pinned (OpenSpec.ofChange wordsShiftsWrong)

/-- 'zoetropelaw01.WordsShiftOn': WHATEVER THE INPUT: true; the input reads as it did. -/
def wordsShiftOnSpec : ChangeSpec := { name := "wordsShiftOn", fn := fun _ => fun
  | [d1, d2, d3] => { results := [.lit (.bool true)], args := [d1, d2, d3] }
  | _ => none }
def wordsShiftOnRow : OpenClaim := { program := "ytlmadoihfnhnbaa", sum := "69bbf7b7b5e97819879aa02a083464b2dd93782e3a6dde8c7046e865554e9338", func := "zoetrope/zoetropelaw01.WordsShiftOn", spec := "wordsShiftOn", apart := false }
def WordsShiftOnSaid : Prop := wordsShiftOnRow.holds Try.pinned (OpenSpec.ofChange wordsShiftOnSpec)

/-- ITS FALSE NEIGHBOUR: 'it returns false'. Refute it at one input. -/
def wordsShiftOnWrong : ChangeSpec := { name := "wordsShiftOn", fn := fun _ => fun
  | [d1, d2, d3] => { results := [.lit (.bool false)], args := [d1, d2, d3] }
  | _ => none }
def WordsShiftOnWrongFalsely : Prop := wordsShiftOnRow.holds Try.pinned (OpenSpec.ofChange wordsShiftOnWrong)

/-- 'zoetropelaw01.WordsLead': WHATEVER THE INPUT: true; the input reads as it did. -/
def wordsLeadSpec : ChangeSpec := { name := "wordsLead", fn := fun _ => fun
  | [d] => { results := [.lit (.bool true)], args := [d] }
  | _ => none }
def wordsLeadRow : OpenClaim := { program := "ytlmadoihfnhnbaa", sum := "69bbf7b7b5e97819879aa02a083464b2dd93782e3a6dde8c7046e865554e9338", func := "zoetrope/zoetropelaw01.WordsLead", spec := "wordsLead", apart := false }
def WordsLeadSaid : Prop := wordsLeadRow.holds Try.pinned (OpenSpec.ofChange wordsLeadSpec)

/-- ITS FALSE NEIGHBOUR: 'it returns false'. Refute it at one input. -/
def wordsLeadWrong : ChangeSpec := { name := "wordsLead", fn := fun _ => fun
  | [d] => { results := [.lit (.bool false)], args := [d] }
  | _ => none }
def WordsLeadWrongFalsely : Prop := wordsLeadRow.holds Try.pinned (OpenSpec.ofChange wordsLeadWrong)

/-- 'zoetropelaw01.WordsRules': WHATEVER THE INPUT: true; the input reads as it did. -/
def wordsRulesSpec : ChangeSpec := { name := "wordsRules", fn := fun _ => fun
  | [d1, d2, d3] => { results := [.lit (.bool true)], args := [d1, d2, d3] }
  | _ => none }
def wordsRulesRow : OpenClaim := { program := "ytlmadoihfnhnbaa", sum := "69bbf7b7b5e97819879aa02a083464b2dd93782e3a6dde8c7046e865554e9338", func := "zoetrope/zoetropelaw01.WordsRules", spec := "wordsRules", apart := false }
def WordsRulesSaid : Prop := wordsRulesRow.holds Try.pinned (OpenSpec.ofChange wordsRulesSpec)

/-- ITS FALSE NEIGHBOUR: 'it returns false'. Refute it at one input. -/
def wordsRulesWrong : ChangeSpec := { name := "wordsRules", fn := fun _ => fun
  | [d1, d2, d3] => { results := [.lit (.bool false)], args := [d1, d2, d3] }
  | _ => none }
def WordsRulesWrongFalsely : Prop := wordsRulesRow.holds Try.pinned (OpenSpec.ofChange wordsRulesWrong)

/- THE SECOND FORM. 'bulk': how many values and letters a reading holds, each counted each time it is reached (what is shared counts as often as it is met; a slice's spare places count too). A statement '..UptoSaid' is the law's where the arguments, and the package variables that the reading takes, are together of bulk at most 1048576: NARROWER than '..Said'. Prove '..Said' where nothing that the law and all that it calls make is longer than what came in: it says more and counts as full. Else prove '..UptoSaid'. A law counts once. -/
mutual
def uptoBulk {H : Type} : DataW H → Nat
  | .lit (.string bytes) => bytes.length + 1
  | .lit _ => 1
  | .nil => 1
  | .ptr d => uptoBulk d + 1
  | .slice elems spare => uptoBulkAll elems + uptoBulkAll spare + 1
  | .agg parts => uptoBulkAll parts + 1
  | .iface _ d => uptoBulk d + 1
  | .map entries => uptoBulkEntries entries + 1
  | .held _ => 1
def uptoBulkAll {H : Type} : List (DataW H) → Nat
  | [] => 0
  | d :: r => uptoBulk d + uptoBulkAll r
def uptoBulkEntries {H : Type} : List (Lit × DataW H) → Nat
  | [] => 0
  | x :: r => uptoBulkEntry x + uptoBulkEntries r
def uptoBulkEntry {H : Type} : Lit × DataW H → Nat
  | (.string bytes, d) => bytes.length + uptoBulk d + 1
  | (_, d) => uptoBulk d + 1
 end
def uptoSmall : (H : Type) → List (DataW H) → Bool := fun _ ds => decide (uptoBulkAll ds ≤ 1048576)
def OpenSpec.upto (s : _root_.Go.ChangeSpec) : _root_.Go.OpenSpec := { _root_.Go.OpenSpec.ofChange s with cond := some uptoSmall }

/-- 'zoetropelaw01.WordsTimes', WHERE WHAT IT READS IS OF BULK AT MOST 1048576: true; the input reads as it did. -/
def wordsTimesUptoRow : OpenClaim := { program := "ytlmadoihfnhnbaa", sum := "69bbf7b7b5e97819879aa02a083464b2dd93782e3a6dde8c7046e865554e9338", func := "zoetrope/zoetropelaw01.WordsTimes", spec := "wordsTimes", apart := false, narrowed := true }
def WordsTimesUptoSaid : Prop := wordsTimesUptoRow.holds Try.pinned (OpenSpec.upto wordsTimesSpec)

/-- 'zoetropelaw01.WordsDivs', WHERE WHAT IT READS IS OF BULK AT MOST 1048576: true; the input reads as it did. -/
def wordsDivsUptoRow : OpenClaim := { program := "ytlmadoihfnhnbaa", sum := "69bbf7b7b5e97819879aa02a083464b2dd93782e3a6dde8c7046e865554e9338", func := "zoetrope/zoetropelaw01.WordsDivs", spec := "wordsDivs", apart := false, narrowed := true }
def WordsDivsUptoSaid : Prop := wordsDivsUptoRow.holds Try.pinned (OpenSpec.upto wordsDivsSpec)

/-- 'zoetropelaw01.WordsExts', WHERE WHAT IT READS IS OF BULK AT MOST 1048576: true; the input reads as it did. -/
def wordsExtsUptoRow : OpenClaim := { program := "ytlmadoihfnhnbaa", sum := "69bbf7b7b5e97819879aa02a083464b2dd93782e3a6dde8c7046e865554e9338", func := "zoetrope/zoetropelaw01.WordsExts", spec := "wordsExts", apart := false, narrowed := true }
def WordsExtsUptoSaid : Prop := wordsExtsUptoRow.holds Try.pinned (OpenSpec.upto wordsExtsSpec)

/-- 'zoetropelaw01.WordsAdds', WHERE WHAT IT READS IS OF BULK AT MOST 1048576: true; the input reads as it did. -/
def wordsAddsUptoRow : OpenClaim := { program := "ytlmadoihfnhnbaa", sum := "69bbf7b7b5e97819879aa02a083464b2dd93782e3a6dde8c7046e865554e9338", func := "zoetrope/zoetropelaw01.WordsAdds", spec := "wordsAdds", apart := false, narrowed := true }
def WordsAddsUptoSaid : Prop := wordsAddsUptoRow.holds Try.pinned (OpenSpec.upto wordsAddsSpec)

/-- 'zoetropelaw01.WordsSigns', WHERE WHAT IT READS IS OF BULK AT MOST 1048576: true; the input reads as it did. -/
def wordsSignsUptoRow : OpenClaim := { program := "ytlmadoihfnhnbaa", sum := "69bbf7b7b5e97819879aa02a083464b2dd93782e3a6dde8c7046e865554e9338", func := "zoetrope/zoetropelaw01.WordsSigns", spec := "wordsSigns", apart := false, narrowed := true }
def WordsSignsUptoSaid : Prop := wordsSignsUptoRow.holds Try.pinned (OpenSpec.upto wordsSignsSpec)

/-- 'zoetropelaw01.WordsShifts', WHERE WHAT IT READS IS OF BULK AT MOST 1048576: true; the input reads as it did. -/
def wordsShiftsUptoRow : OpenClaim := { program := "ytlmadoihfnhnbaa", sum := "69bbf7b7b5e97819879aa02a083464b2dd93782e3a6dde8c7046e865554e9338", func := "zoetrope/zoetropelaw01.WordsShifts", spec := "wordsShifts", apart := false, narrowed := true }
def WordsShiftsUptoSaid : Prop := wordsShiftsUptoRow.holds Try.pinned (OpenSpec.upto wordsShiftsSpec)

/-- 'zoetropelaw01.WordsShiftOn', WHERE WHAT IT READS IS OF BULK AT MOST 1048576: true; the input reads as it did. -/
def wordsShiftOnUptoRow : OpenClaim := { program := "ytlmadoihfnhnbaa", sum := "69bbf7b7b5e97819879aa02a083464b2dd93782e3a6dde8c7046e865554e9338", func := "zoetrope/zoetropelaw01.WordsShiftOn", spec := "wordsShiftOn", apart := false, narrowed := true }
def WordsShiftOnUptoSaid : Prop := wordsShiftOnUptoRow.holds Try.pinned (OpenSpec.upto wordsShiftOnSpec)

/-- 'zoetropelaw01.WordsLead', WHERE WHAT IT READS IS OF BULK AT MOST 1048576: true; the input reads as it did. -/
def wordsLeadUptoRow : OpenClaim := { program := "ytlmadoihfnhnbaa", sum := "69bbf7b7b5e97819879aa02a083464b2dd93782e3a6dde8c7046e865554e9338", func := "zoetrope/zoetropelaw01.WordsLead", spec := "wordsLead", apart := false, narrowed := true }
def WordsLeadUptoSaid : Prop := wordsLeadUptoRow.holds Try.pinned (OpenSpec.upto wordsLeadSpec)

/-- 'zoetropelaw01.WordsRules', WHERE WHAT IT READS IS OF BULK AT MOST 1048576: true; the input reads as it did. -/
def wordsRulesUptoRow : OpenClaim := { program := "ytlmadoihfnhnbaa", sum := "69bbf7b7b5e97819879aa02a083464b2dd93782e3a6dde8c7046e865554e9338", func := "zoetrope/zoetropelaw01.WordsRules", spec := "wordsRules", apart := false, narrowed := true }
def WordsRulesUptoSaid : Prop := wordsRulesUptoRow.holds Try.pinned (OpenSpec.upto wordsRulesSpec)

end Rows
end Go.Proofs.Ytlmadoihfnhnbaa
