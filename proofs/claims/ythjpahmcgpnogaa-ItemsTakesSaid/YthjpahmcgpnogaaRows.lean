/-
  No cell of these rows narrows 'for every input' (looked for: loops, veiled, ifaces, maps, wideKeys, modest, calm, conditions, laid).
  DERIVED. THE GIVEN ROWS OF THIS SEAT. 11 by the template 'for every input the law returns true; each argument reads behind the call as it read before'; 0 by the template 'total and deterministic' (their statements: YthjpahmcgpnogaaTotals.lean).
  GIVEN WITH THE SEED: the statements are not yours to turn. If you find one false, say at which input.
  Laid BY PROGRAM, IN A SANDBOX (cutbox-rows.mjs): the forced cells as the released guide's own fill.sh prints them over the translation fc3770824d85124f… (all of the seat's roots in one cut). By AI agents, Wed Nov 11 2026. No macro, syntax, notation, axiom, sorry.
-/
import Derived.Test.YthjpahmcgpnogaaChecked
import GoSem.Claim
import GoSem.ClaimJoined
import GoSem.ClaimMapViews
import Derived.JoinedTies
import Derived.KernelRfl
namespace Go.Proofs.Ythjpahmcgpnogaa
/- THE CELL 'sum', in the pinned program and in every row, IS THE sha256 OF THE DUMP (.gsa) THAT YthjpahmcgpnogaaProg.lean LOADS. Nothing in Lean hashes anything: it is a label: what it is worth is what the hold of that sum in a sandbox is worth. -/
noncomputable def Try.pinned : Pinned := { name := "ythjpahmcgpnogaa", sum := "fc3770824d85124f1224198e34768fa9f4d67ab895ebf7cd292c51cab16a9894", checked := Try.checked }
namespace Rows
def none {H : Type} : Left H := { results := [], args := [] }

/-- 'coppicerlaw.GrammarChecks': WHATEVER THE INPUT: true; the input reads as it did. -/
def grammarChecksSpec : ChangeSpec := { name := "grammarChecks", fn := fun _ => fun
  | [d] => { results := [.lit (.bool true)], args := [d] }
  | _ => none }
def grammarChecksRow : OpenClaim := { program := "ythjpahmcgpnogaa", sum := "fc3770824d85124f1224198e34768fa9f4d67ab895ebf7cd292c51cab16a9894", func := "coppicer/coppicerlaw.GrammarChecks", spec := "grammarChecks", unfollowed := true, recurses := true, plainKeys := false, apart := false }
def GrammarChecksSaid : Prop := grammarChecksRow.holds Try.pinned (OpenSpec.ofChange grammarChecksSpec)

/-- ITS FALSE NEIGHBOUR: 'it returns false'. Refute it at one input. -/
def grammarChecksWrong : ChangeSpec := { name := "grammarChecks", fn := fun _ => fun
  | [d] => { results := [.lit (.bool false)], args := [d] }
  | _ => none }
def GrammarChecksWrongFalsely : Prop := grammarChecksRow.holds Try.pinned (OpenSpec.ofChange grammarChecksWrong)

/-- 'coppicerlaw.PlainIs': WHATEVER THE INPUT: true; the input reads as it did. -/
def plainIsSpec : ChangeSpec := { name := "plainIs", fn := fun _ => fun
  | [d] => { results := [.lit (.bool true)], args := [d] }
  | _ => none }
def plainIsRow : OpenClaim := { program := "ythjpahmcgpnogaa", sum := "fc3770824d85124f1224198e34768fa9f4d67ab895ebf7cd292c51cab16a9894", func := "coppicer/coppicerlaw.PlainIs", spec := "plainIs", unfollowed := true, recurses := true, plainKeys := false, apart := false }
def PlainIsSaid : Prop := plainIsRow.holds Try.pinned (OpenSpec.ofChange plainIsSpec)

/-- ITS FALSE NEIGHBOUR: 'it returns false'. Refute it at one input. -/
def plainIsWrong : ChangeSpec := { name := "plainIs", fn := fun _ => fun
  | [d] => { results := [.lit (.bool false)], args := [d] }
  | _ => none }
def PlainIsWrongFalsely : Prop := plainIsRow.holds Try.pinned (OpenSpec.ofChange plainIsWrong)

/-- 'coppicerlaw.GrammarComes': WHATEVER THE INPUT: true; the input reads as it did. -/
def grammarComesSpec : ChangeSpec := { name := "grammarComes", fn := fun _ => fun
  | [d] => { results := [.lit (.bool true)], args := [d] }
  | _ => none }
def grammarComesRow : OpenClaim := { program := "ythjpahmcgpnogaa", sum := "fc3770824d85124f1224198e34768fa9f4d67ab895ebf7cd292c51cab16a9894", func := "coppicer/coppicerlaw.GrammarComes", spec := "grammarComes", unfollowed := true, recurses := true, plainKeys := false, apart := false }
def GrammarComesSaid : Prop := grammarComesRow.holds Try.pinned (OpenSpec.ofChange grammarComesSpec)

/-- ITS FALSE NEIGHBOUR: 'it returns false'. Refute it at one input. -/
def grammarComesWrong : ChangeSpec := { name := "grammarComes", fn := fun _ => fun
  | [d] => { results := [.lit (.bool false)], args := [d] }
  | _ => none }
def GrammarComesWrongFalsely : Prop := grammarComesRow.holds Try.pinned (OpenSpec.ofChange grammarComesWrong)

/-- 'coppicerlaw.GrammarMakes': WHATEVER THE INPUT: true; the input reads as it did. -/
def grammarMakesSpec : ChangeSpec := { name := "grammarMakes", fn := fun _ => fun
  | [d] => { results := [.lit (.bool true)], args := [d] }
  | _ => none }
def grammarMakesRow : OpenClaim := { program := "ythjpahmcgpnogaa", sum := "fc3770824d85124f1224198e34768fa9f4d67ab895ebf7cd292c51cab16a9894", func := "coppicer/coppicerlaw.GrammarMakes", spec := "grammarMakes", unfollowed := true, recurses := true, plainKeys := false, apart := false }
def GrammarMakesSaid : Prop := grammarMakesRow.holds Try.pinned (OpenSpec.ofChange grammarMakesSpec)

/-- ITS FALSE NEIGHBOUR: 'it returns false'. Refute it at one input. -/
def grammarMakesWrong : ChangeSpec := { name := "grammarMakes", fn := fun _ => fun
  | [d] => { results := [.lit (.bool false)], args := [d] }
  | _ => none }
def GrammarMakesWrongFalsely : Prop := grammarMakesRow.holds Try.pinned (OpenSpec.ofChange grammarMakesWrong)

/-- 'coppicerlaw.GrammarVoids': WHATEVER THE INPUT: true; the input reads as it did. -/
def grammarVoidsSpec : ChangeSpec := { name := "grammarVoids", fn := fun _ => fun
  | [d] => { results := [.lit (.bool true)], args := [d] }
  | _ => none }
def grammarVoidsRow : OpenClaim := { program := "ythjpahmcgpnogaa", sum := "fc3770824d85124f1224198e34768fa9f4d67ab895ebf7cd292c51cab16a9894", func := "coppicer/coppicerlaw.GrammarVoids", spec := "grammarVoids", unfollowed := true, recurses := true, plainKeys := false, apart := false }
def GrammarVoidsSaid : Prop := grammarVoidsRow.holds Try.pinned (OpenSpec.ofChange grammarVoidsSpec)

/-- ITS FALSE NEIGHBOUR: 'it returns false'. Refute it at one input. -/
def grammarVoidsWrong : ChangeSpec := { name := "grammarVoids", fn := fun _ => fun
  | [d] => { results := [.lit (.bool false)], args := [d] }
  | _ => none }
def GrammarVoidsWrongFalsely : Prop := grammarVoidsRow.holds Try.pinned (OpenSpec.ofChange grammarVoidsWrong)

/-- 'coppicerlaw.GrammarSteps': WHATEVER THE INPUT: true; the input reads as it did. -/
def grammarStepsSpec : ChangeSpec := { name := "grammarSteps", fn := fun _ => fun
  | [d1, d2, d3, d4] => { results := [.lit (.bool true)], args := [d1, d2, d3, d4] }
  | _ => none }
def grammarStepsRow : OpenClaim := { program := "ythjpahmcgpnogaa", sum := "fc3770824d85124f1224198e34768fa9f4d67ab895ebf7cd292c51cab16a9894", func := "coppicer/coppicerlaw.GrammarSteps", spec := "grammarSteps", unfollowed := true, recurses := true, plainKeys := false, apart := false }
def GrammarStepsSaid : Prop := grammarStepsRow.holds Try.pinned (OpenSpec.ofChange grammarStepsSpec)

/-- ITS FALSE NEIGHBOUR: 'it returns false'. Refute it at one input. -/
def grammarStepsWrong : ChangeSpec := { name := "grammarSteps", fn := fun _ => fun
  | [d1, d2, d3, d4] => { results := [.lit (.bool false)], args := [d1, d2, d3, d4] }
  | _ => none }
def GrammarStepsWrongFalsely : Prop := grammarStepsRow.holds Try.pinned (OpenSpec.ofChange grammarStepsWrong)

/-- 'coppicerlaw.PickWords': WHATEVER THE INPUT: true; the input reads as it did. -/
def pickWordsSpec : ChangeSpec := { name := "pickWords", fn := fun _ => fun
  | [d1, d2] => { results := [.lit (.bool true)], args := [d1, d2] }
  | _ => none }
def pickWordsRow : OpenClaim := { program := "ythjpahmcgpnogaa", sum := "fc3770824d85124f1224198e34768fa9f4d67ab895ebf7cd292c51cab16a9894", func := "coppicer/coppicerlaw.PickWords", spec := "pickWords", unfollowed := true, recurses := true, plainKeys := false, apart := false }
def PickWordsSaid : Prop := pickWordsRow.holds Try.pinned (OpenSpec.ofChange pickWordsSpec)

/-- ITS FALSE NEIGHBOUR: 'it returns false'. Refute it at one input. -/
def pickWordsWrong : ChangeSpec := { name := "pickWords", fn := fun _ => fun
  | [d1, d2] => { results := [.lit (.bool false)], args := [d1, d2] }
  | _ => none }
def PickWordsWrongFalsely : Prop := pickWordsRow.holds Try.pinned (OpenSpec.ofChange pickWordsWrong)

/-- 'coppicerlaw.TableNames': WHATEVER THE INPUT: true; the input reads as it did. -/
def tableNamesSpec : ChangeSpec := { name := "tableNames", fn := fun _ => fun
  | [d1, d2] => { results := [.lit (.bool true)], args := [d1, d2] }
  | _ => none }
def tableNamesRow : OpenClaim := { program := "ythjpahmcgpnogaa", sum := "fc3770824d85124f1224198e34768fa9f4d67ab895ebf7cd292c51cab16a9894", func := "coppicer/coppicerlaw.TableNames", spec := "tableNames", unfollowed := true, recurses := true, plainKeys := false, apart := false }
def TableNamesSaid : Prop := tableNamesRow.holds Try.pinned (OpenSpec.ofChange tableNamesSpec)

/-- ITS FALSE NEIGHBOUR: 'it returns false'. Refute it at one input. -/
def tableNamesWrong : ChangeSpec := { name := "tableNames", fn := fun _ => fun
  | [d1, d2] => { results := [.lit (.bool false)], args := [d1, d2] }
  | _ => none }
def TableNamesWrongFalsely : Prop := tableNamesRow.holds Try.pinned (OpenSpec.ofChange tableNamesWrong)

/-- 'coppicerlaw.TableTrees': WHATEVER THE INPUT: true; the input reads as it did. -/
def tableTreesSpec : ChangeSpec := { name := "tableTrees", fn := fun _ => fun
  | [d1, d2] => { results := [.lit (.bool true)], args := [d1, d2] }
  | _ => none }
def tableTreesRow : OpenClaim := { program := "ythjpahmcgpnogaa", sum := "fc3770824d85124f1224198e34768fa9f4d67ab895ebf7cd292c51cab16a9894", func := "coppicer/coppicerlaw.TableTrees", spec := "tableTrees", unfollowed := true, recurses := true, plainKeys := false, apart := false }
def TableTreesSaid : Prop := tableTreesRow.holds Try.pinned (OpenSpec.ofChange tableTreesSpec)

/-- ITS FALSE NEIGHBOUR: 'it returns false'. Refute it at one input. -/
def tableTreesWrong : ChangeSpec := { name := "tableTrees", fn := fun _ => fun
  | [d1, d2] => { results := [.lit (.bool false)], args := [d1, d2] }
  | _ => none }
def TableTreesWrongFalsely : Prop := tableTreesRow.holds Try.pinned (OpenSpec.ofChange tableTreesWrong)

/-- 'coppicerlaw.ItemsTakes': WHATEVER THE INPUT: true; the input reads as it did. -/
def itemsTakesSpec : ChangeSpec := { name := "itemsTakes", fn := fun _ => fun
  | [d1, d2] => { results := [.lit (.bool true)], args := [d1, d2] }
  | _ => none }
def itemsTakesRow : OpenClaim := { program := "ythjpahmcgpnogaa", sum := "fc3770824d85124f1224198e34768fa9f4d67ab895ebf7cd292c51cab16a9894", func := "coppicer/coppicerlaw.ItemsTakes", spec := "itemsTakes", unfollowed := true, recurses := true, plainKeys := false, apart := false }
def ItemsTakesSaid : Prop := itemsTakesRow.holds Try.pinned (OpenSpec.ofChange itemsTakesSpec)

/-- ITS FALSE NEIGHBOUR: 'it returns false'. Refute it at one input. -/
def itemsTakesWrong : ChangeSpec := { name := "itemsTakes", fn := fun _ => fun
  | [d1, d2] => { results := [.lit (.bool false)], args := [d1, d2] }
  | _ => none }
def ItemsTakesWrongFalsely : Prop := itemsTakesRow.holds Try.pinned (OpenSpec.ofChange itemsTakesWrong)

/-- 'coppicerlaw.PlainSteps': WHATEVER THE INPUT: true; the input reads as it did. -/
def plainStepsSpec : ChangeSpec := { name := "plainSteps", fn := fun _ => fun
  | [d1, d2] => { results := [.lit (.bool true)], args := [d1, d2] }
  | _ => none }
def plainStepsRow : OpenClaim := { program := "ythjpahmcgpnogaa", sum := "fc3770824d85124f1224198e34768fa9f4d67ab895ebf7cd292c51cab16a9894", func := "coppicer/coppicerlaw.PlainSteps", spec := "plainSteps", unfollowed := true, recurses := true, plainKeys := false, apart := false }
def PlainStepsSaid : Prop := plainStepsRow.holds Try.pinned (OpenSpec.ofChange plainStepsSpec)

/-- ITS FALSE NEIGHBOUR: 'it returns false'. Refute it at one input. -/
def plainStepsWrong : ChangeSpec := { name := "plainSteps", fn := fun _ => fun
  | [d1, d2] => { results := [.lit (.bool false)], args := [d1, d2] }
  | _ => none }
def PlainStepsWrongFalsely : Prop := plainStepsRow.holds Try.pinned (OpenSpec.ofChange plainStepsWrong)

/- THE SECOND FORM. 'bulk': how many values and letters a reading holds, each counted each time it is reached (what is shared counts as often as it is met; a slice's spare places count too). A statement '..UptoSaid' is the law's where the arguments, and the package variables that the reading takes, are together of bulk at most 1048576: NARROWER than '..Said'. Prove '..Said' where nothing that the law and all that it calls make is longer than what came in: it says more and counts as full. Else prove '..UptoSaid'. A law counts once. -/
mutual
def uptoBulk {H : Type} : DataW H → Nat
  | .lit (.string bytes) => bytes.length + 1
  | .lit _ => 1
  | .nil => 1
  | .ptr d => uptoBulk d + 1
  | .slice elems spare => uptoBulkAll elems + uptoBulkAll spare + 1
  | .agg parts => uptoBulkAll parts + 1
  | .iface _ d => uptoBulk d + 1
  | .map entries => uptoBulkEntries entries + 1
  | .held _ => 1
def uptoBulkAll {H : Type} : List (DataW H) → Nat
  | [] => 0
  | d :: r => uptoBulk d + uptoBulkAll r
def uptoBulkEntries {H : Type} : List (Lit × DataW H) → Nat
  | [] => 0
  | x :: r => uptoBulkEntry x + uptoBulkEntries r
def uptoBulkEntry {H : Type} : Lit × DataW H → Nat
  | (.string bytes, d) => bytes.length + uptoBulk d + 1
  | (_, d) => uptoBulk d + 1
 end
def uptoSmall : (H : Type) → List (DataW H) → Bool := fun _ ds => decide (uptoBulkAll ds ≤ 1048576)
def OpenSpec.upto (s : _root_.Go.ChangeSpec) : _root_.Go.OpenSpec := { _root_.Go.OpenSpec.ofChange s with cond := some uptoSmall }

/-- 'coppicerlaw.GrammarChecks', WHERE WHAT IT READS IS OF BULK AT MOST 1048576: true; the input reads as it did. -/
def grammarChecksUptoRow : OpenClaim := { program := "ythjpahmcgpnogaa", sum := "fc3770824d85124f1224198e34768fa9f4d67ab895ebf7cd292c51cab16a9894", func := "coppicer/coppicerlaw.GrammarChecks", spec := "grammarChecks", unfollowed := true, recurses := true, plainKeys := false, apart := false, narrowed := true }
def GrammarChecksUptoSaid : Prop := grammarChecksUptoRow.holds Try.pinned (OpenSpec.upto grammarChecksSpec)

/-- 'coppicerlaw.PlainIs', WHERE WHAT IT READS IS OF BULK AT MOST 1048576: true; the input reads as it did. -/
def plainIsUptoRow : OpenClaim := { program := "ythjpahmcgpnogaa", sum := "fc3770824d85124f1224198e34768fa9f4d67ab895ebf7cd292c51cab16a9894", func := "coppicer/coppicerlaw.PlainIs", spec := "plainIs", unfollowed := true, recurses := true, plainKeys := false, apart := false, narrowed := true }
def PlainIsUptoSaid : Prop := plainIsUptoRow.holds Try.pinned (OpenSpec.upto plainIsSpec)

/-- 'coppicerlaw.GrammarComes', WHERE WHAT IT READS IS OF BULK AT MOST 1048576: true; the input reads as it did. -/
def grammarComesUptoRow : OpenClaim := { program := "ythjpahmcgpnogaa", sum := "fc3770824d85124f1224198e34768fa9f4d67ab895ebf7cd292c51cab16a9894", func := "coppicer/coppicerlaw.GrammarComes", spec := "grammarComes", unfollowed := true, recurses := true, plainKeys := false, apart := false, narrowed := true }
def GrammarComesUptoSaid : Prop := grammarComesUptoRow.holds Try.pinned (OpenSpec.upto grammarComesSpec)

/-- 'coppicerlaw.GrammarMakes', WHERE WHAT IT READS IS OF BULK AT MOST 1048576: true; the input reads as it did. -/
def grammarMakesUptoRow : OpenClaim := { program := "ythjpahmcgpnogaa", sum := "fc3770824d85124f1224198e34768fa9f4d67ab895ebf7cd292c51cab16a9894", func := "coppicer/coppicerlaw.GrammarMakes", spec := "grammarMakes", unfollowed := true, recurses := true, plainKeys := false, apart := false, narrowed := true }
def GrammarMakesUptoSaid : Prop := grammarMakesUptoRow.holds Try.pinned (OpenSpec.upto grammarMakesSpec)

/-- 'coppicerlaw.GrammarVoids', WHERE WHAT IT READS IS OF BULK AT MOST 1048576: true; the input reads as it did. -/
def grammarVoidsUptoRow : OpenClaim := { program := "ythjpahmcgpnogaa", sum := "fc3770824d85124f1224198e34768fa9f4d67ab895ebf7cd292c51cab16a9894", func := "coppicer/coppicerlaw.GrammarVoids", spec := "grammarVoids", unfollowed := true, recurses := true, plainKeys := false, apart := false, narrowed := true }
def GrammarVoidsUptoSaid : Prop := grammarVoidsUptoRow.holds Try.pinned (OpenSpec.upto grammarVoidsSpec)

/-- 'coppicerlaw.GrammarSteps', WHERE WHAT IT READS IS OF BULK AT MOST 1048576: true; the input reads as it did. -/
def grammarStepsUptoRow : OpenClaim := { program := "ythjpahmcgpnogaa", sum := "fc3770824d85124f1224198e34768fa9f4d67ab895ebf7cd292c51cab16a9894", func := "coppicer/coppicerlaw.GrammarSteps", spec := "grammarSteps", unfollowed := true, recurses := true, plainKeys := false, apart := false, narrowed := true }
def GrammarStepsUptoSaid : Prop := grammarStepsUptoRow.holds Try.pinned (OpenSpec.upto grammarStepsSpec)

/-- 'coppicerlaw.PickWords', WHERE WHAT IT READS IS OF BULK AT MOST 1048576: true; the input reads as it did. -/
def pickWordsUptoRow : OpenClaim := { program := "ythjpahmcgpnogaa", sum := "fc3770824d85124f1224198e34768fa9f4d67ab895ebf7cd292c51cab16a9894", func := "coppicer/coppicerlaw.PickWords", spec := "pickWords", unfollowed := true, recurses := true, plainKeys := false, apart := false, narrowed := true }
def PickWordsUptoSaid : Prop := pickWordsUptoRow.holds Try.pinned (OpenSpec.upto pickWordsSpec)

/-- 'coppicerlaw.TableNames', WHERE WHAT IT READS IS OF BULK AT MOST 1048576: true; the input reads as it did. -/
def tableNamesUptoRow : OpenClaim := { program := "ythjpahmcgpnogaa", sum := "fc3770824d85124f1224198e34768fa9f4d67ab895ebf7cd292c51cab16a9894", func := "coppicer/coppicerlaw.TableNames", spec := "tableNames", unfollowed := true, recurses := true, plainKeys := false, apart := false, narrowed := true }
def TableNamesUptoSaid : Prop := tableNamesUptoRow.holds Try.pinned (OpenSpec.upto tableNamesSpec)

/-- 'coppicerlaw.TableTrees', WHERE WHAT IT READS IS OF BULK AT MOST 1048576: true; the input reads as it did. -/
def tableTreesUptoRow : OpenClaim := { program := "ythjpahmcgpnogaa", sum := "fc3770824d85124f1224198e34768fa9f4d67ab895ebf7cd292c51cab16a9894", func := "coppicer/coppicerlaw.TableTrees", spec := "tableTrees", unfollowed := true, recurses := true, plainKeys := false, apart := false, narrowed := true }
def TableTreesUptoSaid : Prop := tableTreesUptoRow.holds Try.pinned (OpenSpec.upto tableTreesSpec)

/-- 'coppicerlaw.ItemsTakes', WHERE WHAT IT READS IS OF BULK AT MOST 1048576: true; the input reads as it did. -/
def itemsTakesUptoRow : OpenClaim := { program := "ythjpahmcgpnogaa", sum := "fc3770824d85124f1224198e34768fa9f4d67ab895ebf7cd292c51cab16a9894", func := "coppicer/coppicerlaw.ItemsTakes", spec := "itemsTakes", unfollowed := true, recurses := true, plainKeys := false, apart := false, narrowed := true }
def ItemsTakesUptoSaid : Prop := itemsTakesUptoRow.holds Try.pinned (OpenSpec.upto itemsTakesSpec)

/-- 'coppicerlaw.PlainSteps', WHERE WHAT IT READS IS OF BULK AT MOST 1048576: true; the input reads as it did. -/
def plainStepsUptoRow : OpenClaim := { program := "ythjpahmcgpnogaa", sum := "fc3770824d85124f1224198e34768fa9f4d67ab895ebf7cd292c51cab16a9894", func := "coppicer/coppicerlaw.PlainSteps", spec := "plainSteps", unfollowed := true, recurses := true, plainKeys := false, apart := false, narrowed := true }
def PlainStepsUptoSaid : Prop := plainStepsUptoRow.holds Try.pinned (OpenSpec.upto plainStepsSpec)

end Rows
end Go.Proofs.Ythjpahmcgpnogaa
