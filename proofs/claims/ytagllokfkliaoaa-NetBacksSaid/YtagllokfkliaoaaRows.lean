/-
  No cell of these rows narrows 'for every input' (looked for: loops, veiled, ifaces, maps, wideKeys, modest, calm, conditions, laid).
  DERIVED. THE GIVEN ROWS OF THIS SEAT. 12 by the template 'for every input the law returns true; each argument reads behind the call as it read before'; 0 by the template 'total and deterministic' (their statements: YtagllokfkliaoaaTotals.lean).
  GIVEN WITH THE SEED: the statements are not yours to turn. If you find one false, say at which input.
  Laid BY PROGRAM, IN A SANDBOX (cutbox-rows.mjs): the forced cells as the released guide's own fill.sh prints them over the translation db37d04b3f8b3785… (all of the seat's roots in one cut). By AI agents, Wed Nov 11 2026. No macro, syntax, notation, axiom, sorry.
-/
import Derived.Test.YtagllokfkliaoaaChecked
import GoSem.Claim
import GoSem.ClaimJoined
import GoSem.ClaimMapViews
import Derived.JoinedTies
import Derived.KernelRfl
namespace Go.Proofs.Ytagllokfkliaoaa
/- THE CELL 'sum', in the pinned program and in every row, IS THE sha256 OF THE DUMP (.gsa) THAT YtagllokfkliaoaaProg.lean LOADS. Nothing in Lean hashes anything: it is a label: what it is worth is what the hold of that sum in a sandbox is worth. -/
noncomputable def Try.pinned : Pinned := { name := "ytagllokfkliaoaa", sum := "db37d04b3f8b37858283de82adc4cb6b2a1ab4edaac77ee38bc28e5aeb4646b1", checked := Try.checked }
namespace Rows
def none {H : Type} : Left H := { results := [], args := [] }

/-- 'coppicerlaw.StoreSums': WHATEVER THE INPUT: true; the input reads as it did. -/
def storeSumsSpec : ChangeSpec := { name := "storeSums", fn := fun _ => fun
  | [d] => { results := [.lit (.bool true)], args := [d] }
  | _ => none }
def storeSumsRow : OpenClaim := { program := "ytagllokfkliaoaa", sum := "db37d04b3f8b37858283de82adc4cb6b2a1ab4edaac77ee38bc28e5aeb4646b1", func := "coppicer/coppicerlaw.StoreSums", spec := "storeSums", apart := false }
def StoreSumsSaid : Prop := storeSumsRow.holds Try.pinned (OpenSpec.ofChange storeSumsSpec)

/-- ITS FALSE NEIGHBOUR: 'it returns false'. Refute it at one input. -/
def storeSumsWrong : ChangeSpec := { name := "storeSums", fn := fun _ => fun
  | [d] => { results := [.lit (.bool false)], args := [d] }
  | _ => none }
def StoreSumsWrongFalsely : Prop := storeSumsRow.holds Try.pinned (OpenSpec.ofChange storeSumsWrong)

/-- 'coppicerlaw.NetChecks': WHATEVER THE INPUT: true; the input reads as it did. -/
def netChecksSpec : ChangeSpec := { name := "netChecks", fn := fun _ => fun
  | [d] => { results := [.lit (.bool true)], args := [d] }
  | _ => none }
def netChecksRow : OpenClaim := { program := "ytagllokfkliaoaa", sum := "db37d04b3f8b37858283de82adc4cb6b2a1ab4edaac77ee38bc28e5aeb4646b1", func := "coppicer/coppicerlaw.NetChecks", spec := "netChecks", apart := false }
def NetChecksSaid : Prop := netChecksRow.holds Try.pinned (OpenSpec.ofChange netChecksSpec)

/-- ITS FALSE NEIGHBOUR: 'it returns false'. Refute it at one input. -/
def netChecksWrong : ChangeSpec := { name := "netChecks", fn := fun _ => fun
  | [d] => { results := [.lit (.bool false)], args := [d] }
  | _ => none }
def NetChecksWrongFalsely : Prop := netChecksRow.holds Try.pinned (OpenSpec.ofChange netChecksWrong)

/-- 'coppicerlaw.BeginAgains': WHATEVER THE INPUT: true; the input reads as it did. -/
def beginAgainsSpec : ChangeSpec := { name := "beginAgains", fn := fun _ => fun
  | [d] => { results := [.lit (.bool true)], args := [d] }
  | _ => none }
def beginAgainsRow : OpenClaim := { program := "ytagllokfkliaoaa", sum := "db37d04b3f8b37858283de82adc4cb6b2a1ab4edaac77ee38bc28e5aeb4646b1", func := "coppicer/coppicerlaw.BeginAgains", spec := "beginAgains", apart := false }
def BeginAgainsSaid : Prop := beginAgainsRow.holds Try.pinned (OpenSpec.ofChange beginAgainsSpec)

/-- ITS FALSE NEIGHBOUR: 'it returns false'. Refute it at one input. -/
def beginAgainsWrong : ChangeSpec := { name := "beginAgains", fn := fun _ => fun
  | [d] => { results := [.lit (.bool false)], args := [d] }
  | _ => none }
def BeginAgainsWrongFalsely : Prop := beginAgainsRow.holds Try.pinned (OpenSpec.ofChange beginAgainsWrong)

/-- 'coppicerlaw.EditInsides': WHATEVER THE INPUT: true; the input reads as it did. -/
def editInsidesSpec : ChangeSpec := { name := "editInsides", fn := fun _ => fun
  | [d1, d2] => { results := [.lit (.bool true)], args := [d1, d2] }
  | _ => none }
def editInsidesRow : OpenClaim := { program := "ytagllokfkliaoaa", sum := "db37d04b3f8b37858283de82adc4cb6b2a1ab4edaac77ee38bc28e5aeb4646b1", func := "coppicer/coppicerlaw.EditInsides", spec := "editInsides", apart := false }
def EditInsidesSaid : Prop := editInsidesRow.holds Try.pinned (OpenSpec.ofChange editInsidesSpec)

/-- ITS FALSE NEIGHBOUR: 'it returns false'. Refute it at one input. -/
def editInsidesWrong : ChangeSpec := { name := "editInsides", fn := fun _ => fun
  | [d1, d2] => { results := [.lit (.bool false)], args := [d1, d2] }
  | _ => none }
def EditInsidesWrongFalsely : Prop := editInsidesRow.holds Try.pinned (OpenSpec.ofChange editInsidesWrong)

/-- 'coppicerlaw.PowerIs': WHATEVER THE INPUT: true; the input reads as it did. -/
def powerIsSpec : ChangeSpec := { name := "powerIs", fn := fun _ => fun
  | [d1, d2] => { results := [.lit (.bool true)], args := [d1, d2] }
  | _ => none }
def powerIsRow : OpenClaim := { program := "ytagllokfkliaoaa", sum := "db37d04b3f8b37858283de82adc4cb6b2a1ab4edaac77ee38bc28e5aeb4646b1", func := "coppicer/coppicerlaw.PowerIs", spec := "powerIs", apart := false }
def PowerIsSaid : Prop := powerIsRow.holds Try.pinned (OpenSpec.ofChange powerIsSpec)

/-- ITS FALSE NEIGHBOUR: 'it returns false'. Refute it at one input. -/
def powerIsWrong : ChangeSpec := { name := "powerIs", fn := fun _ => fun
  | [d1, d2] => { results := [.lit (.bool false)], args := [d1, d2] }
  | _ => none }
def PowerIsWrongFalsely : Prop := powerIsRow.holds Try.pinned (OpenSpec.ofChange powerIsWrong)

/-- 'coppicerlaw.BracketIs': WHATEVER THE INPUT: true; the input reads as it did. -/
def bracketIsSpec : ChangeSpec := { name := "bracketIs", fn := fun _ => fun
  | [d] => { results := [.lit (.bool true)], args := [d] }
  | _ => none }
def bracketIsRow : OpenClaim := { program := "ytagllokfkliaoaa", sum := "db37d04b3f8b37858283de82adc4cb6b2a1ab4edaac77ee38bc28e5aeb4646b1", func := "coppicer/coppicerlaw.BracketIs", spec := "bracketIs", apart := false }
def BracketIsSaid : Prop := bracketIsRow.holds Try.pinned (OpenSpec.ofChange bracketIsSpec)

/-- ITS FALSE NEIGHBOUR: 'it returns false'. Refute it at one input. -/
def bracketIsWrong : ChangeSpec := { name := "bracketIs", fn := fun _ => fun
  | [d] => { results := [.lit (.bool false)], args := [d] }
  | _ => none }
def BracketIsWrongFalsely : Prop := bracketIsRow.holds Try.pinned (OpenSpec.ofChange bracketIsWrong)

/-- 'coppicerlaw.LyndonIs': WHATEVER THE INPUT: true; the input reads as it did. -/
def lyndonIsSpec : ChangeSpec := { name := "lyndonIs", fn := fun _ => fun
  | [d] => { results := [.lit (.bool true)], args := [d] }
  | _ => none }
def lyndonIsRow : OpenClaim := { program := "ytagllokfkliaoaa", sum := "db37d04b3f8b37858283de82adc4cb6b2a1ab4edaac77ee38bc28e5aeb4646b1", func := "coppicer/coppicerlaw.LyndonIs", spec := "lyndonIs", inPlace := ["internal/bytealg.Compare"], apart := false }
def LyndonIsSaid : Prop := lyndonIsRow.holds Try.pinned (OpenSpec.ofChange lyndonIsSpec)

/-- ITS FALSE NEIGHBOUR: 'it returns false'. Refute it at one input. -/
def lyndonIsWrong : ChangeSpec := { name := "lyndonIs", fn := fun _ => fun
  | [d] => { results := [.lit (.bool false)], args := [d] }
  | _ => none }
def LyndonIsWrongFalsely : Prop := lyndonIsRow.holds Try.pinned (OpenSpec.ofChange lyndonIsWrong)

/-- 'coppicerlaw.BracketManies': WHATEVER THE INPUT: true; the input reads as it did. -/
def bracketManiesSpec : ChangeSpec := { name := "bracketManies", fn := fun _ => fun
  | [d] => { results := [.lit (.bool true)], args := [d] }
  | _ => none }
def bracketManiesRow : OpenClaim := { program := "ytagllokfkliaoaa", sum := "db37d04b3f8b37858283de82adc4cb6b2a1ab4edaac77ee38bc28e5aeb4646b1", func := "coppicer/coppicerlaw.BracketManies", spec := "bracketManies", apart := false }
def BracketManiesSaid : Prop := bracketManiesRow.holds Try.pinned (OpenSpec.ofChange bracketManiesSpec)

/-- ITS FALSE NEIGHBOUR: 'it returns false'. Refute it at one input. -/
def bracketManiesWrong : ChangeSpec := { name := "bracketManies", fn := fun _ => fun
  | [d] => { results := [.lit (.bool false)], args := [d] }
  | _ => none }
def BracketManiesWrongFalsely : Prop := bracketManiesRow.holds Try.pinned (OpenSpec.ofChange bracketManiesWrong)

/-- 'coppicerlaw.NetBacks': WHATEVER THE INPUT: true; the input reads as it did. -/
def netBacksSpec : ChangeSpec := { name := "netBacks", fn := fun _ => fun
  | [d] => { results := [.lit (.bool true)], args := [d] }
  | _ => none }
def netBacksRow : OpenClaim := { program := "ytagllokfkliaoaa", sum := "db37d04b3f8b37858283de82adc4cb6b2a1ab4edaac77ee38bc28e5aeb4646b1", func := "coppicer/coppicerlaw.NetBacks", spec := "netBacks", apart := false }
def NetBacksSaid : Prop := netBacksRow.holds Try.pinned (OpenSpec.ofChange netBacksSpec)

/-- ITS FALSE NEIGHBOUR: 'it returns false'. Refute it at one input. -/
def netBacksWrong : ChangeSpec := { name := "netBacks", fn := fun _ => fun
  | [d] => { results := [.lit (.bool false)], args := [d] }
  | _ => none }
def NetBacksWrongFalsely : Prop := netBacksRow.holds Try.pinned (OpenSpec.ofChange netBacksWrong)

/-- 'coppicerlaw.PowerAlls': WHATEVER THE INPUT: true; the input reads as it did. -/
def powerAllsSpec : ChangeSpec := { name := "powerAlls", fn := fun _ => fun
  | [d] => { results := [.lit (.bool true)], args := [d] }
  | _ => none }
def powerAllsRow : OpenClaim := { program := "ytagllokfkliaoaa", sum := "db37d04b3f8b37858283de82adc4cb6b2a1ab4edaac77ee38bc28e5aeb4646b1", func := "coppicer/coppicerlaw.PowerAlls", spec := "powerAlls", apart := false }
def PowerAllsSaid : Prop := powerAllsRow.holds Try.pinned (OpenSpec.ofChange powerAllsSpec)

/-- ITS FALSE NEIGHBOUR: 'it returns false'. Refute it at one input. -/
def powerAllsWrong : ChangeSpec := { name := "powerAlls", fn := fun _ => fun
  | [d] => { results := [.lit (.bool false)], args := [d] }
  | _ => none }
def PowerAllsWrongFalsely : Prop := powerAllsRow.holds Try.pinned (OpenSpec.ofChange powerAllsWrong)

/-- 'coppicerlaw.EndsCounts': WHATEVER THE INPUT: true; the input reads as it did. -/
def endsCountsSpec : ChangeSpec := { name := "endsCounts", fn := fun _ => fun
  | [d1, d2] => { results := [.lit (.bool true)], args := [d1, d2] }
  | _ => none }
def endsCountsRow : OpenClaim := { program := "ytagllokfkliaoaa", sum := "db37d04b3f8b37858283de82adc4cb6b2a1ab4edaac77ee38bc28e5aeb4646b1", func := "coppicer/coppicerlaw.EndsCounts", spec := "endsCounts", apart := false }
def EndsCountsSaid : Prop := endsCountsRow.holds Try.pinned (OpenSpec.ofChange endsCountsSpec)

/-- ITS FALSE NEIGHBOUR: 'it returns false'. Refute it at one input. -/
def endsCountsWrong : ChangeSpec := { name := "endsCounts", fn := fun _ => fun
  | [d1, d2] => { results := [.lit (.bool false)], args := [d1, d2] }
  | _ => none }
def EndsCountsWrongFalsely : Prop := endsCountsRow.holds Try.pinned (OpenSpec.ofChange endsCountsWrong)

/-- 'coppicerlaw.BorderTells': WHATEVER THE INPUT: true; the input reads as it did. -/
def borderTellsSpec : ChangeSpec := { name := "borderTells", fn := fun _ => fun
  | [d] => { results := [.lit (.bool true)], args := [d] }
  | _ => none }
def borderTellsRow : OpenClaim := { program := "ytagllokfkliaoaa", sum := "db37d04b3f8b37858283de82adc4cb6b2a1ab4edaac77ee38bc28e5aeb4646b1", func := "coppicer/coppicerlaw.BorderTells", spec := "borderTells", apart := false }
def BorderTellsSaid : Prop := borderTellsRow.holds Try.pinned (OpenSpec.ofChange borderTellsSpec)

/-- ITS FALSE NEIGHBOUR: 'it returns false'. Refute it at one input. -/
def borderTellsWrong : ChangeSpec := { name := "borderTells", fn := fun _ => fun
  | [d] => { results := [.lit (.bool false)], args := [d] }
  | _ => none }
def BorderTellsWrongFalsely : Prop := borderTellsRow.holds Try.pinned (OpenSpec.ofChange borderTellsWrong)

/- THE SECOND FORM. 'bulk': how many values and letters a reading holds, each counted each time it is reached (what is shared counts as often as it is met; a slice's spare places count too). A statement '..UptoSaid' is the law's where the arguments, and the package variables that the reading takes, are together of bulk at most 1048576: NARROWER than '..Said'. Prove '..Said' where nothing that the law and all that it calls make is longer than what came in: it says more and counts as full. Else prove '..UptoSaid'. A law counts once. -/
mutual
def uptoBulk {H : Type} : DataW H → Nat
  | .lit (.string bytes) => bytes.length + 1
  | .lit _ => 1
  | .nil => 1
  | .ptr d => uptoBulk d + 1
  | .slice elems spare => uptoBulkAll elems + uptoBulkAll spare + 1
  | .agg parts => uptoBulkAll parts + 1
  | .iface _ d => uptoBulk d + 1
  | .map entries => uptoBulkEntries entries + 1
  | .held _ => 1
def uptoBulkAll {H : Type} : List (DataW H) → Nat
  | [] => 0
  | d :: r => uptoBulk d + uptoBulkAll r
def uptoBulkEntries {H : Type} : List (Lit × DataW H) → Nat
  | [] => 0
  | x :: r => uptoBulkEntry x + uptoBulkEntries r
def uptoBulkEntry {H : Type} : Lit × DataW H → Nat
  | (.string bytes, d) => bytes.length + uptoBulk d + 1
  | (_, d) => uptoBulk d + 1
 end
def uptoSmall : (H : Type) → List (DataW H) → Bool := fun _ ds => decide (uptoBulkAll ds ≤ 1048576)
def OpenSpec.upto (s : _root_.Go.ChangeSpec) : _root_.Go.OpenSpec := { _root_.Go.OpenSpec.ofChange s with cond := some uptoSmall }

/-- 'coppicerlaw.StoreSums', WHERE WHAT IT READS IS OF BULK AT MOST 1048576: true; the input reads as it did. -/
def storeSumsUptoRow : OpenClaim := { program := "ytagllokfkliaoaa", sum := "db37d04b3f8b37858283de82adc4cb6b2a1ab4edaac77ee38bc28e5aeb4646b1", func := "coppicer/coppicerlaw.StoreSums", spec := "storeSums", apart := false, narrowed := true }
def StoreSumsUptoSaid : Prop := storeSumsUptoRow.holds Try.pinned (OpenSpec.upto storeSumsSpec)

/-- 'coppicerlaw.NetChecks', WHERE WHAT IT READS IS OF BULK AT MOST 1048576: true; the input reads as it did. -/
def netChecksUptoRow : OpenClaim := { program := "ytagllokfkliaoaa", sum := "db37d04b3f8b37858283de82adc4cb6b2a1ab4edaac77ee38bc28e5aeb4646b1", func := "coppicer/coppicerlaw.NetChecks", spec := "netChecks", apart := false, narrowed := true }
def NetChecksUptoSaid : Prop := netChecksUptoRow.holds Try.pinned (OpenSpec.upto netChecksSpec)

/-- 'coppicerlaw.BeginAgains', WHERE WHAT IT READS IS OF BULK AT MOST 1048576: true; the input reads as it did. -/
def beginAgainsUptoRow : OpenClaim := { program := "ytagllokfkliaoaa", sum := "db37d04b3f8b37858283de82adc4cb6b2a1ab4edaac77ee38bc28e5aeb4646b1", func := "coppicer/coppicerlaw.BeginAgains", spec := "beginAgains", apart := false, narrowed := true }
def BeginAgainsUptoSaid : Prop := beginAgainsUptoRow.holds Try.pinned (OpenSpec.upto beginAgainsSpec)

/-- 'coppicerlaw.EditInsides', WHERE WHAT IT READS IS OF BULK AT MOST 1048576: true; the input reads as it did. -/
def editInsidesUptoRow : OpenClaim := { program := "ytagllokfkliaoaa", sum := "db37d04b3f8b37858283de82adc4cb6b2a1ab4edaac77ee38bc28e5aeb4646b1", func := "coppicer/coppicerlaw.EditInsides", spec := "editInsides", apart := false, narrowed := true }
def EditInsidesUptoSaid : Prop := editInsidesUptoRow.holds Try.pinned (OpenSpec.upto editInsidesSpec)

/-- 'coppicerlaw.PowerIs', WHERE WHAT IT READS IS OF BULK AT MOST 1048576: true; the input reads as it did. -/
def powerIsUptoRow : OpenClaim := { program := "ytagllokfkliaoaa", sum := "db37d04b3f8b37858283de82adc4cb6b2a1ab4edaac77ee38bc28e5aeb4646b1", func := "coppicer/coppicerlaw.PowerIs", spec := "powerIs", apart := false, narrowed := true }
def PowerIsUptoSaid : Prop := powerIsUptoRow.holds Try.pinned (OpenSpec.upto powerIsSpec)

/-- 'coppicerlaw.BracketIs', WHERE WHAT IT READS IS OF BULK AT MOST 1048576: true; the input reads as it did. -/
def bracketIsUptoRow : OpenClaim := { program := "ytagllokfkliaoaa", sum := "db37d04b3f8b37858283de82adc4cb6b2a1ab4edaac77ee38bc28e5aeb4646b1", func := "coppicer/coppicerlaw.BracketIs", spec := "bracketIs", apart := false, narrowed := true }
def BracketIsUptoSaid : Prop := bracketIsUptoRow.holds Try.pinned (OpenSpec.upto bracketIsSpec)

/-- 'coppicerlaw.LyndonIs', WHERE WHAT IT READS IS OF BULK AT MOST 1048576: true; the input reads as it did. -/
def lyndonIsUptoRow : OpenClaim := { program := "ytagllokfkliaoaa", sum := "db37d04b3f8b37858283de82adc4cb6b2a1ab4edaac77ee38bc28e5aeb4646b1", func := "coppicer/coppicerlaw.LyndonIs", spec := "lyndonIs", inPlace := ["internal/bytealg.Compare"], apart := false, narrowed := true }
def LyndonIsUptoSaid : Prop := lyndonIsUptoRow.holds Try.pinned (OpenSpec.upto lyndonIsSpec)

/-- 'coppicerlaw.BracketManies', WHERE WHAT IT READS IS OF BULK AT MOST 1048576: true; the input reads as it did. -/
def bracketManiesUptoRow : OpenClaim := { program := "ytagllokfkliaoaa", sum := "db37d04b3f8b37858283de82adc4cb6b2a1ab4edaac77ee38bc28e5aeb4646b1", func := "coppicer/coppicerlaw.BracketManies", spec := "bracketManies", apart := false, narrowed := true }
def BracketManiesUptoSaid : Prop := bracketManiesUptoRow.holds Try.pinned (OpenSpec.upto bracketManiesSpec)

/-- 'coppicerlaw.NetBacks', WHERE WHAT IT READS IS OF BULK AT MOST 1048576: true; the input reads as it did. -/
def netBacksUptoRow : OpenClaim := { program := "ytagllokfkliaoaa", sum := "db37d04b3f8b37858283de82adc4cb6b2a1ab4edaac77ee38bc28e5aeb4646b1", func := "coppicer/coppicerlaw.NetBacks", spec := "netBacks", apart := false, narrowed := true }
def NetBacksUptoSaid : Prop := netBacksUptoRow.holds Try.pinned (OpenSpec.upto netBacksSpec)

/-- 'coppicerlaw.PowerAlls', WHERE WHAT IT READS IS OF BULK AT MOST 1048576: true; the input reads as it did. -/
def powerAllsUptoRow : OpenClaim := { program := "ytagllokfkliaoaa", sum := "db37d04b3f8b37858283de82adc4cb6b2a1ab4edaac77ee38bc28e5aeb4646b1", func := "coppicer/coppicerlaw.PowerAlls", spec := "powerAlls", apart := false, narrowed := true }
def PowerAllsUptoSaid : Prop := powerAllsUptoRow.holds Try.pinned (OpenSpec.upto powerAllsSpec)

/-- 'coppicerlaw.EndsCounts', WHERE WHAT IT READS IS OF BULK AT MOST 1048576: true; the input reads as it did. -/
def endsCountsUptoRow : OpenClaim := { program := "ytagllokfkliaoaa", sum := "db37d04b3f8b37858283de82adc4cb6b2a1ab4edaac77ee38bc28e5aeb4646b1", func := "coppicer/coppicerlaw.EndsCounts", spec := "endsCounts", apart := false, narrowed := true }
def EndsCountsUptoSaid : Prop := endsCountsUptoRow.holds Try.pinned (OpenSpec.upto endsCountsSpec)

/-- 'coppicerlaw.BorderTells', WHERE WHAT IT READS IS OF BULK AT MOST 1048576: true; the input reads as it did. -/
def borderTellsUptoRow : OpenClaim := { program := "ytagllokfkliaoaa", sum := "db37d04b3f8b37858283de82adc4cb6b2a1ab4edaac77ee38bc28e5aeb4646b1", func := "coppicer/coppicerlaw.BorderTells", spec := "borderTells", apart := false, narrowed := true }
def BorderTellsUptoSaid : Prop := borderTellsUptoRow.holds Try.pinned (OpenSpec.upto borderTellsSpec)

end Rows
end Go.Proofs.Ytagllokfkliaoaa
