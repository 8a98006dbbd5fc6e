/-
  No cell of these rows narrows 'for every input' (looked for: loops, veiled, ifaces, maps, wideKeys, modest, calm, conditions, laid).
  DERIVED. THE GIVEN ROWS OF THIS SEAT. 8 by the template 'for every input the law returns true; each argument reads behind the call as it read before'; 0 by the template 'total and deterministic' (their statements: YtinanpbhbafhcaaTotals.lean).
  GIVEN WITH THE SEED: the statements are not yours to turn. If you find one false, say at which input.
  Laid BY PROGRAM, IN A SANDBOX (cutbox-rows.mjs): the forced cells as the released guide's own fill.sh prints them over the translation 5a606c1094cabdb5… (all of the seat's roots in one cut). By AI agents, Wed Nov 11 2026. No macro, syntax, notation, axiom, sorry.
-/
import Derived.Test.YtinanpbhbafhcaaChecked
import GoSem.Claim
import GoSem.ClaimJoined
import GoSem.ClaimMapViews
import Derived.JoinedTies
import Derived.KernelRfl
namespace Go.Proofs.Ytinanpbhbafhcaa
/- THE CELL 'sum', in the pinned program and in every row, IS THE sha256 OF THE DUMP (.gsa) THAT YtinanpbhbafhcaaProg.lean LOADS. Nothing in Lean hashes anything: it is a label: what it is worth is what the hold of that sum in a sandbox is worth. -/
noncomputable def Try.pinned : Pinned := { name := "ytinanpbhbafhcaa", sum := "5a606c1094cabdb5f113441193911edb1bdfb256add27b4f288abd4f34e8576f", checked := Try.checked }
namespace Rows
def none {H : Type} : Left H := { results := [], args := [] }

/-- 'coppicerlaw.BeginCovers': WHATEVER THE INPUT: true; the input reads as it did. -/
def beginCoversSpec : ChangeSpec := { name := "beginCovers", fn := fun _ => fun
  | [d1, d2] => { results := [.lit (.bool true)], args := [d1, d2] }
  | _ => none }
def beginCoversRow : OpenClaim := { program := "ytinanpbhbafhcaa", sum := "5a606c1094cabdb5f113441193911edb1bdfb256add27b4f288abd4f34e8576f", func := "coppicer/coppicerlaw.BeginCovers", spec := "beginCovers", apart := false }
def BeginCoversSaid : Prop := beginCoversRow.holds Try.pinned (OpenSpec.ofChange beginCoversSpec)

/-- ITS FALSE NEIGHBOUR: 'it returns false'. Refute it at one input. -/
def beginCoversWrong : ChangeSpec := { name := "beginCovers", fn := fun _ => fun
  | [d1, d2] => { results := [.lit (.bool false)], args := [d1, d2] }
  | _ => none }
def BeginCoversWrongFalsely : Prop := beginCoversRow.holds Try.pinned (OpenSpec.ofChange beginCoversWrong)

/-- 'coppicerlaw.EditFars': WHATEVER THE INPUT: true; the input reads as it did. -/
def editFarsSpec : ChangeSpec := { name := "editFars", fn := fun _ => fun
  | [d1, d2] => { results := [.lit (.bool true)], args := [d1, d2] }
  | _ => none }
def editFarsRow : OpenClaim := { program := "ytinanpbhbafhcaa", sum := "5a606c1094cabdb5f113441193911edb1bdfb256add27b4f288abd4f34e8576f", func := "coppicer/coppicerlaw.EditFars", spec := "editFars", apart := false }
def EditFarsSaid : Prop := editFarsRow.holds Try.pinned (OpenSpec.ofChange editFarsSpec)

/-- ITS FALSE NEIGHBOUR: 'it returns false'. Refute it at one input. -/
def editFarsWrong : ChangeSpec := { name := "editFars", fn := fun _ => fun
  | [d1, d2] => { results := [.lit (.bool false)], args := [d1, d2] }
  | _ => none }
def EditFarsWrongFalsely : Prop := editFarsRow.holds Try.pinned (OpenSpec.ofChange editFarsWrong)

/-- 'coppicerlaw.PowerRoots': WHATEVER THE INPUT: true; the input reads as it did. -/
def powerRootsSpec : ChangeSpec := { name := "powerRoots", fn := fun _ => fun
  | [d] => { results := [.lit (.bool true)], args := [d] }
  | _ => none }
def powerRootsRow : OpenClaim := { program := "ytinanpbhbafhcaa", sum := "5a606c1094cabdb5f113441193911edb1bdfb256add27b4f288abd4f34e8576f", func := "coppicer/coppicerlaw.PowerRoots", spec := "powerRoots", apart := false }
def PowerRootsSaid : Prop := powerRootsRow.holds Try.pinned (OpenSpec.ofChange powerRootsSpec)

/-- ITS FALSE NEIGHBOUR: 'it returns false'. Refute it at one input. -/
def powerRootsWrong : ChangeSpec := { name := "powerRoots", fn := fun _ => fun
  | [d] => { results := [.lit (.bool false)], args := [d] }
  | _ => none }
def PowerRootsWrongFalsely : Prop := powerRootsRow.holds Try.pinned (OpenSpec.ofChange powerRootsWrong)

/-- 'coppicerlaw.LyndonParts': WHATEVER THE INPUT: true; the input reads as it did. -/
def lyndonPartsSpec : ChangeSpec := { name := "lyndonParts", fn := fun _ => fun
  | [d] => { results := [.lit (.bool true)], args := [d] }
  | _ => none }
def lyndonPartsRow : OpenClaim := { program := "ytinanpbhbafhcaa", sum := "5a606c1094cabdb5f113441193911edb1bdfb256add27b4f288abd4f34e8576f", func := "coppicer/coppicerlaw.LyndonParts", spec := "lyndonParts", apart := false }
def LyndonPartsSaid : Prop := lyndonPartsRow.holds Try.pinned (OpenSpec.ofChange lyndonPartsSpec)

/-- ITS FALSE NEIGHBOUR: 'it returns false'. Refute it at one input. -/
def lyndonPartsWrong : ChangeSpec := { name := "lyndonParts", fn := fun _ => fun
  | [d] => { results := [.lit (.bool false)], args := [d] }
  | _ => none }
def LyndonPartsWrongFalsely : Prop := lyndonPartsRow.holds Try.pinned (OpenSpec.ofChange lyndonPartsWrong)

/-- 'coppicerlaw.PowerMeets': WHATEVER THE INPUT: true; the input reads as it did. -/
def powerMeetsSpec : ChangeSpec := { name := "powerMeets", fn := fun _ => fun
  | [d1, d2] => { results := [.lit (.bool true)], args := [d1, d2] }
  | _ => none }
def powerMeetsRow : OpenClaim := { program := "ytinanpbhbafhcaa", sum := "5a606c1094cabdb5f113441193911edb1bdfb256add27b4f288abd4f34e8576f", func := "coppicer/coppicerlaw.PowerMeets", spec := "powerMeets", apart := false }
def PowerMeetsSaid : Prop := powerMeetsRow.holds Try.pinned (OpenSpec.ofChange powerMeetsSpec)

/-- ITS FALSE NEIGHBOUR: 'it returns false'. Refute it at one input. -/
def powerMeetsWrong : ChangeSpec := { name := "powerMeets", fn := fun _ => fun
  | [d1, d2] => { results := [.lit (.bool false)], args := [d1, d2] }
  | _ => none }
def PowerMeetsWrongFalsely : Prop := powerMeetsRow.holds Try.pinned (OpenSpec.ofChange powerMeetsWrong)

/-- 'coppicerlaw.BorderFinds': WHATEVER THE INPUT: true; the input reads as it did. -/
def borderFindsSpec : ChangeSpec := { name := "borderFinds", fn := fun _ => fun
  | [d1, d2] => { results := [.lit (.bool true)], args := [d1, d2] }
  | _ => none }
def borderFindsRow : OpenClaim := { program := "ytinanpbhbafhcaa", sum := "5a606c1094cabdb5f113441193911edb1bdfb256add27b4f288abd4f34e8576f", func := "coppicer/coppicerlaw.BorderFinds", spec := "borderFinds", apart := false }
def BorderFindsSaid : Prop := borderFindsRow.holds Try.pinned (OpenSpec.ofChange borderFindsSpec)

/-- ITS FALSE NEIGHBOUR: 'it returns false'. Refute it at one input. -/
def borderFindsWrong : ChangeSpec := { name := "borderFinds", fn := fun _ => fun
  | [d1, d2] => { results := [.lit (.bool false)], args := [d1, d2] }
  | _ => none }
def BorderFindsWrongFalsely : Prop := borderFindsRow.holds Try.pinned (OpenSpec.ofChange borderFindsWrong)

/-- 'coppicerlaw.LyndonTurns': WHATEVER THE INPUT: true; the input reads as it did. -/
def lyndonTurnsSpec : ChangeSpec := { name := "lyndonTurns", fn := fun _ => fun
  | [d] => { results := [.lit (.bool true)], args := [d] }
  | _ => none }
def lyndonTurnsRow : OpenClaim := { program := "ytinanpbhbafhcaa", sum := "5a606c1094cabdb5f113441193911edb1bdfb256add27b4f288abd4f34e8576f", func := "coppicer/coppicerlaw.LyndonTurns", spec := "lyndonTurns", inPlace := ["internal/bytealg.Compare"], apart := false }
def LyndonTurnsSaid : Prop := lyndonTurnsRow.holds Try.pinned (OpenSpec.ofChange lyndonTurnsSpec)

/-- ITS FALSE NEIGHBOUR: 'it returns false'. Refute it at one input. -/
def lyndonTurnsWrong : ChangeSpec := { name := "lyndonTurns", fn := fun _ => fun
  | [d] => { results := [.lit (.bool false)], args := [d] }
  | _ => none }
def LyndonTurnsWrongFalsely : Prop := lyndonTurnsRow.holds Try.pinned (OpenSpec.ofChange lyndonTurnsWrong)

/-- 'coppicerlaw.EditShares': WHATEVER THE INPUT: true; the input reads as it did. -/
def editSharesSpec : ChangeSpec := { name := "editShares", fn := fun _ => fun
  | [d1, d2] => { results := [.lit (.bool true)], args := [d1, d2] }
  | _ => none }
def editSharesRow : OpenClaim := { program := "ytinanpbhbafhcaa", sum := "5a606c1094cabdb5f113441193911edb1bdfb256add27b4f288abd4f34e8576f", func := "coppicer/coppicerlaw.EditShares", spec := "editShares", inPlace := ["internal/bytealg.Compare"], unfollowed := true, recurses := true, apart := false }
def EditSharesSaid : Prop := editSharesRow.holds Try.pinned (OpenSpec.ofChange editSharesSpec)

/-- ITS FALSE NEIGHBOUR: 'it returns false'. Refute it at one input. -/
def editSharesWrong : ChangeSpec := { name := "editShares", fn := fun _ => fun
  | [d1, d2] => { results := [.lit (.bool false)], args := [d1, d2] }
  | _ => none }
def EditSharesWrongFalsely : Prop := editSharesRow.holds Try.pinned (OpenSpec.ofChange editSharesWrong)

/- THE SECOND FORM. 'bulk': how many values and letters a reading holds, each counted each time it is reached (what is shared counts as often as it is met; a slice's spare places count too). A statement '..UptoSaid' is the law's where the arguments, and the package variables that the reading takes, are together of bulk at most 1048576: NARROWER than '..Said'. Prove '..Said' where nothing that the law and all that it calls make is longer than what came in: it says more and counts as full. Else prove '..UptoSaid'. A law counts once. -/
mutual
def uptoBulk {H : Type} : DataW H → Nat
  | .lit (.string bytes) => bytes.length + 1
  | .lit _ => 1
  | .nil => 1
  | .ptr d => uptoBulk d + 1
  | .slice elems spare => uptoBulkAll elems + uptoBulkAll spare + 1
  | .agg parts => uptoBulkAll parts + 1
  | .iface _ d => uptoBulk d + 1
  | .map entries => uptoBulkEntries entries + 1
  | .held _ => 1
def uptoBulkAll {H : Type} : List (DataW H) → Nat
  | [] => 0
  | d :: r => uptoBulk d + uptoBulkAll r
def uptoBulkEntries {H : Type} : List (Lit × DataW H) → Nat
  | [] => 0
  | x :: r => uptoBulkEntry x + uptoBulkEntries r
def uptoBulkEntry {H : Type} : Lit × DataW H → Nat
  | (.string bytes, d) => bytes.length + uptoBulk d + 1
  | (_, d) => uptoBulk d + 1
 end
def uptoSmall : (H : Type) → List (DataW H) → Bool := fun _ ds => decide (uptoBulkAll ds ≤ 1048576)
def OpenSpec.upto (s : _root_.Go.ChangeSpec) : _root_.Go.OpenSpec := { _root_.Go.OpenSpec.ofChange s with cond := some uptoSmall }

/-- 'coppicerlaw.BeginCovers', WHERE WHAT IT READS IS OF BULK AT MOST 1048576: true; the input reads as it did. -/
def beginCoversUptoRow : OpenClaim := { program := "ytinanpbhbafhcaa", sum := "5a606c1094cabdb5f113441193911edb1bdfb256add27b4f288abd4f34e8576f", func := "coppicer/coppicerlaw.BeginCovers", spec := "beginCovers", apart := false, narrowed := true }
def BeginCoversUptoSaid : Prop := beginCoversUptoRow.holds Try.pinned (OpenSpec.upto beginCoversSpec)

/-- 'coppicerlaw.EditFars', WHERE WHAT IT READS IS OF BULK AT MOST 1048576: true; the input reads as it did. -/
def editFarsUptoRow : OpenClaim := { program := "ytinanpbhbafhcaa", sum := "5a606c1094cabdb5f113441193911edb1bdfb256add27b4f288abd4f34e8576f", func := "coppicer/coppicerlaw.EditFars", spec := "editFars", apart := false, narrowed := true }
def EditFarsUptoSaid : Prop := editFarsUptoRow.holds Try.pinned (OpenSpec.upto editFarsSpec)

/-- 'coppicerlaw.PowerRoots', WHERE WHAT IT READS IS OF BULK AT MOST 1048576: true; the input reads as it did. -/
def powerRootsUptoRow : OpenClaim := { program := "ytinanpbhbafhcaa", sum := "5a606c1094cabdb5f113441193911edb1bdfb256add27b4f288abd4f34e8576f", func := "coppicer/coppicerlaw.PowerRoots", spec := "powerRoots", apart := false, narrowed := true }
def PowerRootsUptoSaid : Prop := powerRootsUptoRow.holds Try.pinned (OpenSpec.upto powerRootsSpec)

/-- 'coppicerlaw.LyndonParts', WHERE WHAT IT READS IS OF BULK AT MOST 1048576: true; the input reads as it did. -/
def lyndonPartsUptoRow : OpenClaim := { program := "ytinanpbhbafhcaa", sum := "5a606c1094cabdb5f113441193911edb1bdfb256add27b4f288abd4f34e8576f", func := "coppicer/coppicerlaw.LyndonParts", spec := "lyndonParts", apart := false, narrowed := true }
def LyndonPartsUptoSaid : Prop := lyndonPartsUptoRow.holds Try.pinned (OpenSpec.upto lyndonPartsSpec)

/-- 'coppicerlaw.PowerMeets', WHERE WHAT IT READS IS OF BULK AT MOST 1048576: true; the input reads as it did. -/
def powerMeetsUptoRow : OpenClaim := { program := "ytinanpbhbafhcaa", sum := "5a606c1094cabdb5f113441193911edb1bdfb256add27b4f288abd4f34e8576f", func := "coppicer/coppicerlaw.PowerMeets", spec := "powerMeets", apart := false, narrowed := true }
def PowerMeetsUptoSaid : Prop := powerMeetsUptoRow.holds Try.pinned (OpenSpec.upto powerMeetsSpec)

/-- 'coppicerlaw.BorderFinds', WHERE WHAT IT READS IS OF BULK AT MOST 1048576: true; the input reads as it did. -/
def borderFindsUptoRow : OpenClaim := { program := "ytinanpbhbafhcaa", sum := "5a606c1094cabdb5f113441193911edb1bdfb256add27b4f288abd4f34e8576f", func := "coppicer/coppicerlaw.BorderFinds", spec := "borderFinds", apart := false, narrowed := true }
def BorderFindsUptoSaid : Prop := borderFindsUptoRow.holds Try.pinned (OpenSpec.upto borderFindsSpec)

/-- 'coppicerlaw.LyndonTurns', WHERE WHAT IT READS IS OF BULK AT MOST 1048576: true; the input reads as it did. -/
def lyndonTurnsUptoRow : OpenClaim := { program := "ytinanpbhbafhcaa", sum := "5a606c1094cabdb5f113441193911edb1bdfb256add27b4f288abd4f34e8576f", func := "coppicer/coppicerlaw.LyndonTurns", spec := "lyndonTurns", inPlace := ["internal/bytealg.Compare"], apart := false, narrowed := true }
def LyndonTurnsUptoSaid : Prop := lyndonTurnsUptoRow.holds Try.pinned (OpenSpec.upto lyndonTurnsSpec)

/-- 'coppicerlaw.EditShares', WHERE WHAT IT READS IS OF BULK AT MOST 1048576: true; the input reads as it did. -/
def editSharesUptoRow : OpenClaim := { program := "ytinanpbhbafhcaa", sum := "5a606c1094cabdb5f113441193911edb1bdfb256add27b4f288abd4f34e8576f", func := "coppicer/coppicerlaw.EditShares", spec := "editShares", inPlace := ["internal/bytealg.Compare"], unfollowed := true, recurses := true, apart := false, narrowed := true }
def EditSharesUptoSaid : Prop := editSharesUptoRow.holds Try.pinned (OpenSpec.upto editSharesSpec)

end Rows
end Go.Proofs.Ytinanpbhbafhcaa
