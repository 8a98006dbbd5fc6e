/-
  No cell of these rows narrows 'for every input' (looked for: loops, veiled, ifaces, maps, wideKeys, modest, calm, conditions, laid).
  DERIVED. THE GIVEN ROWS OF THIS SEAT. 5 by the template 'for every input the law returns true; each argument reads behind the call as it read before'; 0 by the template 'total and deterministic' (their statements: YtdcdldfleeilnaaTotals.lean).
  GIVEN WITH THE SEED: the statements are not yours to turn. If you find one false, say at which input.
  Laid BY PROGRAM, IN A SANDBOX (cutbox-rows.mjs): the forced cells as the released guide's own fill.sh prints them over the translation 3b2f8e822921ee11… (all of the seat's roots in one cut). By AI agents, Wed Nov 11 2026. No macro, syntax, notation, axiom, sorry.
-/
import Derived.Test.YtdcdldfleeilnaaChecked
import GoSem.Claim
import GoSem.ClaimJoined
import GoSem.ClaimMapViews
import Derived.JoinedTies
import Derived.KernelRfl
namespace Go.Proofs.Ytdcdldfleeilnaa
/- THE CELL 'sum', in the pinned program and in every row, IS THE sha256 OF THE DUMP (.gsa) THAT YtdcdldfleeilnaaProg.lean LOADS. Nothing in Lean hashes anything: it is a label: what it is worth is what the hold of that sum in a sandbox is worth. -/
noncomputable def Try.pinned : Pinned := { name := "ytdcdldfleeilnaa", sum := "3b2f8e822921ee11cc292b1f7fb48ef0130b2061a880bfd817629888da9c9eb3", checked := Try.checked }
namespace Rows
def none {H : Type} : Left H := { results := [], args := [] }

/-- 'coppicerlaw.EndsOrders': WHATEVER THE INPUT: true; the input reads as it did. -/
def endsOrdersSpec : ChangeSpec := { name := "endsOrders", fn := fun _ => fun
  | [d] => { results := [.lit (.bool true)], args := [d] }
  | _ => none }
def endsOrdersRow : OpenClaim := { program := "ytdcdldfleeilnaa", sum := "3b2f8e822921ee11cc292b1f7fb48ef0130b2061a880bfd817629888da9c9eb3", func := "coppicer/coppicerlaw.EndsOrders", spec := "endsOrders", inPlace := ["internal/bytealg.Compare"], unfollowed := true, recurses := true, apart := false }
def EndsOrdersSaid : Prop := endsOrdersRow.holds Try.pinned (OpenSpec.ofChange endsOrdersSpec)

/-- ITS FALSE NEIGHBOUR: 'it returns false'. Refute it at one input. -/
def endsOrdersWrong : ChangeSpec := { name := "endsOrders", fn := fun _ => fun
  | [d] => { results := [.lit (.bool false)], args := [d] }
  | _ => none }
def EndsOrdersWrongFalsely : Prop := endsOrdersRow.holds Try.pinned (OpenSpec.ofChange endsOrdersWrong)

/-- 'coppicerlaw.EndsCommons': WHATEVER THE INPUT: true; the input reads as it did. -/
def endsCommonsSpec : ChangeSpec := { name := "endsCommons", fn := fun _ => fun
  | [d] => { results := [.lit (.bool true)], args := [d] }
  | _ => none }
def endsCommonsRow : OpenClaim := { program := "ytdcdldfleeilnaa", sum := "3b2f8e822921ee11cc292b1f7fb48ef0130b2061a880bfd817629888da9c9eb3", func := "coppicer/coppicerlaw.EndsCommons", spec := "endsCommons", inPlace := ["internal/bytealg.Compare"], unfollowed := true, recurses := true, apart := false }
def EndsCommonsSaid : Prop := endsCommonsRow.holds Try.pinned (OpenSpec.ofChange endsCommonsSpec)

/-- ITS FALSE NEIGHBOUR: 'it returns false'. Refute it at one input. -/
def endsCommonsWrong : ChangeSpec := { name := "endsCommons", fn := fun _ => fun
  | [d] => { results := [.lit (.bool false)], args := [d] }
  | _ => none }
def EndsCommonsWrongFalsely : Prop := endsCommonsRow.holds Try.pinned (OpenSpec.ofChange endsCommonsWrong)

/-- 'coppicerlaw.EndsDifferents': WHATEVER THE INPUT: true; the input reads as it did. -/
def endsDifferentsSpec : ChangeSpec := { name := "endsDifferents", fn := fun _ => fun
  | [d] => { results := [.lit (.bool true)], args := [d] }
  | _ => none }
def endsDifferentsRow : OpenClaim := { program := "ytdcdldfleeilnaa", sum := "3b2f8e822921ee11cc292b1f7fb48ef0130b2061a880bfd817629888da9c9eb3", func := "coppicer/coppicerlaw.EndsDifferents", spec := "endsDifferents", inPlace := ["internal/bytealg.Compare"], unfollowed := true, recurses := true, apart := false }
def EndsDifferentsSaid : Prop := endsDifferentsRow.holds Try.pinned (OpenSpec.ofChange endsDifferentsSpec)

/-- ITS FALSE NEIGHBOUR: 'it returns false'. Refute it at one input. -/
def endsDifferentsWrong : ChangeSpec := { name := "endsDifferents", fn := fun _ => fun
  | [d] => { results := [.lit (.bool false)], args := [d] }
  | _ => none }
def EndsDifferentsWrongFalsely : Prop := endsDifferentsRow.holds Try.pinned (OpenSpec.ofChange endsDifferentsWrong)

/-- 'coppicerlaw.ManyLongests': WHATEVER THE INPUT: true; the input reads as it did. -/
def manyLongestsSpec : ChangeSpec := { name := "manyLongests", fn := fun _ => fun
  | [d1, d2] => { results := [.lit (.bool true)], args := [d1, d2] }
  | _ => none }
def manyLongestsRow : OpenClaim := { program := "ytdcdldfleeilnaa", sum := "3b2f8e822921ee11cc292b1f7fb48ef0130b2061a880bfd817629888da9c9eb3", func := "coppicer/coppicerlaw.ManyLongests", spec := "manyLongests", unfollowed := true, recurses := true, apart := false }
def ManyLongestsSaid : Prop := manyLongestsRow.holds Try.pinned (OpenSpec.ofChange manyLongestsSpec)

/-- ITS FALSE NEIGHBOUR: 'it returns false'. Refute it at one input. -/
def manyLongestsWrong : ChangeSpec := { name := "manyLongests", fn := fun _ => fun
  | [d1, d2] => { results := [.lit (.bool false)], args := [d1, d2] }
  | _ => none }
def ManyLongestsWrongFalsely : Prop := manyLongestsRow.holds Try.pinned (OpenSpec.ofChange manyLongestsWrong)

/-- 'coppicerlaw.ManyFinds': WHATEVER THE INPUT: true; the input reads as it did. -/
def manyFindsSpec : ChangeSpec := { name := "manyFinds", fn := fun _ => fun
  | [d1, d2] => { results := [.lit (.bool true)], args := [d1, d2] }
  | _ => none }
def manyFindsRow : OpenClaim := { program := "ytdcdldfleeilnaa", sum := "3b2f8e822921ee11cc292b1f7fb48ef0130b2061a880bfd817629888da9c9eb3", func := "coppicer/coppicerlaw.ManyFinds", spec := "manyFinds", unfollowed := true, recurses := true, apart := false }
def ManyFindsSaid : Prop := manyFindsRow.holds Try.pinned (OpenSpec.ofChange manyFindsSpec)

/-- ITS FALSE NEIGHBOUR: 'it returns false'. Refute it at one input. -/
def manyFindsWrong : ChangeSpec := { name := "manyFinds", fn := fun _ => fun
  | [d1, d2] => { results := [.lit (.bool false)], args := [d1, d2] }
  | _ => none }
def ManyFindsWrongFalsely : Prop := manyFindsRow.holds Try.pinned (OpenSpec.ofChange manyFindsWrong)

/- THE SECOND FORM. 'bulk': how many values and letters a reading holds, each counted each time it is reached (what is shared counts as often as it is met; a slice's spare places count too). A statement '..UptoSaid' is the law's where the arguments, and the package variables that the reading takes, are together of bulk at most 1048576: NARROWER than '..Said'. Prove '..Said' where nothing that the law and all that it calls make is longer than what came in: it says more and counts as full. Else prove '..UptoSaid'. A law counts once. -/
mutual
def uptoBulk {H : Type} : DataW H → Nat
  | .lit (.string bytes) => bytes.length + 1
  | .lit _ => 1
  | .nil => 1
  | .ptr d => uptoBulk d + 1
  | .slice elems spare => uptoBulkAll elems + uptoBulkAll spare + 1
  | .agg parts => uptoBulkAll parts + 1
  | .iface _ d => uptoBulk d + 1
  | .map entries => uptoBulkEntries entries + 1
  | .held _ => 1
def uptoBulkAll {H : Type} : List (DataW H) → Nat
  | [] => 0
  | d :: r => uptoBulk d + uptoBulkAll r
def uptoBulkEntries {H : Type} : List (Lit × DataW H) → Nat
  | [] => 0
  | x :: r => uptoBulkEntry x + uptoBulkEntries r
def uptoBulkEntry {H : Type} : Lit × DataW H → Nat
  | (.string bytes, d) => bytes.length + uptoBulk d + 1
  | (_, d) => uptoBulk d + 1
 end
def uptoSmall : (H : Type) → List (DataW H) → Bool := fun _ ds => decide (uptoBulkAll ds ≤ 1048576)
def OpenSpec.upto (s : _root_.Go.ChangeSpec) : _root_.Go.OpenSpec := { _root_.Go.OpenSpec.ofChange s with cond := some uptoSmall }

/-- 'coppicerlaw.EndsOrders', WHERE WHAT IT READS IS OF BULK AT MOST 1048576: true; the input reads as it did. -/
def endsOrdersUptoRow : OpenClaim := { program := "ytdcdldfleeilnaa", sum := "3b2f8e822921ee11cc292b1f7fb48ef0130b2061a880bfd817629888da9c9eb3", func := "coppicer/coppicerlaw.EndsOrders", spec := "endsOrders", inPlace := ["internal/bytealg.Compare"], unfollowed := true, recurses := true, apart := false, narrowed := true }
def EndsOrdersUptoSaid : Prop := endsOrdersUptoRow.holds Try.pinned (OpenSpec.upto endsOrdersSpec)

/-- 'coppicerlaw.EndsCommons', WHERE WHAT IT READS IS OF BULK AT MOST 1048576: true; the input reads as it did. -/
def endsCommonsUptoRow : OpenClaim := { program := "ytdcdldfleeilnaa", sum := "3b2f8e822921ee11cc292b1f7fb48ef0130b2061a880bfd817629888da9c9eb3", func := "coppicer/coppicerlaw.EndsCommons", spec := "endsCommons", inPlace := ["internal/bytealg.Compare"], unfollowed := true, recurses := true, apart := false, narrowed := true }
def EndsCommonsUptoSaid : Prop := endsCommonsUptoRow.holds Try.pinned (OpenSpec.upto endsCommonsSpec)

/-- 'coppicerlaw.EndsDifferents', WHERE WHAT IT READS IS OF BULK AT MOST 1048576: true; the input reads as it did. -/
def endsDifferentsUptoRow : OpenClaim := { program := "ytdcdldfleeilnaa", sum := "3b2f8e822921ee11cc292b1f7fb48ef0130b2061a880bfd817629888da9c9eb3", func := "coppicer/coppicerlaw.EndsDifferents", spec := "endsDifferents", inPlace := ["internal/bytealg.Compare"], unfollowed := true, recurses := true, apart := false, narrowed := true }
def EndsDifferentsUptoSaid : Prop := endsDifferentsUptoRow.holds Try.pinned (OpenSpec.upto endsDifferentsSpec)

/-- 'coppicerlaw.ManyLongests', WHERE WHAT IT READS IS OF BULK AT MOST 1048576: true; the input reads as it did. -/
def manyLongestsUptoRow : OpenClaim := { program := "ytdcdldfleeilnaa", sum := "3b2f8e822921ee11cc292b1f7fb48ef0130b2061a880bfd817629888da9c9eb3", func := "coppicer/coppicerlaw.ManyLongests", spec := "manyLongests", unfollowed := true, recurses := true, apart := false, narrowed := true }
def ManyLongestsUptoSaid : Prop := manyLongestsUptoRow.holds Try.pinned (OpenSpec.upto manyLongestsSpec)

/-- 'coppicerlaw.ManyFinds', WHERE WHAT IT READS IS OF BULK AT MOST 1048576: true; the input reads as it did. -/
def manyFindsUptoRow : OpenClaim := { program := "ytdcdldfleeilnaa", sum := "3b2f8e822921ee11cc292b1f7fb48ef0130b2061a880bfd817629888da9c9eb3", func := "coppicer/coppicerlaw.ManyFinds", spec := "manyFinds", unfollowed := true, recurses := true, apart := false, narrowed := true }
def ManyFindsUptoSaid : Prop := manyFindsUptoRow.holds Try.pinned (OpenSpec.upto manyFindsSpec)

end Rows
end Go.Proofs.Ytdcdldfleeilnaa
