/-
  No cell of these rows narrows 'for every input' (looked for: loops, veiled, ifaces, maps, wideKeys, modest, calm, conditions, laid).
  DERIVED. THE GIVEN ROWS OF THIS SEAT. 6 by the template 'for every input the law returns true; each argument reads behind the call as it read before'; 0 by the template 'total and deterministic' (their statements: YtplkkacfjepgpaaTotals.lean).
  GIVEN WITH THE SEED: the statements are not yours to turn. If you find one false, say at which input.
  Laid BY PROGRAM, IN A SANDBOX (cutbox-rows.mjs): the forced cells as the released guide's own fill.sh prints them over the translation 6723b85895afcec7… (all of the seat's roots in one cut). By AI agents, Wed Nov 11 2026. No macro, syntax, notation, axiom, sorry.
-/
import Derived.Test.YtplkkacfjepgpaaChecked
import GoSem.Claim
import GoSem.ClaimJoined
import GoSem.ClaimMapViews
import Derived.JoinedTies
import Derived.KernelRfl
namespace Go.Proofs.Ytplkkacfjepgpaa
/- THE CELL 'sum', in the pinned program and in every row, IS THE sha256 OF THE DUMP (.gsa) THAT YtplkkacfjepgpaaProg.lean LOADS. Nothing in Lean hashes anything: it is a label: what it is worth is what the hold of that sum in a sandbox is worth. -/
noncomputable def Try.pinned : Pinned := { name := "ytplkkacfjepgpaa", sum := "6723b85895afcec7b33c8f8cf0000076c633273497fdb78d1e9a7cb41ee89c04", checked := Try.checked }
namespace Rows
def none {H : Type} : Left H := { results := [], args := [] }

/-- 'coppicerlaw.ItemsNexts': WHATEVER THE INPUT: true; the input reads as it did. -/
def itemsNextsSpec : ChangeSpec := { name := "itemsNexts", fn := fun _ => fun
  | [d1, d2] => { results := [.lit (.bool true)], args := [d1, d2] }
  | _ => none }
def itemsNextsRow : OpenClaim := { program := "ytplkkacfjepgpaa", sum := "6723b85895afcec7b33c8f8cf0000076c633273497fdb78d1e9a7cb41ee89c04", func := "coppicer/coppicerlaw.ItemsNexts", spec := "itemsNexts", unfollowed := true, recurses := true, plainKeys := false, apart := false }
def ItemsNextsSaid : Prop := itemsNextsRow.holds Try.pinned (OpenSpec.ofChange itemsNextsSpec)

/-- ITS FALSE NEIGHBOUR: 'it returns false'. Refute it at one input. -/
def itemsNextsWrong : ChangeSpec := { name := "itemsNexts", fn := fun _ => fun
  | [d1, d2] => { results := [.lit (.bool false)], args := [d1, d2] }
  | _ => none }
def ItemsNextsWrongFalsely : Prop := itemsNextsRow.holds Try.pinned (OpenSpec.ofChange itemsNextsWrong)

/-- 'coppicerlaw.AheadFirsts': WHATEVER THE INPUT: true; the input reads as it did. -/
def aheadFirstsSpec : ChangeSpec := { name := "aheadFirsts", fn := fun _ => fun
  | [d] => { results := [.lit (.bool true)], args := [d] }
  | _ => none }
def aheadFirstsRow : OpenClaim := { program := "ytplkkacfjepgpaa", sum := "6723b85895afcec7b33c8f8cf0000076c633273497fdb78d1e9a7cb41ee89c04", func := "coppicer/coppicerlaw.AheadFirsts", spec := "aheadFirsts", unfollowed := true, recurses := true, plainKeys := false, apart := false }
def AheadFirstsSaid : Prop := aheadFirstsRow.holds Try.pinned (OpenSpec.ofChange aheadFirstsSpec)

/-- ITS FALSE NEIGHBOUR: 'it returns false'. Refute it at one input. -/
def aheadFirstsWrong : ChangeSpec := { name := "aheadFirsts", fn := fun _ => fun
  | [d] => { results := [.lit (.bool false)], args := [d] }
  | _ => none }
def AheadFirstsWrongFalsely : Prop := aheadFirstsRow.holds Try.pinned (OpenSpec.ofChange aheadFirstsWrong)

/-- 'coppicerlaw.AheadFollows': WHATEVER THE INPUT: true; the input reads as it did. -/
def aheadFollowsSpec : ChangeSpec := { name := "aheadFollows", fn := fun _ => fun
  | [d] => { results := [.lit (.bool true)], args := [d] }
  | _ => none }
def aheadFollowsRow : OpenClaim := { program := "ytplkkacfjepgpaa", sum := "6723b85895afcec7b33c8f8cf0000076c633273497fdb78d1e9a7cb41ee89c04", func := "coppicer/coppicerlaw.AheadFollows", spec := "aheadFollows", unfollowed := true, recurses := true, plainKeys := false, apart := false }
def AheadFollowsSaid : Prop := aheadFollowsRow.holds Try.pinned (OpenSpec.ofChange aheadFollowsSpec)

/-- ITS FALSE NEIGHBOUR: 'it returns false'. Refute it at one input. -/
def aheadFollowsWrong : ChangeSpec := { name := "aheadFollows", fn := fun _ => fun
  | [d] => { results := [.lit (.bool false)], args := [d] }
  | _ => none }
def AheadFollowsWrongFalsely : Prop := aheadFollowsRow.holds Try.pinned (OpenSpec.ofChange aheadFollowsWrong)

/-- 'coppicerlaw.AheadClears': WHATEVER THE INPUT: true; the input reads as it did. -/
def aheadClearsSpec : ChangeSpec := { name := "aheadClears", fn := fun _ => fun
  | [d] => { results := [.lit (.bool true)], args := [d] }
  | _ => none }
def aheadClearsRow : OpenClaim := { program := "ytplkkacfjepgpaa", sum := "6723b85895afcec7b33c8f8cf0000076c633273497fdb78d1e9a7cb41ee89c04", func := "coppicer/coppicerlaw.AheadClears", spec := "aheadClears", unfollowed := true, recurses := true, plainKeys := false, apart := false }
def AheadClearsSaid : Prop := aheadClearsRow.holds Try.pinned (OpenSpec.ofChange aheadClearsSpec)

/-- ITS FALSE NEIGHBOUR: 'it returns false'. Refute it at one input. -/
def aheadClearsWrong : ChangeSpec := { name := "aheadClears", fn := fun _ => fun
  | [d] => { results := [.lit (.bool false)], args := [d] }
  | _ => none }
def AheadClearsWrongFalsely : Prop := aheadClearsRow.holds Try.pinned (OpenSpec.ofChange aheadClearsWrong)

/-- 'coppicerlaw.AheadParses': WHATEVER THE INPUT: true; the input reads as it did. -/
def aheadParsesSpec : ChangeSpec := { name := "aheadParses", fn := fun _ => fun
  | [d1, d2] => { results := [.lit (.bool true)], args := [d1, d2] }
  | _ => none }
def aheadParsesRow : OpenClaim := { program := "ytplkkacfjepgpaa", sum := "6723b85895afcec7b33c8f8cf0000076c633273497fdb78d1e9a7cb41ee89c04", func := "coppicer/coppicerlaw.AheadParses", spec := "aheadParses", unfollowed := true, recurses := true, plainKeys := false, apart := false }
def AheadParsesSaid : Prop := aheadParsesRow.holds Try.pinned (OpenSpec.ofChange aheadParsesSpec)

/-- ITS FALSE NEIGHBOUR: 'it returns false'. Refute it at one input. -/
def aheadParsesWrong : ChangeSpec := { name := "aheadParses", fn := fun _ => fun
  | [d1, d2] => { results := [.lit (.bool false)], args := [d1, d2] }
  | _ => none }
def AheadParsesWrongFalsely : Prop := aheadParsesRow.holds Try.pinned (OpenSpec.ofChange aheadParsesWrong)

/-- 'coppicerlaw.PlainTells': WHATEVER THE INPUT: true; the input reads as it did. -/
def plainTellsSpec : ChangeSpec := { name := "plainTells", fn := fun _ => fun
  | [d1, d2] => { results := [.lit (.bool true)], args := [d1, d2] }
  | _ => none }
def plainTellsRow : OpenClaim := { program := "ytplkkacfjepgpaa", sum := "6723b85895afcec7b33c8f8cf0000076c633273497fdb78d1e9a7cb41ee89c04", func := "coppicer/coppicerlaw.PlainTells", spec := "plainTells", unfollowed := true, recurses := true, plainKeys := false, apart := false }
def PlainTellsSaid : Prop := plainTellsRow.holds Try.pinned (OpenSpec.ofChange plainTellsSpec)

/-- ITS FALSE NEIGHBOUR: 'it returns false'. Refute it at one input. -/
def plainTellsWrong : ChangeSpec := { name := "plainTells", fn := fun _ => fun
  | [d1, d2] => { results := [.lit (.bool false)], args := [d1, d2] }
  | _ => none }
def PlainTellsWrongFalsely : Prop := plainTellsRow.holds Try.pinned (OpenSpec.ofChange plainTellsWrong)

/- THE SECOND FORM. 'bulk': how many values and letters a reading holds, each counted each time it is reached (what is shared counts as often as it is met; a slice's spare places count too). A statement '..UptoSaid' is the law's where the arguments, and the package variables that the reading takes, are together of bulk at most 1048576: NARROWER than '..Said'. Prove '..Said' where nothing that the law and all that it calls make is longer than what came in: it says more and counts as full. Else prove '..UptoSaid'. A law counts once. -/
mutual
def uptoBulk {H : Type} : DataW H → Nat
  | .lit (.string bytes) => bytes.length + 1
  | .lit _ => 1
  | .nil => 1
  | .ptr d => uptoBulk d + 1
  | .slice elems spare => uptoBulkAll elems + uptoBulkAll spare + 1
  | .agg parts => uptoBulkAll parts + 1
  | .iface _ d => uptoBulk d + 1
  | .map entries => uptoBulkEntries entries + 1
  | .held _ => 1
def uptoBulkAll {H : Type} : List (DataW H) → Nat
  | [] => 0
  | d :: r => uptoBulk d + uptoBulkAll r
def uptoBulkEntries {H : Type} : List (Lit × DataW H) → Nat
  | [] => 0
  | x :: r => uptoBulkEntry x + uptoBulkEntries r
def uptoBulkEntry {H : Type} : Lit × DataW H → Nat
  | (.string bytes, d) => bytes.length + uptoBulk d + 1
  | (_, d) => uptoBulk d + 1
 end
def uptoSmall : (H : Type) → List (DataW H) → Bool := fun _ ds => decide (uptoBulkAll ds ≤ 1048576)
def OpenSpec.upto (s : _root_.Go.ChangeSpec) : _root_.Go.OpenSpec := { _root_.Go.OpenSpec.ofChange s with cond := some uptoSmall }

/-- 'coppicerlaw.ItemsNexts', WHERE WHAT IT READS IS OF BULK AT MOST 1048576: true; the input reads as it did. -/
def itemsNextsUptoRow : OpenClaim := { program := "ytplkkacfjepgpaa", sum := "6723b85895afcec7b33c8f8cf0000076c633273497fdb78d1e9a7cb41ee89c04", func := "coppicer/coppicerlaw.ItemsNexts", spec := "itemsNexts", unfollowed := true, recurses := true, plainKeys := false, apart := false, narrowed := true }
def ItemsNextsUptoSaid : Prop := itemsNextsUptoRow.holds Try.pinned (OpenSpec.upto itemsNextsSpec)

/-- 'coppicerlaw.AheadFirsts', WHERE WHAT IT READS IS OF BULK AT MOST 1048576: true; the input reads as it did. -/
def aheadFirstsUptoRow : OpenClaim := { program := "ytplkkacfjepgpaa", sum := "6723b85895afcec7b33c8f8cf0000076c633273497fdb78d1e9a7cb41ee89c04", func := "coppicer/coppicerlaw.AheadFirsts", spec := "aheadFirsts", unfollowed := true, recurses := true, plainKeys := false, apart := false, narrowed := true }
def AheadFirstsUptoSaid : Prop := aheadFirstsUptoRow.holds Try.pinned (OpenSpec.upto aheadFirstsSpec)

/-- 'coppicerlaw.AheadFollows', WHERE WHAT IT READS IS OF BULK AT MOST 1048576: true; the input reads as it did. -/
def aheadFollowsUptoRow : OpenClaim := { program := "ytplkkacfjepgpaa", sum := "6723b85895afcec7b33c8f8cf0000076c633273497fdb78d1e9a7cb41ee89c04", func := "coppicer/coppicerlaw.AheadFollows", spec := "aheadFollows", unfollowed := true, recurses := true, plainKeys := false, apart := false, narrowed := true }
def AheadFollowsUptoSaid : Prop := aheadFollowsUptoRow.holds Try.pinned (OpenSpec.upto aheadFollowsSpec)

/-- 'coppicerlaw.AheadClears', WHERE WHAT IT READS IS OF BULK AT MOST 1048576: true; the input reads as it did. -/
def aheadClearsUptoRow : OpenClaim := { program := "ytplkkacfjepgpaa", sum := "6723b85895afcec7b33c8f8cf0000076c633273497fdb78d1e9a7cb41ee89c04", func := "coppicer/coppicerlaw.AheadClears", spec := "aheadClears", unfollowed := true, recurses := true, plainKeys := false, apart := false, narrowed := true }
def AheadClearsUptoSaid : Prop := aheadClearsUptoRow.holds Try.pinned (OpenSpec.upto aheadClearsSpec)

/-- 'coppicerlaw.AheadParses', WHERE WHAT IT READS IS OF BULK AT MOST 1048576: true; the input reads as it did. -/
def aheadParsesUptoRow : OpenClaim := { program := "ytplkkacfjepgpaa", sum := "6723b85895afcec7b33c8f8cf0000076c633273497fdb78d1e9a7cb41ee89c04", func := "coppicer/coppicerlaw.AheadParses", spec := "aheadParses", unfollowed := true, recurses := true, plainKeys := false, apart := false, narrowed := true }
def AheadParsesUptoSaid : Prop := aheadParsesUptoRow.holds Try.pinned (OpenSpec.upto aheadParsesSpec)

/-- 'coppicerlaw.PlainTells', WHERE WHAT IT READS IS OF BULK AT MOST 1048576: true; the input reads as it did. -/
def plainTellsUptoRow : OpenClaim := { program := "ytplkkacfjepgpaa", sum := "6723b85895afcec7b33c8f8cf0000076c633273497fdb78d1e9a7cb41ee89c04", func := "coppicer/coppicerlaw.PlainTells", spec := "plainTells", unfollowed := true, recurses := true, plainKeys := false, apart := false, narrowed := true }
def PlainTellsUptoSaid : Prop := plainTellsUptoRow.holds Try.pinned (OpenSpec.upto plainTellsSpec)

end Rows
end Go.Proofs.Ytplkkacfjepgpaa
