/-
  No cell of these rows narrows 'for every input' (looked for: loops, veiled, ifaces, maps, wideKeys, modest, calm, conditions, laid).
  DERIVED. THE GIVEN ROWS OF THIS SEAT. 6 by the template 'for every input the law returns true; each argument reads behind the call as it read before'; 0 by the template 'total and deterministic' (their statements: YtjekkbpdgnohcaaTotals.lean).
  GIVEN WITH THE SEED: the statements are not yours to turn. If you find one false, say at which input.
  Laid BY PROGRAM, IN A SANDBOX (cutbox-rows.mjs): the forced cells as the released guide's own fill.sh prints them over the translation 0daa6355fdd2e778… (all of the seat's roots in one cut). By AI agents, Wed Nov 11 2026. No macro, syntax, notation, axiom, sorry.
-/
import Derived.Test.YtjekkbpdgnohcaaChecked
import GoSem.Claim
import GoSem.ClaimJoined
import GoSem.ClaimMapViews
import Derived.JoinedTies
import Derived.KernelRfl
namespace Go.Proofs.Ytjekkbpdgnohcaa
/- THE CELL 'sum', in the pinned program and in every row, IS THE sha256 OF THE DUMP (.gsa) THAT YtjekkbpdgnohcaaProg.lean LOADS. Nothing in Lean hashes anything: it is a label: what it is worth is what the hold of that sum in a sandbox is worth. -/
noncomputable def Try.pinned : Pinned := { name := "ytjekkbpdgnohcaa", sum := "0daa6355fdd2e778f833e581cd65626f8fa5c4397b17355b54fa02af2d84c98b", checked := Try.checked }
namespace Rows
def none {H : Type} : Left H := { results := [], args := [] }

/-- 'coppicertop.TopAsks': WHATEVER THE INPUT: true; the input reads as it did. -/
def topAsksSpec : ChangeSpec := { name := "topAsks", fn := fun _ => fun
  | [d1, d2, d3] => { results := [.lit (.bool true)], args := [d1, d2, d3] }
  | _ => none }
def topAsksRow : OpenClaim := { program := "ytjekkbpdgnohcaa", sum := "0daa6355fdd2e778f833e581cd65626f8fa5c4397b17355b54fa02af2d84c98b", func := "coppicer/coppicertop.TopAsks", spec := "topAsks", unfollowed := true, recurses := true, plainKeys := false, apart := false }
def TopAsksSaid : Prop := topAsksRow.holds Try.pinned (OpenSpec.ofChange topAsksSpec)

/-- ITS FALSE NEIGHBOUR: 'it returns false'. Refute it at one input. -/
def topAsksWrong : ChangeSpec := { name := "topAsks", fn := fun _ => fun
  | [d1, d2, d3] => { results := [.lit (.bool false)], args := [d1, d2, d3] }
  | _ => none }
def TopAsksWrongFalsely : Prop := topAsksRow.holds Try.pinned (OpenSpec.ofChange topAsksWrong)

/-- 'coppicertop.TopUndo': WHATEVER THE INPUT: true; the input reads as it did. -/
def topUndoSpec : ChangeSpec := { name := "topUndo", fn := fun _ => fun
  | [d1, d2, d3, d4, d5] => { results := [.lit (.bool true)], args := [d1, d2, d3, d4, d5] }
  | _ => none }
def topUndoRow : OpenClaim := { program := "ytjekkbpdgnohcaa", sum := "0daa6355fdd2e778f833e581cd65626f8fa5c4397b17355b54fa02af2d84c98b", func := "coppicer/coppicertop.TopUndo", spec := "topUndo", unfollowed := true, recurses := true, plainKeys := false, apart := false }
def TopUndoSaid : Prop := topUndoRow.holds Try.pinned (OpenSpec.ofChange topUndoSpec)

/-- ITS FALSE NEIGHBOUR: 'it returns false'. Refute it at one input. -/
def topUndoWrong : ChangeSpec := { name := "topUndo", fn := fun _ => fun
  | [d1, d2, d3, d4, d5] => { results := [.lit (.bool false)], args := [d1, d2, d3, d4, d5] }
  | _ => none }
def TopUndoWrongFalsely : Prop := topUndoRow.holds Try.pinned (OpenSpec.ofChange topUndoWrong)

/-- 'coppicertop.TopMore': WHATEVER THE INPUT: true; the input reads as it did. -/
def topMoreSpec : ChangeSpec := { name := "topMore", fn := fun _ => fun
  | [d1, d2, d3, d4, d5] => { results := [.lit (.bool true)], args := [d1, d2, d3, d4, d5] }
  | _ => none }
def topMoreRow : OpenClaim := { program := "ytjekkbpdgnohcaa", sum := "0daa6355fdd2e778f833e581cd65626f8fa5c4397b17355b54fa02af2d84c98b", func := "coppicer/coppicertop.TopMore", spec := "topMore", unfollowed := true, recurses := true, plainKeys := false, apart := false }
def TopMoreSaid : Prop := topMoreRow.holds Try.pinned (OpenSpec.ofChange topMoreSpec)

/-- ITS FALSE NEIGHBOUR: 'it returns false'. Refute it at one input. -/
def topMoreWrong : ChangeSpec := { name := "topMore", fn := fun _ => fun
  | [d1, d2, d3, d4, d5] => { results := [.lit (.bool false)], args := [d1, d2, d3, d4, d5] }
  | _ => none }
def TopMoreWrongFalsely : Prop := topMoreRow.holds Try.pinned (OpenSpec.ofChange topMoreWrong)

/-- 'coppicerlaw.PickTells': WHATEVER THE INPUT: true; the input reads as it did. -/
def pickTellsSpec : ChangeSpec := { name := "pickTells", fn := fun _ => fun
  | [d1, d2, d3] => { results := [.lit (.bool true)], args := [d1, d2, d3] }
  | _ => none }
def pickTellsRow : OpenClaim := { program := "ytjekkbpdgnohcaa", sum := "0daa6355fdd2e778f833e581cd65626f8fa5c4397b17355b54fa02af2d84c98b", func := "coppicer/coppicerlaw.PickTells", spec := "pickTells", unfollowed := true, recurses := true, plainKeys := false, apart := false }
def PickTellsSaid : Prop := pickTellsRow.holds Try.pinned (OpenSpec.ofChange pickTellsSpec)

/-- ITS FALSE NEIGHBOUR: 'it returns false'. Refute it at one input. -/
def pickTellsWrong : ChangeSpec := { name := "pickTells", fn := fun _ => fun
  | [d1, d2, d3] => { results := [.lit (.bool false)], args := [d1, d2, d3] }
  | _ => none }
def PickTellsWrongFalsely : Prop := pickTellsRow.holds Try.pinned (OpenSpec.ofChange pickTellsWrong)

/-- 'coppicerlaw.PickPlaces': WHATEVER THE INPUT: true; the input reads as it did. -/
def pickPlacesSpec : ChangeSpec := { name := "pickPlaces", fn := fun _ => fun
  | [d1, d2, d3] => { results := [.lit (.bool true)], args := [d1, d2, d3] }
  | _ => none }
def pickPlacesRow : OpenClaim := { program := "ytjekkbpdgnohcaa", sum := "0daa6355fdd2e778f833e581cd65626f8fa5c4397b17355b54fa02af2d84c98b", func := "coppicer/coppicerlaw.PickPlaces", spec := "pickPlaces", unfollowed := true, recurses := true, plainKeys := false, apart := false }
def PickPlacesSaid : Prop := pickPlacesRow.holds Try.pinned (OpenSpec.ofChange pickPlacesSpec)

/-- ITS FALSE NEIGHBOUR: 'it returns false'. Refute it at one input. -/
def pickPlacesWrong : ChangeSpec := { name := "pickPlaces", fn := fun _ => fun
  | [d1, d2, d3] => { results := [.lit (.bool false)], args := [d1, d2, d3] }
  | _ => none }
def PickPlacesWrongFalsely : Prop := pickPlacesRow.holds Try.pinned (OpenSpec.ofChange pickPlacesWrong)

/-- 'coppicerlaw.StandPlays': WHATEVER THE INPUT: true; the input reads as it did. -/
def standPlaysSpec : ChangeSpec := { name := "standPlays", fn := fun _ => fun
  | [d1, d2, d3] => { results := [.lit (.bool true)], args := [d1, d2, d3] }
  | _ => none }
def standPlaysRow : OpenClaim := { program := "ytjekkbpdgnohcaa", sum := "0daa6355fdd2e778f833e581cd65626f8fa5c4397b17355b54fa02af2d84c98b", func := "coppicer/coppicerlaw.StandPlays", spec := "standPlays", unfollowed := true, recurses := true, plainKeys := false, apart := false }
def StandPlaysSaid : Prop := standPlaysRow.holds Try.pinned (OpenSpec.ofChange standPlaysSpec)

/-- ITS FALSE NEIGHBOUR: 'it returns false'. Refute it at one input. -/
def standPlaysWrong : ChangeSpec := { name := "standPlays", fn := fun _ => fun
  | [d1, d2, d3] => { results := [.lit (.bool false)], args := [d1, d2, d3] }
  | _ => none }
def StandPlaysWrongFalsely : Prop := standPlaysRow.holds Try.pinned (OpenSpec.ofChange standPlaysWrong)

/- THE SECOND FORM. 'bulk': how many values and letters a reading holds, each counted each time it is reached (what is shared counts as often as it is met; a slice's spare places count too). A statement '..UptoSaid' is the law's where the arguments, and the package variables that the reading takes, are together of bulk at most 1048576: NARROWER than '..Said'. Prove '..Said' where nothing that the law and all that it calls make is longer than what came in: it says more and counts as full. Else prove '..UptoSaid'. A law counts once. -/
mutual
def uptoBulk {H : Type} : DataW H → Nat
  | .lit (.string bytes) => bytes.length + 1
  | .lit _ => 1
  | .nil => 1
  | .ptr d => uptoBulk d + 1
  | .slice elems spare => uptoBulkAll elems + uptoBulkAll spare + 1
  | .agg parts => uptoBulkAll parts + 1
  | .iface _ d => uptoBulk d + 1
  | .map entries => uptoBulkEntries entries + 1
  | .held _ => 1
def uptoBulkAll {H : Type} : List (DataW H) → Nat
  | [] => 0
  | d :: r => uptoBulk d + uptoBulkAll r
def uptoBulkEntries {H : Type} : List (Lit × DataW H) → Nat
  | [] => 0
  | x :: r => uptoBulkEntry x + uptoBulkEntries r
def uptoBulkEntry {H : Type} : Lit × DataW H → Nat
  | (.string bytes, d) => bytes.length + uptoBulk d + 1
  | (_, d) => uptoBulk d + 1
 end
def uptoSmall : (H : Type) → List (DataW H) → Bool := fun _ ds => decide (uptoBulkAll ds ≤ 1048576)
def OpenSpec.upto (s : _root_.Go.ChangeSpec) : _root_.Go.OpenSpec := { _root_.Go.OpenSpec.ofChange s with cond := some uptoSmall }

/-- 'coppicertop.TopAsks', WHERE WHAT IT READS IS OF BULK AT MOST 1048576: true; the input reads as it did. -/
def topAsksUptoRow : OpenClaim := { program := "ytjekkbpdgnohcaa", sum := "0daa6355fdd2e778f833e581cd65626f8fa5c4397b17355b54fa02af2d84c98b", func := "coppicer/coppicertop.TopAsks", spec := "topAsks", unfollowed := true, recurses := true, plainKeys := false, apart := false, narrowed := true }
def TopAsksUptoSaid : Prop := topAsksUptoRow.holds Try.pinned (OpenSpec.upto topAsksSpec)

/-- 'coppicertop.TopUndo', WHERE WHAT IT READS IS OF BULK AT MOST 1048576: true; the input reads as it did. -/
def topUndoUptoRow : OpenClaim := { program := "ytjekkbpdgnohcaa", sum := "0daa6355fdd2e778f833e581cd65626f8fa5c4397b17355b54fa02af2d84c98b", func := "coppicer/coppicertop.TopUndo", spec := "topUndo", unfollowed := true, recurses := true, plainKeys := false, apart := false, narrowed := true }
def TopUndoUptoSaid : Prop := topUndoUptoRow.holds Try.pinned (OpenSpec.upto topUndoSpec)

/-- 'coppicertop.TopMore', WHERE WHAT IT READS IS OF BULK AT MOST 1048576: true; the input reads as it did. -/
def topMoreUptoRow : OpenClaim := { program := "ytjekkbpdgnohcaa", sum := "0daa6355fdd2e778f833e581cd65626f8fa5c4397b17355b54fa02af2d84c98b", func := "coppicer/coppicertop.TopMore", spec := "topMore", unfollowed := true, recurses := true, plainKeys := false, apart := false, narrowed := true }
def TopMoreUptoSaid : Prop := topMoreUptoRow.holds Try.pinned (OpenSpec.upto topMoreSpec)

/-- 'coppicerlaw.PickTells', WHERE WHAT IT READS IS OF BULK AT MOST 1048576: true; the input reads as it did. -/
def pickTellsUptoRow : OpenClaim := { program := "ytjekkbpdgnohcaa", sum := "0daa6355fdd2e778f833e581cd65626f8fa5c4397b17355b54fa02af2d84c98b", func := "coppicer/coppicerlaw.PickTells", spec := "pickTells", unfollowed := true, recurses := true, plainKeys := false, apart := false, narrowed := true }
def PickTellsUptoSaid : Prop := pickTellsUptoRow.holds Try.pinned (OpenSpec.upto pickTellsSpec)

/-- 'coppicerlaw.PickPlaces', WHERE WHAT IT READS IS OF BULK AT MOST 1048576: true; the input reads as it did. -/
def pickPlacesUptoRow : OpenClaim := { program := "ytjekkbpdgnohcaa", sum := "0daa6355fdd2e778f833e581cd65626f8fa5c4397b17355b54fa02af2d84c98b", func := "coppicer/coppicerlaw.PickPlaces", spec := "pickPlaces", unfollowed := true, recurses := true, plainKeys := false, apart := false, narrowed := true }
def PickPlacesUptoSaid : Prop := pickPlacesUptoRow.holds Try.pinned (OpenSpec.upto pickPlacesSpec)

/-- 'coppicerlaw.StandPlays', WHERE WHAT IT READS IS OF BULK AT MOST 1048576: true; the input reads as it did. -/
def standPlaysUptoRow : OpenClaim := { program := "ytjekkbpdgnohcaa", sum := "0daa6355fdd2e778f833e581cd65626f8fa5c4397b17355b54fa02af2d84c98b", func := "coppicer/coppicerlaw.StandPlays", spec := "standPlays", unfollowed := true, recurses := true, plainKeys := false, apart := false, narrowed := true }
def StandPlaysUptoSaid : Prop := standPlaysUptoRow.holds Try.pinned (OpenSpec.upto standPlaysSpec)

end Rows
end Go.Proofs.Ytjekkbpdgnohcaa
