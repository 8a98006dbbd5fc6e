/-
  No cell of these rows narrows 'for every input' (looked for: loops, veiled, ifaces, maps, wideKeys, modest, calm, conditions, laid).
  DERIVED. THE GIVEN ROWS OF THIS SEAT. 6 by the template 'for every input the law returns true; each argument reads behind the call as it read before'; 0 by the template 'total and deterministic' (their statements: YtllkafockafdcaaTotals.lean).
  GIVEN WITH THE SEED: the statements are not yours to turn. If you find one false, say at which input.
  Laid BY PROGRAM, IN A SANDBOX (cutbox-rows.mjs): the forced cells as the released guide's own fill.sh prints them over the translation 125588ecb0ca3654… (all of the seat's roots in one cut). By AI agents, Wed Nov 11 2026. No macro, syntax, notation, axiom, sorry.
-/
import Derived.Test.YtllkafockafdcaaChecked
import GoSem.Claim
import GoSem.ClaimJoined
import GoSem.ClaimMapViews
import Derived.JoinedTies
import Derived.KernelRfl
namespace Go.Proofs.Ytllkafockafdcaa
/- THE CELL 'sum', in the pinned program and in every row, IS THE sha256 OF THE DUMP (.gsa) THAT YtllkafockafdcaaProg.lean LOADS. Nothing in Lean hashes anything: it is a label: what it is worth is what the hold of that sum in a sandbox is worth. -/
noncomputable def Try.pinned : Pinned := { name := "ytllkafockafdcaa", sum := "125588ecb0ca3654fe0fb4cd46b036d0ca63355c3447fec9abf2462fa73058ab", checked := Try.checked }
namespace Rows
def none {H : Type} : Left H := { results := [], args := [] }

/-- 'coppicerlaw.BracketPairs': WHATEVER THE INPUT: true; the input reads as it did. -/
def bracketPairsSpec : ChangeSpec := { name := "bracketPairs", fn := fun _ => fun
  | [d] => { results := [.lit (.bool true)], args := [d] }
  | _ => none }
def bracketPairsRow : OpenClaim := { program := "ytllkafockafdcaa", sum := "125588ecb0ca3654fe0fb4cd46b036d0ca63355c3447fec9abf2462fa73058ab", func := "coppicer/coppicerlaw.BracketPairs", spec := "bracketPairs", apart := false }
def BracketPairsSaid : Prop := bracketPairsRow.holds Try.pinned (OpenSpec.ofChange bracketPairsSpec)

/-- ITS FALSE NEIGHBOUR: 'it returns false'. Refute it at one input. -/
def bracketPairsWrong : ChangeSpec := { name := "bracketPairs", fn := fun _ => fun
  | [d] => { results := [.lit (.bool false)], args := [d] }
  | _ => none }
def BracketPairsWrongFalsely : Prop := bracketPairsRow.holds Try.pinned (OpenSpec.ofChange bracketPairsWrong)

/-- 'coppicerlaw.BracketWords': WHATEVER THE INPUT: true; the input reads as it did. -/
def bracketWordsSpec : ChangeSpec := { name := "bracketWords", fn := fun _ => fun
  | [d1, d2] => { results := [.lit (.bool true)], args := [d1, d2] }
  | _ => none }
def bracketWordsRow : OpenClaim := { program := "ytllkafockafdcaa", sum := "125588ecb0ca3654fe0fb4cd46b036d0ca63355c3447fec9abf2462fa73058ab", func := "coppicer/coppicerlaw.BracketWords", spec := "bracketWords", recurses := true, apart := false }
def BracketWordsSaid : Prop := bracketWordsRow.holds Try.pinned (OpenSpec.ofChange bracketWordsSpec)

/-- ITS FALSE NEIGHBOUR: 'it returns false'. Refute it at one input. -/
def bracketWordsWrong : ChangeSpec := { name := "bracketWords", fn := fun _ => fun
  | [d1, d2] => { results := [.lit (.bool false)], args := [d1, d2] }
  | _ => none }
def BracketWordsWrongFalsely : Prop := bracketWordsRow.holds Try.pinned (OpenSpec.ofChange bracketWordsWrong)

/-- 'coppicerlaw.BracketRanks': WHATEVER THE INPUT: true; the input reads as it did. -/
def bracketRanksSpec : ChangeSpec := { name := "bracketRanks", fn := fun _ => fun
  | [d] => { results := [.lit (.bool true)], args := [d] }
  | _ => none }
def bracketRanksRow : OpenClaim := { program := "ytllkafockafdcaa", sum := "125588ecb0ca3654fe0fb4cd46b036d0ca63355c3447fec9abf2462fa73058ab", func := "coppicer/coppicerlaw.BracketRanks", spec := "bracketRanks", recurses := true, apart := false }
def BracketRanksSaid : Prop := bracketRanksRow.holds Try.pinned (OpenSpec.ofChange bracketRanksSpec)

/-- ITS FALSE NEIGHBOUR: 'it returns false'. Refute it at one input. -/
def bracketRanksWrong : ChangeSpec := { name := "bracketRanks", fn := fun _ => fun
  | [d] => { results := [.lit (.bool false)], args := [d] }
  | _ => none }
def BracketRanksWrongFalsely : Prop := bracketRanksRow.holds Try.pinned (OpenSpec.ofChange bracketRanksWrong)

/-- 'coppicerlaw.BracketTurns': WHATEVER THE INPUT: true; the input reads as it did. -/
def bracketTurnsSpec : ChangeSpec := { name := "bracketTurns", fn := fun _ => fun
  | [d] => { results := [.lit (.bool true)], args := [d] }
  | _ => none }
def bracketTurnsRow : OpenClaim := { program := "ytllkafockafdcaa", sum := "125588ecb0ca3654fe0fb4cd46b036d0ca63355c3447fec9abf2462fa73058ab", func := "coppicer/coppicerlaw.BracketTurns", spec := "bracketTurns", apart := false }
def BracketTurnsSaid : Prop := bracketTurnsRow.holds Try.pinned (OpenSpec.ofChange bracketTurnsSpec)

/-- ITS FALSE NEIGHBOUR: 'it returns false'. Refute it at one input. -/
def bracketTurnsWrong : ChangeSpec := { name := "bracketTurns", fn := fun _ => fun
  | [d] => { results := [.lit (.bool false)], args := [d] }
  | _ => none }
def BracketTurnsWrongFalsely : Prop := bracketTurnsRow.holds Try.pinned (OpenSpec.ofChange bracketTurnsWrong)

/-- 'coppicerlaw.ClimbReads': WHATEVER THE INPUT: true; the input reads as it did. -/
def climbReadsSpec : ChangeSpec := { name := "climbReads", fn := fun _ => fun
  | [d1, d2] => { results := [.lit (.bool true)], args := [d1, d2] }
  | _ => none }
def climbReadsRow : OpenClaim := { program := "ytllkafockafdcaa", sum := "125588ecb0ca3654fe0fb4cd46b036d0ca63355c3447fec9abf2462fa73058ab", func := "coppicer/coppicerlaw.ClimbReads", spec := "climbReads", unfollowed := true, recurses := true, apart := false }
def ClimbReadsSaid : Prop := climbReadsRow.holds Try.pinned (OpenSpec.ofChange climbReadsSpec)

/-- ITS FALSE NEIGHBOUR: 'it returns false'. Refute it at one input. -/
def climbReadsWrong : ChangeSpec := { name := "climbReads", fn := fun _ => fun
  | [d1, d2] => { results := [.lit (.bool false)], args := [d1, d2] }
  | _ => none }
def ClimbReadsWrongFalsely : Prop := climbReadsRow.holds Try.pinned (OpenSpec.ofChange climbReadsWrong)

/-- 'coppicerlaw.ClimbShows': WHATEVER THE INPUT: true; the input reads as it did. -/
def climbShowsSpec : ChangeSpec := { name := "climbShows", fn := fun _ => fun
  | [d1, d2] => { results := [.lit (.bool true)], args := [d1, d2] }
  | _ => none }
def climbShowsRow : OpenClaim := { program := "ytllkafockafdcaa", sum := "125588ecb0ca3654fe0fb4cd46b036d0ca63355c3447fec9abf2462fa73058ab", func := "coppicer/coppicerlaw.ClimbShows", spec := "climbShows", unfollowed := true, recurses := true, apart := false }
def ClimbShowsSaid : Prop := climbShowsRow.holds Try.pinned (OpenSpec.ofChange climbShowsSpec)

/-- ITS FALSE NEIGHBOUR: 'it returns false'. Refute it at one input. -/
def climbShowsWrong : ChangeSpec := { name := "climbShows", fn := fun _ => fun
  | [d1, d2] => { results := [.lit (.bool false)], args := [d1, d2] }
  | _ => none }
def ClimbShowsWrongFalsely : Prop := climbShowsRow.holds Try.pinned (OpenSpec.ofChange climbShowsWrong)

/- THE SECOND FORM. 'bulk': how many values and letters a reading holds, each counted each time it is reached (what is shared counts as often as it is met; a slice's spare places count too). A statement '..UptoSaid' is the law's where the arguments, and the package variables that the reading takes, are together of bulk at most 1048576: NARROWER than '..Said'. Prove '..Said' where nothing that the law and all that it calls make is longer than what came in: it says more and counts as full. Else prove '..UptoSaid'. A law counts once. -/
mutual
def uptoBulk {H : Type} : DataW H → Nat
  | .lit (.string bytes) => bytes.length + 1
  | .lit _ => 1
  | .nil => 1
  | .ptr d => uptoBulk d + 1
  | .slice elems spare => uptoBulkAll elems + uptoBulkAll spare + 1
  | .agg parts => uptoBulkAll parts + 1
  | .iface _ d => uptoBulk d + 1
  | .map entries => uptoBulkEntries entries + 1
  | .held _ => 1
def uptoBulkAll {H : Type} : List (DataW H) → Nat
  | [] => 0
  | d :: r => uptoBulk d + uptoBulkAll r
def uptoBulkEntries {H : Type} : List (Lit × DataW H) → Nat
  | [] => 0
  | x :: r => uptoBulkEntry x + uptoBulkEntries r
def uptoBulkEntry {H : Type} : Lit × DataW H → Nat
  | (.string bytes, d) => bytes.length + uptoBulk d + 1
  | (_, d) => uptoBulk d + 1
 end
def uptoSmall : (H : Type) → List (DataW H) → Bool := fun _ ds => decide (uptoBulkAll ds ≤ 1048576)
def OpenSpec.upto (s : _root_.Go.ChangeSpec) : _root_.Go.OpenSpec := { _root_.Go.OpenSpec.ofChange s with cond := some uptoSmall }

/-- 'coppicerlaw.BracketPairs', WHERE WHAT IT READS IS OF BULK AT MOST 1048576: true; the input reads as it did. -/
def bracketPairsUptoRow : OpenClaim := { program := "ytllkafockafdcaa", sum := "125588ecb0ca3654fe0fb4cd46b036d0ca63355c3447fec9abf2462fa73058ab", func := "coppicer/coppicerlaw.BracketPairs", spec := "bracketPairs", apart := false, narrowed := true }
def BracketPairsUptoSaid : Prop := bracketPairsUptoRow.holds Try.pinned (OpenSpec.upto bracketPairsSpec)

/-- 'coppicerlaw.BracketWords', WHERE WHAT IT READS IS OF BULK AT MOST 1048576: true; the input reads as it did. -/
def bracketWordsUptoRow : OpenClaim := { program := "ytllkafockafdcaa", sum := "125588ecb0ca3654fe0fb4cd46b036d0ca63355c3447fec9abf2462fa73058ab", func := "coppicer/coppicerlaw.BracketWords", spec := "bracketWords", recurses := true, apart := false, narrowed := true }
def BracketWordsUptoSaid : Prop := bracketWordsUptoRow.holds Try.pinned (OpenSpec.upto bracketWordsSpec)

/-- 'coppicerlaw.BracketRanks', WHERE WHAT IT READS IS OF BULK AT MOST 1048576: true; the input reads as it did. -/
def bracketRanksUptoRow : OpenClaim := { program := "ytllkafockafdcaa", sum := "125588ecb0ca3654fe0fb4cd46b036d0ca63355c3447fec9abf2462fa73058ab", func := "coppicer/coppicerlaw.BracketRanks", spec := "bracketRanks", recurses := true, apart := false, narrowed := true }
def BracketRanksUptoSaid : Prop := bracketRanksUptoRow.holds Try.pinned (OpenSpec.upto bracketRanksSpec)

/-- 'coppicerlaw.BracketTurns', WHERE WHAT IT READS IS OF BULK AT MOST 1048576: true; the input reads as it did. -/
def bracketTurnsUptoRow : OpenClaim := { program := "ytllkafockafdcaa", sum := "125588ecb0ca3654fe0fb4cd46b036d0ca63355c3447fec9abf2462fa73058ab", func := "coppicer/coppicerlaw.BracketTurns", spec := "bracketTurns", apart := false, narrowed := true }
def BracketTurnsUptoSaid : Prop := bracketTurnsUptoRow.holds Try.pinned (OpenSpec.upto bracketTurnsSpec)

/-- 'coppicerlaw.ClimbReads', WHERE WHAT IT READS IS OF BULK AT MOST 1048576: true; the input reads as it did. -/
def climbReadsUptoRow : OpenClaim := { program := "ytllkafockafdcaa", sum := "125588ecb0ca3654fe0fb4cd46b036d0ca63355c3447fec9abf2462fa73058ab", func := "coppicer/coppicerlaw.ClimbReads", spec := "climbReads", unfollowed := true, recurses := true, apart := false, narrowed := true }
def ClimbReadsUptoSaid : Prop := climbReadsUptoRow.holds Try.pinned (OpenSpec.upto climbReadsSpec)

/-- 'coppicerlaw.ClimbShows', WHERE WHAT IT READS IS OF BULK AT MOST 1048576: true; the input reads as it did. -/
def climbShowsUptoRow : OpenClaim := { program := "ytllkafockafdcaa", sum := "125588ecb0ca3654fe0fb4cd46b036d0ca63355c3447fec9abf2462fa73058ab", func := "coppicer/coppicerlaw.ClimbShows", spec := "climbShows", unfollowed := true, recurses := true, apart := false, narrowed := true }
def ClimbShowsUptoSaid : Prop := climbShowsUptoRow.holds Try.pinned (OpenSpec.upto climbShowsSpec)

end Rows
end Go.Proofs.Ytllkafockafdcaa
