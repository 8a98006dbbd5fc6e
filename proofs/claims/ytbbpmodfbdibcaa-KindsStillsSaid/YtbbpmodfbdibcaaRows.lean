/-
  No cell of these rows narrows 'for every input' (looked for: loops, veiled, ifaces, maps, wideKeys, modest, calm, conditions, laid).
  DERIVED. THE GIVEN ROWS OF THIS SEAT. 9 by the template 'for every input the law returns true; each argument reads behind the call as it read before'; 0 by the template 'total and deterministic' (their statements: YtbbpmodfbdibcaaTotals.lean).
  GIVEN WITH THE SEED: the statements are not yours to turn. If you find one false, say at which input.
  Laid BY PROGRAM, IN A SANDBOX (cutbox-rows.mjs): the forced cells as the released guide's own fill.sh prints them over the translation 8cbc94221bb666f0… (all of the seat's roots in one cut). By AI agents, Wed Nov 11 2026. No macro, syntax, notation, axiom, sorry.
-/
import Derived.Test.YtbbpmodfbdibcaaChecked
import GoSem.Claim
import GoSem.ClaimJoined
import GoSem.ClaimMapViews
import Derived.JoinedTies
import Derived.KernelRfl
namespace Go.Proofs.Ytbbpmodfbdibcaa
/- THE CELL 'sum', in the pinned program and in every row, IS THE sha256 OF THE DUMP (.gsa) THAT YtbbpmodfbdibcaaProg.lean LOADS. Nothing in Lean hashes anything: it is a label: what it is worth is what the hold of that sum in a sandbox is worth. -/
noncomputable def Try.pinned : Pinned := { name := "ytbbpmodfbdibcaa", sum := "8cbc94221bb666f0f9e97783e79038b90ee2d5d8d6c7ed909fadec98b2081dac", checked := Try.checked }
namespace Rows
def none {H : Type} : Left H := { results := [], args := [] }

/-- 'coppicerlaw.NetSures': WHATEVER THE INPUT: true; the input reads as it did. -/
def netSuresSpec : ChangeSpec := { name := "netSures", fn := fun _ => fun
  | [d] => { results := [.lit (.bool true)], args := [d] }
  | _ => none }
def netSuresRow : OpenClaim := { program := "ytbbpmodfbdibcaa", sum := "8cbc94221bb666f0f9e97783e79038b90ee2d5d8d6c7ed909fadec98b2081dac", func := "coppicer/coppicerlaw.NetSures", spec := "netSures", unfollowed := true, recurses := true, plainKeys := false, apart := false }
def NetSuresSaid : Prop := netSuresRow.holds Try.pinned (OpenSpec.ofChange netSuresSpec)

/-- ITS FALSE NEIGHBOUR: 'it returns false'. Refute it at one input. -/
def netSuresWrong : ChangeSpec := { name := "netSures", fn := fun _ => fun
  | [d] => { results := [.lit (.bool false)], args := [d] }
  | _ => none }
def NetSuresWrongFalsely : Prop := netSuresRow.holds Try.pinned (OpenSpec.ofChange netSuresWrong)

/-- 'coppicerlaw.NetRuns': WHATEVER THE INPUT: true; the input reads as it did. -/
def netRunsSpec : ChangeSpec := { name := "netRuns", fn := fun _ => fun
  | [d1, d2] => { results := [.lit (.bool true)], args := [d1, d2] }
  | _ => none }
def netRunsRow : OpenClaim := { program := "ytbbpmodfbdibcaa", sum := "8cbc94221bb666f0f9e97783e79038b90ee2d5d8d6c7ed909fadec98b2081dac", func := "coppicer/coppicerlaw.NetRuns", spec := "netRuns", unfollowed := true, recurses := true, plainKeys := false, apart := false }
def NetRunsSaid : Prop := netRunsRow.holds Try.pinned (OpenSpec.ofChange netRunsSpec)

/-- ITS FALSE NEIGHBOUR: 'it returns false'. Refute it at one input. -/
def netRunsWrong : ChangeSpec := { name := "netRuns", fn := fun _ => fun
  | [d1, d2] => { results := [.lit (.bool false)], args := [d1, d2] }
  | _ => none }
def NetRunsWrongFalsely : Prop := netRunsRow.holds Try.pinned (OpenSpec.ofChange netRunsWrong)

/-- 'coppicerlaw.LeastAlikes': WHATEVER THE INPUT: true; the input reads as it did. -/
def leastAlikesSpec : ChangeSpec := { name := "leastAlikes", fn := fun _ => fun
  | [d] => { results := [.lit (.bool true)], args := [d] }
  | _ => none }
def leastAlikesRow : OpenClaim := { program := "ytbbpmodfbdibcaa", sum := "8cbc94221bb666f0f9e97783e79038b90ee2d5d8d6c7ed909fadec98b2081dac", func := "coppicer/coppicerlaw.LeastAlikes", spec := "leastAlikes", unfollowed := true, recurses := true, plainKeys := false, apart := false }
def LeastAlikesSaid : Prop := leastAlikesRow.holds Try.pinned (OpenSpec.ofChange leastAlikesSpec)

/-- ITS FALSE NEIGHBOUR: 'it returns false'. Refute it at one input. -/
def leastAlikesWrong : ChangeSpec := { name := "leastAlikes", fn := fun _ => fun
  | [d] => { results := [.lit (.bool false)], args := [d] }
  | _ => none }
def LeastAlikesWrongFalsely : Prop := leastAlikesRow.holds Try.pinned (OpenSpec.ofChange leastAlikesWrong)

/-- 'coppicerlaw.LeastSames': WHATEVER THE INPUT: true; the input reads as it did. -/
def leastSamesSpec : ChangeSpec := { name := "leastSames", fn := fun _ => fun
  | [d1, d2] => { results := [.lit (.bool true)], args := [d1, d2] }
  | _ => none }
def leastSamesRow : OpenClaim := { program := "ytbbpmodfbdibcaa", sum := "8cbc94221bb666f0f9e97783e79038b90ee2d5d8d6c7ed909fadec98b2081dac", func := "coppicer/coppicerlaw.LeastSames", spec := "leastSames", unfollowed := true, recurses := true, plainKeys := false, apart := false }
def LeastSamesSaid : Prop := leastSamesRow.holds Try.pinned (OpenSpec.ofChange leastSamesSpec)

/-- ITS FALSE NEIGHBOUR: 'it returns false'. Refute it at one input. -/
def leastSamesWrong : ChangeSpec := { name := "leastSames", fn := fun _ => fun
  | [d1, d2] => { results := [.lit (.bool false)], args := [d1, d2] }
  | _ => none }
def LeastSamesWrongFalsely : Prop := leastSamesRow.holds Try.pinned (OpenSpec.ofChange leastSamesWrong)

/-- 'coppicerlaw.LeastAparts': WHATEVER THE INPUT: true; the input reads as it did. -/
def leastApartsSpec : ChangeSpec := { name := "leastAparts", fn := fun _ => fun
  | [d1, d2] => { results := [.lit (.bool true)], args := [d1, d2] }
  | _ => none }
def leastApartsRow : OpenClaim := { program := "ytbbpmodfbdibcaa", sum := "8cbc94221bb666f0f9e97783e79038b90ee2d5d8d6c7ed909fadec98b2081dac", func := "coppicer/coppicerlaw.LeastAparts", spec := "leastAparts", unfollowed := true, recurses := true, plainKeys := false, apart := false }
def LeastApartsSaid : Prop := leastApartsRow.holds Try.pinned (OpenSpec.ofChange leastApartsSpec)

/-- ITS FALSE NEIGHBOUR: 'it returns false'. Refute it at one input. -/
def leastApartsWrong : ChangeSpec := { name := "leastAparts", fn := fun _ => fun
  | [d1, d2] => { results := [.lit (.bool false)], args := [d1, d2] }
  | _ => none }
def LeastApartsWrongFalsely : Prop := leastApartsRow.holds Try.pinned (OpenSpec.ofChange leastApartsWrong)

/-- 'coppicerlaw.LeastTells': WHATEVER THE INPUT: true; the input reads as it did. -/
def leastTellsSpec : ChangeSpec := { name := "leastTells", fn := fun _ => fun
  | [d] => { results := [.lit (.bool true)], args := [d] }
  | _ => none }
def leastTellsRow : OpenClaim := { program := "ytbbpmodfbdibcaa", sum := "8cbc94221bb666f0f9e97783e79038b90ee2d5d8d6c7ed909fadec98b2081dac", func := "coppicer/coppicerlaw.LeastTells", spec := "leastTells", unfollowed := true, recurses := true, plainKeys := false, apart := false }
def LeastTellsSaid : Prop := leastTellsRow.holds Try.pinned (OpenSpec.ofChange leastTellsSpec)

/-- ITS FALSE NEIGHBOUR: 'it returns false'. Refute it at one input. -/
def leastTellsWrong : ChangeSpec := { name := "leastTells", fn := fun _ => fun
  | [d] => { results := [.lit (.bool false)], args := [d] }
  | _ => none }
def LeastTellsWrongFalsely : Prop := leastTellsRow.holds Try.pinned (OpenSpec.ofChange leastTellsWrong)

/-- 'coppicerlaw.KindsSames': WHATEVER THE INPUT: true; the input reads as it did. -/
def kindsSamesSpec : ChangeSpec := { name := "kindsSames", fn := fun _ => fun
  | [d1, d2, d3] => { results := [.lit (.bool true)], args := [d1, d2, d3] }
  | _ => none }
def kindsSamesRow : OpenClaim := { program := "ytbbpmodfbdibcaa", sum := "8cbc94221bb666f0f9e97783e79038b90ee2d5d8d6c7ed909fadec98b2081dac", func := "coppicer/coppicerlaw.KindsSames", spec := "kindsSames", unfollowed := true, recurses := true, plainKeys := false, apart := false }
def KindsSamesSaid : Prop := kindsSamesRow.holds Try.pinned (OpenSpec.ofChange kindsSamesSpec)

/-- ITS FALSE NEIGHBOUR: 'it returns false'. Refute it at one input. -/
def kindsSamesWrong : ChangeSpec := { name := "kindsSames", fn := fun _ => fun
  | [d1, d2, d3] => { results := [.lit (.bool false)], args := [d1, d2, d3] }
  | _ => none }
def KindsSamesWrongFalsely : Prop := kindsSamesRow.holds Try.pinned (OpenSpec.ofChange kindsSamesWrong)

/-- 'coppicerlaw.KindsSizes': WHATEVER THE INPUT: true; the input reads as it did. -/
def kindsSizesSpec : ChangeSpec := { name := "kindsSizes", fn := fun _ => fun
  | [d] => { results := [.lit (.bool true)], args := [d] }
  | _ => none }
def kindsSizesRow : OpenClaim := { program := "ytbbpmodfbdibcaa", sum := "8cbc94221bb666f0f9e97783e79038b90ee2d5d8d6c7ed909fadec98b2081dac", func := "coppicer/coppicerlaw.KindsSizes", spec := "kindsSizes", unfollowed := true, recurses := true, plainKeys := false, apart := false }
def KindsSizesSaid : Prop := kindsSizesRow.holds Try.pinned (OpenSpec.ofChange kindsSizesSpec)

/-- ITS FALSE NEIGHBOUR: 'it returns false'. Refute it at one input. -/
def kindsSizesWrong : ChangeSpec := { name := "kindsSizes", fn := fun _ => fun
  | [d] => { results := [.lit (.bool false)], args := [d] }
  | _ => none }
def KindsSizesWrongFalsely : Prop := kindsSizesRow.holds Try.pinned (OpenSpec.ofChange kindsSizesWrong)

/-- 'coppicerlaw.KindsStills': WHATEVER THE INPUT: true; the input reads as it did. -/
def kindsStillsSpec : ChangeSpec := { name := "kindsStills", fn := fun _ => fun
  | [d] => { results := [.lit (.bool true)], args := [d] }
  | _ => none }
def kindsStillsRow : OpenClaim := { program := "ytbbpmodfbdibcaa", sum := "8cbc94221bb666f0f9e97783e79038b90ee2d5d8d6c7ed909fadec98b2081dac", func := "coppicer/coppicerlaw.KindsStills", spec := "kindsStills", unfollowed := true, recurses := true, plainKeys := false, apart := false }
def KindsStillsSaid : Prop := kindsStillsRow.holds Try.pinned (OpenSpec.ofChange kindsStillsSpec)

/-- ITS FALSE NEIGHBOUR: 'it returns false'. Refute it at one input. -/
def kindsStillsWrong : ChangeSpec := { name := "kindsStills", fn := fun _ => fun
  | [d] => { results := [.lit (.bool false)], args := [d] }
  | _ => none }
def KindsStillsWrongFalsely : Prop := kindsStillsRow.holds Try.pinned (OpenSpec.ofChange kindsStillsWrong)

/- THE SECOND FORM. 'bulk': how many values and letters a reading holds, each counted each time it is reached (what is shared counts as often as it is met; a slice's spare places count too). A statement '..UptoSaid' is the law's where the arguments, and the package variables that the reading takes, are together of bulk at most 1048576: NARROWER than '..Said'. Prove '..Said' where nothing that the law and all that it calls make is longer than what came in: it says more and counts as full. Else prove '..UptoSaid'. A law counts once. -/
mutual
def uptoBulk {H : Type} : DataW H → Nat
  | .lit (.string bytes) => bytes.length + 1
  | .lit _ => 1
  | .nil => 1
  | .ptr d => uptoBulk d + 1
  | .slice elems spare => uptoBulkAll elems + uptoBulkAll spare + 1
  | .agg parts => uptoBulkAll parts + 1
  | .iface _ d => uptoBulk d + 1
  | .map entries => uptoBulkEntries entries + 1
  | .held _ => 1
def uptoBulkAll {H : Type} : List (DataW H) → Nat
  | [] => 0
  | d :: r => uptoBulk d + uptoBulkAll r
def uptoBulkEntries {H : Type} : List (Lit × DataW H) → Nat
  | [] => 0
  | x :: r => uptoBulkEntry x + uptoBulkEntries r
def uptoBulkEntry {H : Type} : Lit × DataW H → Nat
  | (.string bytes, d) => bytes.length + uptoBulk d + 1
  | (_, d) => uptoBulk d + 1
 end
def uptoSmall : (H : Type) → List (DataW H) → Bool := fun _ ds => decide (uptoBulkAll ds ≤ 1048576)
def OpenSpec.upto (s : _root_.Go.ChangeSpec) : _root_.Go.OpenSpec := { _root_.Go.OpenSpec.ofChange s with cond := some uptoSmall }

/-- 'coppicerlaw.NetSures', WHERE WHAT IT READS IS OF BULK AT MOST 1048576: true; the input reads as it did. -/
def netSuresUptoRow : OpenClaim := { program := "ytbbpmodfbdibcaa", sum := "8cbc94221bb666f0f9e97783e79038b90ee2d5d8d6c7ed909fadec98b2081dac", func := "coppicer/coppicerlaw.NetSures", spec := "netSures", unfollowed := true, recurses := true, plainKeys := false, apart := false, narrowed := true }
def NetSuresUptoSaid : Prop := netSuresUptoRow.holds Try.pinned (OpenSpec.upto netSuresSpec)

/-- 'coppicerlaw.NetRuns', WHERE WHAT IT READS IS OF BULK AT MOST 1048576: true; the input reads as it did. -/
def netRunsUptoRow : OpenClaim := { program := "ytbbpmodfbdibcaa", sum := "8cbc94221bb666f0f9e97783e79038b90ee2d5d8d6c7ed909fadec98b2081dac", func := "coppicer/coppicerlaw.NetRuns", spec := "netRuns", unfollowed := true, recurses := true, plainKeys := false, apart := false, narrowed := true }
def NetRunsUptoSaid : Prop := netRunsUptoRow.holds Try.pinned (OpenSpec.upto netRunsSpec)

/-- 'coppicerlaw.LeastAlikes', WHERE WHAT IT READS IS OF BULK AT MOST 1048576: true; the input reads as it did. -/
def leastAlikesUptoRow : OpenClaim := { program := "ytbbpmodfbdibcaa", sum := "8cbc94221bb666f0f9e97783e79038b90ee2d5d8d6c7ed909fadec98b2081dac", func := "coppicer/coppicerlaw.LeastAlikes", spec := "leastAlikes", unfollowed := true, recurses := true, plainKeys := false, apart := false, narrowed := true }
def LeastAlikesUptoSaid : Prop := leastAlikesUptoRow.holds Try.pinned (OpenSpec.upto leastAlikesSpec)

/-- 'coppicerlaw.LeastSames', WHERE WHAT IT READS IS OF BULK AT MOST 1048576: true; the input reads as it did. -/
def leastSamesUptoRow : OpenClaim := { program := "ytbbpmodfbdibcaa", sum := "8cbc94221bb666f0f9e97783e79038b90ee2d5d8d6c7ed909fadec98b2081dac", func := "coppicer/coppicerlaw.LeastSames", spec := "leastSames", unfollowed := true, recurses := true, plainKeys := false, apart := false, narrowed := true }
def LeastSamesUptoSaid : Prop := leastSamesUptoRow.holds Try.pinned (OpenSpec.upto leastSamesSpec)

/-- 'coppicerlaw.LeastAparts', WHERE WHAT IT READS IS OF BULK AT MOST 1048576: true; the input reads as it did. -/
def leastApartsUptoRow : OpenClaim := { program := "ytbbpmodfbdibcaa", sum := "8cbc94221bb666f0f9e97783e79038b90ee2d5d8d6c7ed909fadec98b2081dac", func := "coppicer/coppicerlaw.LeastAparts", spec := "leastAparts", unfollowed := true, recurses := true, plainKeys := false, apart := false, narrowed := true }
def LeastApartsUptoSaid : Prop := leastApartsUptoRow.holds Try.pinned (OpenSpec.upto leastApartsSpec)

/-- 'coppicerlaw.LeastTells', WHERE WHAT IT READS IS OF BULK AT MOST 1048576: true; the input reads as it did. -/
def leastTellsUptoRow : OpenClaim := { program := "ytbbpmodfbdibcaa", sum := "8cbc94221bb666f0f9e97783e79038b90ee2d5d8d6c7ed909fadec98b2081dac", func := "coppicer/coppicerlaw.LeastTells", spec := "leastTells", unfollowed := true, recurses := true, plainKeys := false, apart := false, narrowed := true }
def LeastTellsUptoSaid : Prop := leastTellsUptoRow.holds Try.pinned (OpenSpec.upto leastTellsSpec)

/-- 'coppicerlaw.KindsSames', WHERE WHAT IT READS IS OF BULK AT MOST 1048576: true; the input reads as it did. -/
def kindsSamesUptoRow : OpenClaim := { program := "ytbbpmodfbdibcaa", sum := "8cbc94221bb666f0f9e97783e79038b90ee2d5d8d6c7ed909fadec98b2081dac", func := "coppicer/coppicerlaw.KindsSames", spec := "kindsSames", unfollowed := true, recurses := true, plainKeys := false, apart := false, narrowed := true }
def KindsSamesUptoSaid : Prop := kindsSamesUptoRow.holds Try.pinned (OpenSpec.upto kindsSamesSpec)

/-- 'coppicerlaw.KindsSizes', WHERE WHAT IT READS IS OF BULK AT MOST 1048576: true; the input reads as it did. -/
def kindsSizesUptoRow : OpenClaim := { program := "ytbbpmodfbdibcaa", sum := "8cbc94221bb666f0f9e97783e79038b90ee2d5d8d6c7ed909fadec98b2081dac", func := "coppicer/coppicerlaw.KindsSizes", spec := "kindsSizes", unfollowed := true, recurses := true, plainKeys := false, apart := false, narrowed := true }
def KindsSizesUptoSaid : Prop := kindsSizesUptoRow.holds Try.pinned (OpenSpec.upto kindsSizesSpec)

/-- 'coppicerlaw.KindsStills', WHERE WHAT IT READS IS OF BULK AT MOST 1048576: true; the input reads as it did. -/
def kindsStillsUptoRow : OpenClaim := { program := "ytbbpmodfbdibcaa", sum := "8cbc94221bb666f0f9e97783e79038b90ee2d5d8d6c7ed909fadec98b2081dac", func := "coppicer/coppicerlaw.KindsStills", spec := "kindsStills", unfollowed := true, recurses := true, plainKeys := false, apart := false, narrowed := true }
def KindsStillsUptoSaid : Prop := kindsStillsUptoRow.holds Try.pinned (OpenSpec.upto kindsStillsSpec)

end Rows
end Go.Proofs.Ytbbpmodfbdibcaa
