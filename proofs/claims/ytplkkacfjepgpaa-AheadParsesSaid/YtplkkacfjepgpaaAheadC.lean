/-
  ahead.First, ahead.Follow; the law AheadFirsts.
-/
import Derived.Test.YtplkkacfjepgpaaAheadF
set_option linter.unusedVariables false
set_option linter.unusedSimpArgs false
set_option linter.unnecessarySimpa false
namespace Go.Proofs.Ytplkkacfjepgpaa
open Go.Dm
set_option linter.defProp false
theorem fstL_len {g : Grammar} {N : Nat} : (fstL g N).length = g.n.toNat := by simp [fstL]
theorem folL_len {g : Grammar} {N : Nat} : (folL g N).length = g.n.toNat := by simp [folL]
theorem hds_one {g : Grammar} {N : Nat} {y : Int} : hds g N [y] = [y] := by
  rw [hds_cons]
  simp [hds]
theorem fstL_one {g : Grammar} {N i x : Nat} : FstL g N [g.k + i] x ↔ Fst g N i x := by
  unfold FstL
  rw [hds_one]
  constructor
  · rintro ⟨y, hy, h⟩
    rw [List.mem_singleton] at hy
    subst hy
    rcases h with ⟨h, _⟩ | ⟨_, h⟩
    · omega
    · rw [show (g.k + (i : Int) - g.k).toNat = i by omega] at h; exact h
  · intro h
    exact ⟨g.k + (i : Int), by simp, .inr ⟨by omega, by rw [show (g.k + (i : Int) - g.k).toNat = i by omega]; exact h⟩⟩
theorem fstL_get {g : Grammar} {N i : Nat} (h : i < g.n.toNat) : (fstL g N).getD i default = fstS g N [g.k + i] := by
  classical
  unfold fstL fstS
  rw [List.getD_eq_getElem?_getD, List.getElem?_map, List.getElem?_range h]
  simp only [Option.map_some, Option.getD_some]
  congr
  funext x
  simp only [fstL_one]
theorem sm_fstL {g : Grammar} {N : Nat} : Sm 3 (fstL g N) := fun x hx => by
  unfold fstL at hx
  obtain ⟨i, _, rfl⟩ := List.mem_map.1 hx
  exact setOf_lt
theorem setsD_eq {g : Grammar} {F W : List Nat} {N : Nat} : setsD g F W N = [iv .i64 g.k, iv .i64 g.n, iv .i64 g.start, .sl 2 (tbl rulD g.rules), .sl 1 (tbl wD F), .sl 1 (tbl wD W), iv .u32 N] := (rfl)
def vac := And.intro vam @setsD_eq
end Go.Proofs.Ytplkkacfjepgpaa
