/-
  Lists with what is new put behind (plain).
-/
import Derived.Test.YtbbpmodfbdibcaaDmX
namespace Go.Proofs.Ytbbpmodfbdibcaa
open Go.Dm
set_option linter.unusedSimpArgs false
set_option linter.unnecessarySimpa false
set_option linter.unusedVariables false

def ins (l : List Nat) (x : Nat) : List Nat := if x ∈ l then l else l ++ [x]
theorem ins_len {l : List Nat} {x : Nat} : (ins l x).length ≤ l.length + 1 ∧ l.length ≤ (ins l x).length := by
  unfold ins; split <;> simp
theorem ins_get {l : List Nat} {x i : Nat} (h : i < l.length) : (ins l x).getD i 0 = l.getD i 0 := by
  unfold ins
  split
  · rfl
  · simp [List.getD, List.getElem?_append_left h]
theorem ins_mem {l : List Nat} {x y : Nat} (h : y ∈ ins l x) : y ∈ l ∨ y = x := by
  unfold ins at h
  split at h
  · exact .inl h
  · simpa using h
theorem idx_at {l : List Nat} {x i : Nat} (hi : i < l.length) (he : l.getD i 0 = x) (hb : ∀ j, j < i → l.getD j 0 ≠ x) : l.idxOf x = i := by
  induction l generalizing i with
  | nil => simp at hi
  | cons a l ih =>
    cases i with
    | zero => simp at he; simp [he]
    | succ i =>
      have h0 : a ≠ x := by simpa using hb 0 (by omega)
      have := ih (by simpa using hi) (by simpa using he) (fun j hj => by simpa using hb (j + 1) (by omega))
      have hb' : (a == x) = false := by simpa using h0
      rw [List.idxOf_cons, hb', this]; rfl
theorem idx_no {l : List Nat} {x : Nat} (hb : ∀ j, j < l.length → l.getD j 0 ≠ x) : x ∉ l := fun h => by
  obtain ⟨j, hj, e⟩ := List.getElem_of_mem h
  exact hb j hj (by simp [List.getD, hj, e])
end Go.Proofs.Ytbbpmodfbdibcaa
