/-
  Grammars: what is wrong with one; the law GrammarChecks.
-/
import Derived.Test.YtmhpfgklfpgniaaLibF
namespace Go.Proofs.Ytmhpfgklfpgniaa
open Go.Dm
set_option linter.unusedSimpArgs false
set_option linter.unnecessarySimpa false
set_option linter.unusedVariables false

def isSign (g : Grammar) (x : Int) : Bool := decide (0 ≤ x ∧ x < g.k + g.n)
def isSigns (g : Grammar) (l : List Int) : Bool := l.all (isSign g)
def gcode (g : Grammar) : Int :=
  if ¬ (1 ≤ g.k ∧ g.k ≤ 3) ∨ ¬ (1 ≤ g.n ∧ g.n ≤ 5) ∨ 10 < g.rules.length then 1
  else if g.rules.any (fun r => decide (4 < r.right.length)) = true then 1
  else if ¬ (0 ≤ g.start ∧ g.start < g.n) then 2
  else if g.rules.any (fun r => !(decide (0 ≤ r.left ∧ r.left < g.n) && isSigns g r.right)) = true then 2
  else 0

theorem all_not' {α : Type} {p : α → Bool} {l : List α} : (!(l.any fun a => !p a)) = l.all p := by
  rw [List.not_any_eq_all_not]; simp
def badRule (g : Grammar) (r : Rule) : Bool := !(decide (0 ≤ r.left ∧ r.left < g.n) && isSigns g r.right)
theorem gcode_b {g : Grammar} : gcode g = if ¬ (1 ≤ g.k ∧ g.k ≤ 3) ∨ ¬ (1 ≤ g.n ∧ g.n ≤ 5) ∨ 10 < g.rules.length then 1
  else if g.rules.any (fun r => decide (4 < r.right.length)) = true then 1
  else if ¬ (0 ≤ g.start ∧ g.start < g.n) then 2
  else if g.rules.any (badRule g) = true then 2 else 0 := rfl
theorem any_hit {α : Type} [Inhabited α] {p : α → Bool} {l : List α} {i : Nat} (hi : i < l.length) (h : p (l.getD i default) = true) : l.any p = true :=
  List.any_eq_true.2 ⟨_, getD_mem' hi, h⟩
theorem all_hit {α : Type} [Inhabited α] {p : α → Bool} {l : List α} {i : Nat} (hi : i < l.length) (h : p (l.getD i default) = false) : l.all p = false :=
  List.all_eq_false.2 ⟨_, getD_mem' hi, by rw [h]; simp⟩
theorem all_none {α : Type} [Inhabited α] {p : α → Bool} {l : List α} {i : Nat} (hi : l.length ≤ i) (hn : ∀ j, j < i → p (l.getD j default) = true) : l.all p = true := by
  rw [List.all_eq_true]
  intro x hx
  obtain ⟨j, hj, e⟩ := mem_getD hx
  rw [← e, hn j (by omega)]
theorem succ_all {p : Nat → Prop} {i : Nat} (h : ∀ j, j < i → p j) (hi : p i) : ∀ j, j < i + 1 → p j := fun j hj => by
  by_cases e : j = i
  · rw [e]; exact hi
  · exact h j (by omega)
end Go.Proofs.Ytmhpfgklfpgniaa
