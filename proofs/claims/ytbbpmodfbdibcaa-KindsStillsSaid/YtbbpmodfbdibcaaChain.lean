/-
  A rising chain of sets stands still.
-/
import Derived.Test.YtbbpmodfbdibcaaDmX
namespace Go.Dm
set_option linter.unusedSimpArgs false
set_option linter.unnecessarySimpa false
set_option linter.unusedVariables false

/-- A rising chain of subsets of n things that goes on by itself stands still at n. -/
theorem chain_still {n : Nat} (S : Nat → Nat → Bool) (F : (Nat → Bool) → Nat → Bool) (hF : ∀ a b : Nat → Bool, (∀ x, x < n → a x = b x) → ∀ x, x < n → F a x = F b x)
    (hS : ∀ k x, S (k + 1) x = F (S k) x) (hm : ∀ k x, S k x = true → S (k + 1) x = true) : ∀ x, x < n → ∀ k, n ≤ k → S k x = S n x := by
  have still : ∀ k, (∀ x, x < n → S k x = S (k + 1) x) → ∀ j, k ≤ j → ∀ x, x < n → S j x = S k x := by
    intro k hk j hj
    induction j with
    | zero => intro x _; rw [show k = 0 by omega]
    | succ j ih =>
      by_cases e : k = j + 1
      · intro x _; rw [e]
      · intro x hx
        rw [hS, hF _ (S k) (ih (by omega)) x hx, ← hS, hk x hx]
  have cnt : ∀ k, (∃ j, j ≤ k ∧ ∀ x, x < n → S j x = S (j + 1) x) ∨ k < ((List.range n).filter (S (k + 1))).length := by
    intro k
    have step : ∀ k, (¬ ∀ x, x < n → S k x = S (k + 1) x) → ((List.range n).filter (S k)).length < ((List.range n).filter (S (k + 1))).length := by
      intro k hk
      simp only [Classical.not_forall, Classical.not_imp] at hk
      obtain ⟨x, hx, hne⟩ := hk
      rw [← List.countP_eq_length_filter, ← List.countP_eq_length_filter]
      have h1 : S k x = false := by
        cases h : S k x
        · rfl
        · exact absurd (by rw [h, hm k x h]) hne
      have h2 : S (k + 1) x = true := by
        cases h : S (k + 1) x
        · exact absurd (by rw [h1, h]) hne
        · rfl
      have aux : ∀ l : List Nat, l.countP (S k) ≤ l.countP (S (k + 1)) := fun l => List.countP_mono_left fun y _ h => hm k y h
      obtain ⟨l1, l2, e⟩ := List.append_of_mem (List.mem_range.2 hx)
      rw [e, List.countP_append, List.countP_append, List.countP_cons, List.countP_cons, h1, h2]
      have := aux l1
      have := aux l2
      simp
      omega
    induction k with
    | zero =>
      by_cases h : ∀ x, x < n → S 0 x = S 1 x
      · exact .inl ⟨0, by omega, h⟩
      · exact .inr (Nat.lt_of_le_of_lt (Nat.zero_le _) (step 0 h))
    | succ k ih =>
      rcases ih with ⟨j, hj, h⟩ | h
      · exact .inl ⟨j, by omega, h⟩
      · by_cases h2 : ∀ x, x < n → S (k + 1) x = S (k + 2) x
        · exact .inl ⟨k + 1, by omega, h2⟩
        · exact .inr (Nat.lt_of_le_of_lt h (step (k + 1) h2))
  intro x hx k hk
  rcases cnt n with ⟨j, hj, h⟩ | h
  · rw [still j h k (by omega) x hx, still j h n hj x hx]
  · have := List.length_filter_le (S (n + 1)) (List.range n)
    rw [List.length_range] at this
    omega

end Go.Dm
