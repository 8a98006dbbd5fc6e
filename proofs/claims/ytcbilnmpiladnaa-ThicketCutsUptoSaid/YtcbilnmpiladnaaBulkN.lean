/-
  How much is read of a thicket: no less than its numbers.
-/
import Derived.Test.YtcbilnmpiladnaaBulk
import Derived.Test.YtcbilnmpiladnaaNums
namespace Go.Proofs.Ytcbilnmpiladnaa
open Go.Dm
set_option linter.unusedSimpArgs false
set_option linter.unnecessarySimpa false
set_option linter.unusedVariables false
theorem sum_le {α : Type} {f g : α → Nat} : ∀ {l : List α}, (∀ a, a ∈ l → f a ≤ g a) → (l.map f).sum ≤ (l.map g).sum
  | [], _ => Nat.le_refl _
  | a :: l, h => by
    have h1 := h a (by simp)
    have h2 := @sum_le α f g l fun x hx => h x (List.mem_cons_of_mem _ hx)
    simp only [List.map_cons, List.sum_cons]; omega
theorem ones_sum {w : List Int} : (w.map fun _ => 1).sum = w.length := by
  induction w with
  | nil => rfl
  | cons a w ih => simp only [List.map_cons, List.sum_cons, ih, List.length_cons]; omega
theorem nums_thiU {t : Dm.Thicket} : (nums t).length ≤ thiU t := by
  have hs : ∀ s : Dm.Spot, (nmS s).length ≤ spotU s := fun s => by
    have hw := @sum_le _ (fun w => (nmW w).length) wayU s.ways fun w _ => by
      simp only [nmW, wayU, List.length_cons, ones_sum]; omega
    simp only [nmS, nmWs, spotU, waysU, List.length_append, List.length_flatMap, List.length_cons, List.length_nil]
    omega
  have h := @sum_le _ (fun s => (nmS s).length) spotU t.spots fun s _ => hs s
  unfold nums numsTo thiU
  rw [List.take_length, List.length_append, List.length_flatMap]
  simp only [List.length_cons, List.length_nil]
  omega
end Go.Proofs.Ytcbilnmpiladnaa
