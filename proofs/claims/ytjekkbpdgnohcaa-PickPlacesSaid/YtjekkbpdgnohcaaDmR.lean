/-
  A logic for Go functions over plain data, part R: results that lie in new memory.
-/
import Derived.Test.YtjekkbpdgnohcaaDmM
set_option linter.unusedSimpArgs false
set_option linter.unusedVariables false
namespace Go.Dm
open Go.RowKit
def isV : D → Bool
  | .v _ => true
  | _ => false
def Ob.pl (ob : Ob) : Bool := ob.es.all fun e => e.all isV
theorem or_pl {w : World} {A : Nat → Prop} {β : Nat → Option Nat} {γ : Nat → Option (Nat × List Nat)} {N τ : Nat} {ob : Ob} (h : OR w A β γ N ob τ) (hp : ob.pl = true) : OR w (fun _ => False) β γ N ob τ := by
  obtain ⟨h1, h2, h3⟩ := h
  refine ⟨h1, h2, h3.imp id fun ⟨b, o, us, e1, e2, e3, e4⟩ => ⟨b, o, us, e1, e2, e3, fun i j hi hj => ?_⟩⟩
  obtain ⟨c1, c2, c3⟩ := e4 i j hi hj
  have hv : isV ((ob.es.getD i []).getD j .junk) = true := by
    have hr : ob.es.getD i [] ∈ ob.es := by simp [List.getD, hi]
    have h4 := List.all_eq_true.1 hp _ hr
    have hj2 : j < (ob.es.getD i []).length := by rw [h1 i hi]; exact hj
    exact List.all_eq_true.1 h4 _ (by
      have : (ob.es.getD i []).getD j .junk = (ob.es.getD i [])[j] := by rw [List.getD_eq_getElem?_getD, List.getElem?_eq_getElem hj2]; rfl
      rw [this]; exact List.getElem_mem hj2)
  obtain ⟨y, hy⟩ : ∃ y, (ob.es.getD i []).getD j .junk = .v y := by
    revert hv
    cases (ob.es.getD i []).getD j .junk <;> intro hv <;> first | exact ⟨_, rfl⟩ | (simp [isV] at hv)
  rw [hy] at c1 c2 ⊢
  have hx : us i j = y := by
    have := c1 rfl
    cases this with
    | cl d x h' => cases h'; rfl
  rw [hx] at c3 ⊢
  exact ⟨fun _ => .cl _ _ (.v y), fun _ => .cr _ _ _ (.v y), c3⟩
end Go.Dm
