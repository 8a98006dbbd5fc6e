/-
  A logic for Go functions over plain data, part R: results that lie in new memory.
-/
import Derived.Test.YtdcdldfleeilnaaDmM
set_option linter.unusedSimpArgs false
set_option linter.unusedVariables false
namespace Go.Dm
open Go.RowKit

def isV : D → Bool
  | .v _ => true
  | _ => false
/-- All cells are plain. -/
def Ob.pl (ob : Ob) : Bool := ob.es.all fun e => e.all isV
/-- What a result reads as, of which the memory is new. -/
def frvL (l : List (Option Ob)) : D → D
  | .v x => .v x
  | .nl => .nl
  | .ref τ sz off n => match mOf l τ with
    | some ob => if ob.pl = true then viewO (some ob) sz off n else .junk
    | none => .junk
  | _ => .junk
theorem or_pl {w : World} {A : Nat → Prop} {β : Nat → Option Nat} {γ : Nat → Option (Nat × List Nat)} {N τ : Nat} {ob : Ob} (h : OR w A β γ N ob τ) (hp : ob.pl = true) : OR w (fun _ => False) β γ N ob τ := by
  obtain ⟨h1, h2, h3⟩ := h
  refine ⟨h1, h2, h3.imp id fun ⟨b, o, us, e1, e2, e3, e4⟩ => ⟨b, o, us, e1, e2, e3, fun i j hi hj => ?_⟩⟩
  obtain ⟨c1, c2, c3⟩ := e4 i j hi hj
  have hv : isV ((ob.es.getD i []).getD j .junk) = true := by
    have hr : ob.es.getD i [] ∈ ob.es := by simp [List.getD, hi]
    have h4 := List.all_eq_true.1 hp _ hr
    have hj2 : j < (ob.es.getD i []).length := by rw [h1 i hi]; exact hj
    exact List.all_eq_true.1 h4 _ (by
      have : (ob.es.getD i []).getD j .junk = (ob.es.getD i [])[j] := by rw [List.getD_eq_getElem?_getD, List.getElem?_eq_getElem hj2]; rfl
      rw [this]; exact List.getElem_mem hj2)
  obtain ⟨y, hy⟩ : ∃ y, (ob.es.getD i []).getD j .junk = .v y := by
    revert hv
    cases (ob.es.getD i []).getD j .junk <;> intro hv <;> first | exact ⟨_, rfl⟩ | (simp [isV] at hv)
  rw [hy] at c1 c2 ⊢
  have hx : us i j = y := by
    have := c1 rfl
    cases this with
    | cl d x h' => cases h'; rfl
  rw [hx] at c3 ⊢
  exact ⟨fun _ => .cl _ _ (.v y), fun _ => .cr _ _ _ (.v y), c3⟩
theorem specN_of {P : Program} {f : FuncId} {ds : List D} {R : D → List (Option Ob) → Prop} {R' : D → Prop} (h : SpecH P f ds [] R) (hr : ∀ d l, R d l → R' (d.lf (frvL l))) : SpecN P f ds R' := by
  refine ⟨h.1, fun w A vs low hsz hcr => ?_⟩
  have H : HR (Gw.at w A (fun _ => none) (fun _ => none) ([] : List Ob).length (mAll [])) w A (fun _ => none) (fun _ => none) ([] : List Ob).length (mAll []) :=
    ⟨Bel.refl _ _, fun _ h => h, fun _ h => .inl h, low, fun τ ob h => absurd h (Nat.not_lt_zero _), fun b τ π h => (by cases h), fun τ b h => absurd h (Nat.not_lt_zero _), Nat.le_refl _, fun _ h => h.1, fun _ h => absurd h.1 (Nat.not_lt_zero _)⟩
  refine (h.2 w A _ _ vs H hsz fun i hi => .cl _ _ (hcr i hi)).mono ?_
  rintro e w' ⟨x, d, l, A', β', γ', rfl, hR, H', hd⟩
  have hO : ∀ b, ¬ (Gw.at w A (fun _ => none) (fun _ => none) ([] : List Ob).length (mAll [])).O0 b := fun b ⟨_, _, h, _⟩ => by cases h
  refine ⟨x, _, rfl, hr d l hR, H'.below.below hO, hd.lfC fun d x hdl hd => ?_⟩
  cases d with
  | v y => cases hd with | cl d x h' => cases h'; exact .v _
  | nl => cases hd with | cl d x h' => cases h'; exact .nl
  | ref τ sz off n =>
    simp only [frvL]
    split
    · next ob hM =>
      split
      · next hp =>
        have hτ : τ < l.length := by
          cases hd with
          | cl d x h' => cases h'
          | ref => assumption
          | refz => assumption
        let s : S := ⟨fun _ => .junk, fun σ => if σ = τ then some ob else none, l.length⟩
        let G : Gh := ⟨{ w0 := w', A0 := fun _ => False, O0 := fun _ => True, n0 := 0, β0 := fun _ => none, F := fun _ => False }, 0, fun _ _ => False, []⟩
        have hsm : s.M τ = some ob := by simp [s]
        have hd0 : DR w' (fun _ => False) β' s.N (.ref τ sz off n) x := by
          cases hd with
          | cl d x h' => cases h'
          | ref τ sz off n c b arr T h1 hb hc hh hr => exact .ref τ sz off n c b arr T h1 hb hc hh hr
          | refz τ sz off b h1 => exact .refz τ sz off b h1
        have g : HR G.g w' (fun _ => False) β' γ' s.N s.M := by
          refine ⟨Bel.refl _ _, fun _ h => h, fun _ h => h.elim, fun _ h => h.elim, fun σ ob' h1 h2 => ?_, fun b σ π h1 h2 h3 => ?_, fun σ b h1 h2 h3 => ?_, Nat.zero_le _, fun _ h => h.elim, fun _ h => h.elim⟩
          · have e : σ = τ := by
              by_cases e : σ = τ
              · exact e
              · simp [s, e] at h2
            subst e
            rw [hsm] at h2; cases h2
            exact or_pl (H'.objs σ ob hτ hM) hp
          · have e : σ = τ := by
              by_cases e : σ = τ
              · exact e
              · simp [s, e] at h3
            subst e
            exact ⟨(H'.own b σ π h1 hτ (by rw [hM]; simp)).1, fun h => h, .inr trivial, (H'.own b σ π h1 hτ (by rw [hM]; simp)).2.2.2⟩
          · have e : σ = τ := by
              by_cases e : σ = τ
              · exact e
              · simp [s, e] at h2
            subst e
            exact H'.root σ b hτ (by rw [hM]; simp) h3
        have := ref_cr (G := G) (s := s) (γ := γ') g (A' := fun b => w.heap.size ≤ b ∧ b < w'.heap.size) (fun _ h => h.elim) (fun b π h1 _ => by
          obtain ⟨q1, _, q3, _⟩ := H'.own b τ π h1 hτ (by rw [hM]; simp)
          exact ⟨q3.resolve_right (hO b), q1⟩) hd0
        rw [hsm] at this
        exact this
      · exact .junk _
    · exact .junk _
  | _ => exact .junk _
end Go.Dm
