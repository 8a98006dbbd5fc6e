/-
  Grammars: what steps make, from the left on.
-/
import Derived.Test.YtjekkbpdgnohcaaDmX
namespace Go.Dm
set_option linter.unusedSimpArgs false
set_option linter.unusedVariables false
def RuleAt (g : Grammar) (x q : Int) : Prop := 0 ≤ q ∧ q < g.rules.length ∧ (g.rules.getD q.toNat default).left = x - g.k
inductive Pr (g : Grammar) : List Int → List Int → List Int → List Int → Prop
  | nil {st : List Int} : Pr g [] st [] st
  | sym {x : Int} {s st w r : List Int} (hx : x < g.k) (h : Pr g s st w r) : Pr g (x :: s) st (x :: w) r
  | name {x q : Int} {s st w r : List Int} (hx : ¬ x < g.k) (hq : RuleAt g x q) (h : Pr g ((g.rules.getD q.toNat default).right ++ s) st w r) : Pr g (x :: s) (q :: st) w r
theorem Pr.det {g : Grammar} {s st w r w' r' : List Int} (h : Pr g s st w r) (h' : Pr g s st w' r') : w = w' ∧ r = r' := by
  induction h generalizing w' r' with
  | nil => cases h'; exact ⟨rfl, rfl⟩
  | sym hx _ ih =>
    cases h' with
    | sym _ h2 => have := ih h2; exact ⟨by rw [this.1], this.2⟩
    | name hn _ _ => exact absurd hx hn
  | name hx hq _ ih =>
    cases h' with
    | sym hn _ => exact absurd hn hx
    | name _ _ h2 => exact ih h2
theorem Pr.app {g : Grammar} {a b st w1 m w2 r : List Int} (h : Pr g a st w1 m) (k : Pr g b m w2 r) : Pr g (a ++ b) st (w1 ++ w2) r := by
  induction h with
  | nil => exact k
  | sym hx _ ih => exact .sym hx (ih k)
  | @name x q s st w r hx hq _ ih =>
    refine .name hx hq ?_
    have := ih k
    rwa [List.append_assoc] at this
theorem Pr.split {g : Grammar} {c st w r : List Int} (h : Pr g c st w r) : ∀ {a b : List Int}, c = a ++ b → ∃ w1 m w2, Pr g a st w1 m ∧ Pr g b m w2 r ∧ w = w1 ++ w2 := by
  induction h with
  | nil =>
    intro a b e
    obtain ⟨rfl, rfl⟩ := List.append_eq_nil_iff.mp e.symm
    exact ⟨[], _, [], .nil, .nil, rfl⟩
  | @sym x s st w r hx h ih =>
    intro a b e
    cases a with
    | nil => simp only [List.nil_append] at e; subst e; exact ⟨[], _, _, .nil, .sym hx h, rfl⟩
    | cons y a =>
      simp only [List.cons_append, List.cons.injEq] at e
      obtain ⟨rfl, rfl⟩ := e
      obtain ⟨w1, m, w2, h1, h2, h3⟩ := ih rfl
      exact ⟨x :: w1, m, w2, .sym hx h1, h2, by rw [h3]; rfl⟩
  | @name x q s st w r hx hq h ih =>
    intro a b e
    cases a with
    | nil => simp only [List.nil_append] at e; subst e; exact ⟨[], _, _, .nil, .name hx hq h, rfl⟩
    | cons y a =>
      simp only [List.cons_append, List.cons.injEq] at e
      obtain ⟨rfl, rfl⟩ := e
      obtain ⟨w1, m, w2, h1, h2, h3⟩ := ih (by rw [List.append_assoc])
      exact ⟨w1, m, w2, .name hx hq h1, h2, h3⟩
theorem Pr.terms {g : Grammar} {u st : List Int} (h : ∀ x, x ∈ u → x < g.k) : Pr g u st u st := by
  induction u with
  | nil => exact .nil
  | cons x u ih => exact .sym (h x (by simp)) (ih fun y hy => h y (List.mem_cons_of_mem _ hy))
theorem Pr.pass {g : Grammar} {u s st w r : List Int} (h : ∀ x, x ∈ u → x < g.k) : Pr g (u ++ s) st w r ↔ ∃ w', Pr g s st w' r ∧ w = u ++ w' := by
  constructor
  · intro hp
    obtain ⟨w1, m, w2, h1, h2, h3⟩ := hp.split rfl
    obtain ⟨rfl, rfl⟩ := h1.det (Pr.terms h)
    exact ⟨w2, h2, h3⟩
  · rintro ⟨w', h1, rfl⟩
    exact (Pr.terms h).app h1
theorem Pr.step {g : Grammar} {u s st w r : List Int} {x q : Int} (h : ∀ x, x ∈ u → x < g.k) (hx : ¬ x < g.k) : Pr g (u ++ x :: s) (q :: st) w r ↔ RuleAt g x q ∧ Pr g (u ++ ((g.rules.getD q.toNat default).right ++ s)) st w r := by
  rw [Pr.pass h]
  constructor
  · rintro ⟨w', h1, rfl⟩
    cases h1 with
    | sym hn _ => exact absurd hn hx
    | name _ hq h2 => exact ⟨hq, (Pr.pass h).mpr ⟨w', h2, rfl⟩⟩
  · rintro ⟨hq, h1⟩
    obtain ⟨w', h2, rfl⟩ := (Pr.pass h).mp h1
    exact ⟨w', .name hx hq h2, rfl⟩
theorem Pr.done {g : Grammar} {l w r : List Int} (h : Pr g l [] w r) : (∀ x, x ∈ l → x < g.k) ∧ w = l ∧ r = [] := by
  generalize he : ([] : List Int) = st at h
  induction h with
  | nil => subst he; exact ⟨by simp, rfl, rfl⟩
  | sym hx _ ih =>
    obtain ⟨h1, h2, h3⟩ := ih he
    refine ⟨fun y hy => ?_, by rw [h2], h3⟩
    rcases List.mem_cons.mp hy with e | hy
    · rw [e]; exact hx
    · exact h1 y hy
  | name _ _ _ _ => cases he
theorem Pr.len {g : Grammar} {B : Nat} (hB : ∀ q, q < g.rules.length → (g.rules.getD q default).right.length ≤ B) {s st w r : List Int} (h : Pr g s st w r) : r.length ≤ st.length ∧ w.length ≤ s.length + B * (st.length - r.length) := by
  induction h with
  | nil => exact ⟨Nat.le_refl _, by simp⟩
  | sym _ _ ih => refine ⟨ih.1, ?_⟩; have := ih.2; simp only [List.length_cons]; omega
  | @name x q s st w r hx hq _ ih =>
    obtain ⟨h1, h2⟩ := ih
    have h3 := hB q.toNat (by have := hq.1; have := hq.2.1; omega)
    refine ⟨by simp only [List.length_cons]; omega, ?_⟩
    rw [List.length_append] at h2
    simp only [List.length_cons]
    rw [show st.length + 1 - r.length = (st.length - r.length) + 1 by omega, Nat.mul_succ]
    omega
end Go.Dm
