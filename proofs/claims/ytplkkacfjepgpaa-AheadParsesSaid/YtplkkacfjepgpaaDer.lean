/-
  Grammars: of which stretch of a word signs are made; tables that know it.
-/
import Derived.Test.YtplkkacfjepgpaaDmX
set_option linter.unusedVariables false
set_option linter.unusedSimpArgs false
namespace Go.Dm
inductive Der (g : Grammar) (w : List Int) : List Int → Nat → Nat → Prop
  | nil {i : Nat} : Der g w [] i i
  | sym {x : Int} {s : List Int} {i j : Nat} (hx : x < g.k) (hi : i < w.length) (hw : w.getD i 0 = x) (h : Der g w s (i + 1) j) : Der g w (x :: s) i j
  | name {x : Int} {s : List Int} {i m j q : Nat} (hx : ¬ x < g.k) (hq : q < g.rules.length) (hl : (g.rules.getD q default).left = x - g.k) (h1 : Der g w (g.rules.getD q default).right i m) (h2 : Der g w s m j) : Der g w (x :: s) i j
theorem Der.le {g : Grammar} {w : List Int} {s : List Int} {i j : Nat} (h : Der g w s i j) : i ≤ j ∧ (i ≤ w.length → j ≤ w.length) := by
  induction h with
  | nil => exact ⟨Nat.le_refl _, fun h => h⟩
  | sym _ hi _ _ ih => exact ⟨by omega, fun _ => ih.2 (by omega)⟩
  | name _ _ _ _ _ ih1 ih2 => exact ⟨by omega, fun h => ih2.2 (ih1.2 h)⟩
theorem Der.app {g : Grammar} {w : List Int} {a b : List Int} {i m j : Nat} (h : Der g w a i m) (k : Der g w b m j) : Der g w (a ++ b) i j := by
  induction h with
  | nil => exact k
  | sym hx hi hw _ ih => exact .sym hx hi hw (ih k)
  | name hx hq hl h1 _ _ ih2 => exact .name hx hq hl h1 (ih2 k)
theorem Der.cons {g : Grammar} {w : List Int} {x : Int} {s : List Int} {i j : Nat} (h : Der g w (x :: s) i j) : ∃ m, Der g w [x] i m ∧ Der g w s m j := by
  cases h with
  | sym hx hi hw h => exact ⟨_, .sym hx hi hw .nil, h⟩
  | name hx hq hl h1 h2 => exact ⟨_, .name hx hq hl h1 .nil, h2⟩
theorem Der.split {g : Grammar} {w : List Int} {b : List Int} : ∀ {a : List Int} {i j : Nat}, Der g w (a ++ b) i j → ∃ m, Der g w a i m ∧ Der g w b m j
  | [], i, j, h => ⟨i, .nil, h⟩
  | x :: a, i, j, h => by
    obtain ⟨m, h1, h2⟩ := Der.cons (s := a ++ b) h
    obtain ⟨m', h3, h4⟩ := Der.split h2
    exact ⟨m', Der.app h1 h3, h4⟩
theorem der_sym {g : Grammar} {w : List Int} {x : Int} {i j : Nat} (hx : x < g.k) : Der g w [x] i j ↔ j = i + 1 ∧ i < w.length ∧ w.getD i 0 = x := by
  constructor
  · intro h
    cases h with
    | sym _ hi hw h => cases h; exact ⟨rfl, hi, hw⟩
    | name h => exact absurd hx h
  · rintro ⟨rfl, hi, hw⟩; exact .sym hx hi hw .nil
theorem der_name {g : Grammar} {w : List Int} {x : Int} {i j : Nat} (hx : ¬ x < g.k) : Der g w [x] i j ↔ ∃ q, q < g.rules.length ∧ (g.rules.getD q default).left = x - g.k ∧ Der g w (g.rules.getD q default).right i j := by
  constructor
  · intro h
    cases h with
    | sym h => exact absurd h hx
    | name _ hq hl h1 h2 => cases h2; exact ⟨_, hq, hl, h1⟩
  · rintro ⟨q, hq, hl, h⟩; exact .name hx hq hl h .nil
def oneB (g : Grammar) (w : List Int) (t : Nat → Nat → Nat → Bool) (x : Int) (i m : Nat) : Bool := if x < g.k then decide (m = i + 1 ∧ i < w.length ∧ w.getD i 0 = x) else t (x - g.k).toNat i m
def ovB (g : Grammar) (w : List Int) (t : Nat → Nat → Nat → Bool) : List Int → Nat → Nat → Bool
  | [], i, j => decide (i = j)
  | x :: s, i, j => (List.range (j + 1)).any fun m => decide (i ≤ m) && oneB g w t x i m && ovB g w t s m j
theorem ovB_cons {g : Grammar} {w : List Int} {t : Nat → Nat → Nat → Bool} {x : Int} {s : List Int} {i j : Nat} : ovB g w t (x :: s) i j = true ↔ ∃ m, i ≤ m ∧ m ≤ j ∧ oneB g w t x i m = true ∧ ovB g w t s m j = true := by
  simp only [ovB, List.any_eq_true, List.mem_range, Bool.and_eq_true, decide_eq_true_eq]
  constructor
  · rintro ⟨m, h1, ⟨h2, h3⟩, h4⟩; exact ⟨m, h2, by omega, h3, h4⟩
  · rintro ⟨m, h1, h2, h3, h4⟩; exact ⟨m, by omega, ⟨h1, h3⟩, h4⟩
theorem ovB_sound {g : Grammar} {w : List Int} {t : Nat → Nat → Nat → Bool} (hs : ∀ a i j, i ≤ j → t a i j = true → Der g w [g.k + a] i j) : ∀ {s : List Int} {i j : Nat}, ovB g w t s i j = true → Der g w s i j
  | [], i, j, h => by have : i = j := by simpa [ovB] using h
                      subst this; exact .nil
  | x :: s, i, j, h => by
    obtain ⟨m, h1, h2, h3, h4⟩ := ovB_cons.mp h
    have k := ovB_sound hs h4
    unfold oneB at h3
    split at h3
    · next hx =>
      have h5 := of_decide_eq_true h3
      exact Der.app ((der_sym hx).mpr h5) k
    · next hx =>
      have h5 := hs _ _ _ h1 h3
      rw [show g.k + ((x - g.k).toNat : Int) = x by omega] at h5
      exact Der.app h5 k
theorem ovB_all {g : Grammar} {w : List Int} {t : Nat → Nat → Nat → Bool} (hc : ∀ q, q < g.rules.length → ∀ i j, i ≤ j → j ≤ w.length → ovB g w t (g.rules.getD q default).right i j = true → t (g.rules.getD q default).left.toNat i j = true)
    {s : List Int} {i j : Nat} (h : Der g w s i j) : i ≤ w.length → ovB g w t s i j = true := by
  induction h with
  | nil => intro _; simp [ovB]
  | sym hx hi hw h ih =>
    intro _
    exact ovB_cons.mpr ⟨_, Nat.le_succ _, h.le.1, by unfold oneB; rw [if_pos hx]; exact decide_eq_true ⟨rfl, hi, hw⟩, ih (by omega)⟩
  | name hx hq hl h1 h2 ih1 ih2 =>
    intro hi
    have hm := h1.le.2 hi
    refine ovB_cons.mpr ⟨_, h1.le.1, h2.le.1, ?_, ih2 hm⟩
    unfold oneB
    rw [if_neg hx, ← hl]
    exact hc _ hq _ _ h1.le.1 hm (ih1 hi)
end Go.Dm
