/-
  Grammars: how many trees a sign has over a stretch of a word.
-/
import Derived.Test.YtjekkbpdgnohcaaDmX
namespace Go.Dm
set_option linter.unusedSimpArgs false
set_option linter.unusedVariables false
def nsum (f : Nat → Nat) : Nat → Nat
  | 0 => 0
  | n + 1 => nsum f n + f n
theorem nsum_ext {f g : Nat → Nat} : ∀ {n : Nat}, (∀ m, m < n → f m = g m) → nsum f n = nsum g n
  | 0, _ => rfl
  | n + 1, h => by
    show nsum f n + f n = nsum g n + g n
    rw [nsum_ext fun m hm => h m (by omega), h n (by omega)]
theorem nsum_zero {f : Nat → Nat} : ∀ {n : Nat}, (∀ m, m < n → f m = 0) → nsum f n = 0
  | 0, _ => rfl
  | n + 1, h => by
    show nsum f n + f n = 0
    rw [nsum_zero fun m hm => h m (by omega), h n (by omega)]
theorem nsum_mono {f : Nat → Nat} {n m : Nat} (h : n ≤ m) : nsum f n ≤ nsum f m := by
  induction m with
  | zero => have : n = 0 := by omega
            subst this; exact Nat.le_refl _
  | succ m ih =>
    by_cases e : n = m + 1
    · subst e; exact Nat.le_refl _
    · exact Nat.le_trans (ih (by omega)) (Nat.le_add_right _ _)
def tsum (f : Nat → Nat) (a b : Nat) : Nat := nsum (fun m => if a ≤ m then f m else 0) b
theorem tsum_succ {f : Nat → Nat} {a b : Nat} (h : a ≤ b) : tsum f a (b + 1) = tsum f a b + f b := by
  show nsum _ b + (if a ≤ b then f b else 0) = _
  rw [if_pos h]; rfl
theorem tsum_empty {f : Nat → Nat} {a b : Nat} (h : b ≤ a) : tsum f a b = 0 := nsum_zero fun m hm => if_neg (by omega)
theorem tsum_ext {f g : Nat → Nat} {a b : Nat} (h : ∀ m, a ≤ m → m < b → f m = g m) : tsum f a b = tsum g a b := nsum_ext fun m hm => by
  split
  · exact h m (by assumption) hm
  · rfl
theorem tsum_zero {f : Nat → Nat} {a b : Nat} (h : ∀ m, a ≤ m → m < b → f m = 0) : tsum f a b = 0 := nsum_zero fun m hm => by
  split
  · exact h m (by assumption) hm
  · rfl
def rowT (T : Int → Nat → Nat → Nat) : List Int → Nat → Nat → Nat
  | [], i, j => if i = j then 1 else 0
  | [s], i, j => T s i j
  | s :: s' :: l, i, j => tsum (fun m => T s i m * rowT T (s' :: l) m j) (i + 1) j
theorem rowT_congr {T T' : Int → Nat → Nat → Nat} : ∀ {l : List Int} {i j : Nat}, (∀ s, s ∈ l → ∀ a b, i ≤ a → b ≤ j → T s a b = T' s a b) → rowT T l i j = rowT T' l i j
  | [], _, _, _ => rfl
  | [s], i, j, h => h s (by simp) i j (Nat.le_refl _) (Nat.le_refl _)
  | s :: s' :: l, i, j, h => tsum_ext fun m h1 h2 => by
    rw [h s (by simp) i m (Nat.le_refl _) (by omega), rowT_congr (l := s' :: l) fun x hx a b ha hb => h x (List.mem_cons_of_mem _ hx) a b (by omega) hb]
def symV (w : List Int) (x : Int) (i j : Nat) : Nat := if j = i + 1 ∧ w.getD i 0 = x then 1 else 0
def treeF (g : Grammar) (w : List Int) : Nat → Int → Nat → Nat → Nat
  | 0, x, i, j => if x < g.k then symV w x i j else 0
  | f + 1, x, i, j => if x < g.k then symV w x i j else nsum (fun q => if (g.rules.getD q default).left = x - g.k then rowT (treeF g w f) (g.rules.getD q default).right i j else 0) g.rules.length
def Proper (g : Grammar) : Prop := ∀ r, r ∈ g.rules → r.right ≠ [] ∧ ∀ x, r.right = [x] → x < g.k
theorem treeF_sym {g : Grammar} {w : List Int} {f : Nat} {x : Int} {i j : Nat} (h : x < g.k) : treeF g w f x i j = symV w x i j := by
  cases f <;> simp only [treeF, if_pos h]
theorem treeF_stable {g : Grammar} {w : List Int} (hp : Proper g) : ∀ (n f f' : Nat), n < f → n < f' → ∀ (x : Int) (i j : Nat), j - i ≤ n → treeF g w f x i j = treeF g w f' x i j := by
  intro n
  induction n with
  | zero =>
    intro f f' hf hf' x i j hij
    by_cases hx : x < g.k
    · rw [treeF_sym hx, treeF_sym hx]
    cases f with
    | zero => omega
    | succ f => cases f' with
      | zero => omega
      | succ f' =>
        simp only [treeF, if_neg hx]
        refine nsum_ext fun q hq => ?_
        split
        · have hr := hp _ (getD_mem' (l := g.rules) (i := q) hq)
          generalize (g.rules.getD q default).right = l at hr
          match l, hr with
          | [], hr => exact absurd rfl hr.1
          | [s], hr =>
            have := hr.2 s rfl
            show treeF g w f s i j = treeF g w f' s i j
            rw [treeF_sym this, treeF_sym this]
          | s :: s' :: l, hr =>
            show tsum _ _ _ = tsum _ _ _
            rw [tsum_empty (by omega), tsum_empty (by omega)]
        · rfl
  | succ n ih =>
    intro f f' hf hf' x i j hij
    by_cases hx : x < g.k
    · rw [treeF_sym hx, treeF_sym hx]
    cases f with
    | zero => omega
    | succ f => cases f' with
      | zero => omega
      | succ f' =>
        simp only [treeF, if_neg hx]
        refine nsum_ext fun q hq => ?_
        split
        · have hr := hp _ (getD_mem' (l := g.rules) (i := q) hq)
          generalize (g.rules.getD q default).right = l at hr
          match l, hr with
          | [], hr => exact absurd rfl hr.1
          | [s], hr =>
            have := hr.2 s rfl
            show treeF g w f s i j = treeF g w f' s i j
            rw [treeF_sym this, treeF_sym this]
          | s :: s' :: l, hr =>
            refine tsum_ext fun m h1 h2 => ?_
            rw [ih f f' (by omega) (by omega) s i m (by omega), rowT_congr (l := s' :: l) fun x hx a b ha hb => ih f f' (by omega) (by omega) x a b (by omega)]
        · rfl
def trees (g : Grammar) (w : List Int) (x : Int) (i j : Nat) : Nat := treeF g w (j - i + 1) x i j
def rowN (g : Grammar) (w : List Int) (l : List Int) (i j : Nat) : Nat := rowT (trees g w) l i j
theorem trees_sym {g : Grammar} {w : List Int} {x : Int} {i j : Nat} (h : x < g.k) : trees g w x i j = symV w x i j := treeF_sym h
theorem trees_fuel {g : Grammar} {w : List Int} (hp : Proper g) {f : Nat} {x : Int} {i j : Nat} (h : j - i < f) : treeF g w f x i j = trees g w x i j := treeF_stable hp (j - i) _ _ h (by omega) x i j (Nat.le_refl _)
def ruleV (g : Grammar) (w : List Int) (x : Int) (i j q : Nat) : Nat := if (g.rules.getD q default).left = x - g.k then rowN g w (g.rules.getD q default).right i j else 0
theorem trees_name {g : Grammar} {w : List Int} (hp : Proper g) {x : Int} {i j : Nat} (h : ¬ x < g.k) : trees g w x i j = nsum (ruleV g w x i j) g.rules.length := by
  unfold trees
  rw [treeF, if_neg h]
  refine nsum_ext fun q hq => ?_
  unfold ruleV rowN
  split
  · have hr := hp _ (getD_mem' (l := g.rules) (i := q) hq)
    generalize (g.rules.getD q default).right = l at hr
    match l, hr with
    | [], hr => exact absurd rfl hr.1
    | [s], hr =>
      have := hr.2 s rfl
      show treeF g w _ s i j = trees g w s i j
      rw [treeF_sym this, trees_sym this]
    | s :: s' :: l, hr =>
      refine tsum_ext fun m h1 h2 => ?_
      rw [trees_fuel hp (by omega), rowT_congr (l := s' :: l) fun x hx a b ha hb => trees_fuel hp (by omega)]
  · rfl
theorem rowN_nil {g : Grammar} {w : List Int} {i j : Nat} : rowN g w [] i j = if i = j then 1 else 0 := (rfl)
theorem rowN_one {g : Grammar} {w : List Int} {s : Int} {i j : Nat} : rowN g w [s] i j = trees g w s i j := (rfl)
theorem rowN_two {g : Grammar} {w : List Int} {s s' : Int} {l : List Int} {i j : Nat} : rowN g w (s :: s' :: l) i j = tsum (fun m => trees g w s i m * rowN g w (s' :: l) m j) (i + 1) j := (rfl)
theorem rowN_drop {g : Grammar} {w : List Int} {l : List Int} {q i j : Nat} (h : q + 1 < l.length) : rowN g w (l.drop q) i j = tsum (fun m => trees g w (l.getD q 0) i m * rowN g w (l.drop (q + 1)) m j) (i + 1) j := by
  have e : l.drop q = l.getD q 0 :: l.drop (q + 1) := by
    rw [List.drop_eq_getElem_cons (by omega)]; simp [List.getD, show q < l.length by omega]
  have e2 : l.drop (q + 1) = l.getD (q + 1) 0 :: l.drop (q + 2) := by
    rw [List.drop_eq_getElem_cons (by omega)]; simp [List.getD, show q + 1 < l.length by omega]
  rw [e, e2, rowN_two, ← e2]
theorem rowN_last {g : Grammar} {w : List Int} {l : List Int} {q i j : Nat} (h : q + 1 = l.length) : rowN g w (l.drop q) i j = trees g w (l.getD q 0) i j := by
  have e : l.drop q = l.getD q 0 :: l.drop (q + 1) := by
    rw [List.drop_eq_getElem_cons (by omega)]; simp [List.getD, show q < l.length by omega]
  rw [e, List.drop_of_length_le (by omega), rowN_one]
theorem rowT_short {T : Int → Nat → Nat → Nat} (hT : ∀ s a b, b ≤ a → T s a b = 0) : ∀ {l : List Int} {i j : Nat}, j - i < l.length → rowT T l i j = 0
  | [], _, _, h => absurd h (Nat.not_lt_zero _)
  | [s], i, j, h => hT s i j (by simp at h; omega)
  | s :: s' :: l, i, j, h => tsum_zero fun m h1 h2 => by
    rw [rowT_short hT (l := s' :: l) (by simp only [List.length_cons] at h ⊢; omega), Nat.mul_zero]
theorem treeF_none {g : Grammar} {w : List Int} (hp : Proper g) : ∀ {f : Nat} {x : Int} {i j : Nat}, j ≤ i → treeF g w f x i j = 0
  | f, x, i, j, h => by
    by_cases hx : x < g.k
    · rw [treeF_sym hx]; exact if_neg (by omega)
    cases f with
    | zero => simp only [treeF, if_neg hx]
    | succ f =>
      simp only [treeF, if_neg hx]
      refine nsum_zero fun q hq => ?_
      split
      · exact rowT_short (fun s a b hab => treeF_none hp hab) (by
          have hr := (hp _ (getD_mem' (l := g.rules) (i := q) hq)).1
          have := List.length_pos_iff.mpr hr
          omega)
      · rfl
theorem trees_none {g : Grammar} {w : List Int} (hp : Proper g) {x : Int} {i j : Nat} (h : j ≤ i) : trees g w x i j = 0 := treeF_none hp h
theorem rowN_short {g : Grammar} {w : List Int} (hp : Proper g) {l : List Int} {i j : Nat} (h : j - i < l.length) : rowN g w l i j = 0 := rowT_short (fun s a b hab => trees_none hp hab) h
def cp (n : Nat) : Nat := min n 1099511627777
theorem cp_le {n : Nat} : cp n ≤ 1099511627777 := Nat.min_le_right ..
theorem cp_add {a b : Nat} : min (cp a + cp b) 1099511627777 = cp (a + b) := by unfold cp; omega
theorem cp_zero {n : Nat} : cp n = 0 ↔ n = 0 := by unfold cp; omega
theorem cp_mul {a b : Nat} : min (cp a * cp b) 1099511627777 = cp (a * b) := by
  by_cases ha : a = 0
  · subst ha; simp [cp]
  by_cases hb : b = 0
  · subst hb; simp [cp]
  by_cases h1 : a ≤ 1099511627777
  · by_cases h2 : b ≤ 1099511627777
    · have e1 : cp a = a := Nat.min_eq_left h1
      have e2 : cp b = b := Nat.min_eq_left h2
      rw [e1, e2]; rfl
    · have e2 : cp b = 1099511627777 := Nat.min_eq_right (by omega)
      have h3 : 1099511627777 ≤ a * b := Nat.le_trans (show 1099511627777 ≤ b by omega) (Nat.le_mul_of_pos_left b (by omega))
      have h4 : 1099511627777 ≤ cp a * 1099511627777 := Nat.le_mul_of_pos_left _ (by unfold cp; omega)
      rw [e2]; unfold cp at h4 ⊢; omega
  · have e1 : cp a = 1099511627777 := Nat.min_eq_right (by omega)
    have h3 : 1099511627777 ≤ a * b := Nat.le_trans (show 1099511627777 ≤ a by omega) (Nat.le_mul_of_pos_right a (by omega))
    have h4 : 1099511627777 ≤ 1099511627777 * cp b := Nat.le_mul_of_pos_right _ (by unfold cp; omega)
    rw [e1]; unfold cp at h4 ⊢; omega
end Go.Dm
