/-
  grammar.Makes, Void: the names of which some rule has signs of a kind; the laws GrammarMakes, GrammarVoids.
-/
import Derived.Test.YtmhpfgklfpgniaaGram
import Derived.Test.YtmhpfgklfpgniaaBits
namespace Go.Proofs.Ytmhpfgklfpgniaa
open Go.Dm
set_option linter.unusedSimpArgs false
set_option linter.unnecessarySimpa false
set_option linter.unusedVariables false

/-- A rising chain of subsets of n things that goes on by itself stands still at n. -/
theorem chain_stable {n : Nat} (S : Nat → Nat → Bool) (F : (Nat → Bool) → Nat → Bool) (hF : ∀ a b : Nat → Bool, (∀ x, x < n → a x = b x) → ∀ x, x < n → F a x = F b x)
    (hS : ∀ k x, S (k + 1) x = F (S k) x) (hm : ∀ k x, S k x = true → S (k + 1) x = true) : ∀ x, x < n → ∀ k, n ≤ k → S k x = S n x := by
  have still : ∀ k, (∀ x, x < n → S k x = S (k + 1) x) → ∀ j, k ≤ j → ∀ x, x < n → S j x = S k x := by
    intro k hk j hj
    induction j with
    | zero => intro x _; rw [show k = 0 by omega]
    | succ j ih =>
      by_cases e : k = j + 1
      · intro x _; rw [e]
      · intro x hx
        rw [hS, hF _ (S k) (ih (by omega)) x hx, ← hS, hk x hx]
  have cnt : ∀ k, (∃ j, j ≤ k ∧ ∀ x, x < n → S j x = S (j + 1) x) ∨ k < ((List.range n).filter (S (k + 1))).length := by
    intro k
    have step : ∀ k, (¬ ∀ x, x < n → S k x = S (k + 1) x) → ((List.range n).filter (S k)).length < ((List.range n).filter (S (k + 1))).length := by
      intro k hk
      simp only [Classical.not_forall, Classical.not_imp] at hk
      obtain ⟨x, hx, hne⟩ := hk
      rw [← List.countP_eq_length_filter, ← List.countP_eq_length_filter]
      have h1 : S k x = false := by
        cases h : S k x
        · rfl
        · exact absurd (by rw [h, hm k x h]) hne
      have h2 : S (k + 1) x = true := by
        cases h : S (k + 1) x
        · exact absurd (by rw [h1, h]) hne
        · rfl
      have aux : ∀ l : List Nat, l.countP (S k) ≤ l.countP (S (k + 1)) := fun l => List.countP_mono_left fun y _ h => hm k y h
      obtain ⟨l1, l2, e⟩ := List.append_of_mem (List.mem_range.2 hx)
      rw [e, List.countP_append, List.countP_append, List.countP_cons, List.countP_cons, h1, h2]
      have := aux l1
      have := aux l2
      simp
      omega
    induction k with
    | zero =>
      by_cases h : ∀ x, x < n → S 0 x = S 1 x
      · exact .inl ⟨0, by omega, h⟩
      · exact .inr (Nat.lt_of_le_of_lt (Nat.zero_le _) (step 0 h))
    | succ k ih =>
      rcases ih with ⟨j, hj, h⟩ | h
      · exact .inl ⟨j, by omega, h⟩
      · by_cases h2 : ∀ x, x < n → S (k + 1) x = S (k + 2) x
        · exact .inl ⟨k + 1, by omega, h2⟩
        · exact .inr (Nat.lt_of_le_of_lt h (step (k + 1) h2))
  intro x hx k hk
  rcases cnt n with ⟨j, hj, h⟩ | h
  · rw [still j h k (by omega) x hx, still j h n hj x hx]
  · have := List.length_filter_le (S (n + 1)) (List.range n)
    rw [List.length_range] at this
    omega

/-- A sign is made by trees that are no deeper; void: of nothing. -/
def mkS (g : Grammar) (void : Bool) : Nat → Int → Bool
  | 0, x => decide (x < g.k) && !void
  | d + 1, x => if x < g.k then !void else g.rules.any fun r => decide (r.left = x - g.k) && r.right.all fun y => mkS g void d y
theorem mkS_sym {g : Grammar} {void : Bool} {d : Nat} {x : Int} (h : x < g.k) : mkS g void d x = !void := by
  cases d
  · rw [mkS, decide_eq_true h, Bool.true_and]
  · rw [mkS, if_pos h]
theorem mkS_mono {g : Grammar} {void : Bool} : ∀ {d : Nat} {x : Int}, mkS g void d x = true → mkS g void (d + 1) x = true
  | 0, x, h => by
    rw [mkS, Bool.and_eq_true, decide_eq_true_eq] at h
    rw [mkS_sym h.1]; exact h.2
  | d + 1, x, h => by
    rw [mkS] at h ⊢
    split
    · next hx => rw [if_pos hx] at h; exact h
    · next hx =>
      rw [if_neg hx] at h
      simp only [List.any_eq_true, Bool.and_eq_true, List.all_eq_true] at h ⊢
      obtain ⟨r, hr, h1, h2⟩ := h
      exact ⟨r, hr, h1, fun y hy => mkS_mono (h2 y hy)⟩
def mkN (g : Grammar) (void : Bool) (d i : Nat) : Bool := mkS g void d (g.k + i)
/-- All signs are of a kind. -/
def allOf (g : Grammar) (symbols : Bool) (S : Nat → Bool) (l : List Int) : Bool := l.all fun y => if y < g.k then symbols else S (y - g.k).toNat
theorem mkN_succ {g : Grammar} {void : Bool} {d i : Nat} : mkN g void (d + 1) i = g.rules.any fun r => decide (r.left = (i : Int)) && allOf g (!void) (mkN g void d) r.right := by
  unfold mkN
  rw [mkS, if_neg (by omega)]
  congr 1
  funext r
  rw [show g.k + (i : Int) - g.k = i by omega]
  congr 1
  unfold allOf
  congr 1
  funext y
  split
  · next h => exact mkS_sym h
  · next h =>
    show _ = mkS g void d (g.k + ((y - g.k).toNat : Int))
    rw [show g.k + ((y - g.k).toNat : Int) = y by omega]
theorem mkN_zero {g : Grammar} {void : Bool} {i : Nat} : mkN g void 0 i = false := by
  unfold mkN
  rw [mkS, decide_eq_false (by omega)]; rfl
theorem mkN_mono {g : Grammar} {void : Bool} {d i : Nat} (h : mkN g void d i = true) : mkN g void (d + 1) i = true := mkS_mono h
theorem mkN_le {g : Grammar} {void : Bool} {d e i : Nat} (he : d ≤ e) (h : mkN g void d i = true) : mkN g void e i = true := by
  obtain ⟨c, rfl⟩ := Nat.exists_eq_add_of_le he
  induction c with
  | zero => exact h
  | succ c ih => exact mkN_mono (ih (by omega))
/-- A grammar whose signs are all in their bounds. -/
structure Valid (g : Grammar) : Prop where
  k : 1 ≤ g.k ∧ g.k ≤ 3
  n : 1 ≤ g.n ∧ g.n ≤ 5
  start : 0 ≤ g.start ∧ g.start < g.n
  len : g.rules.length ≤ 10
  left : ∀ r, r ∈ g.rules → 0 ≤ r.left ∧ r.left < g.n
  long : ∀ r, r ∈ g.rules → r.right.length ≤ 4
  right : ∀ r, r ∈ g.rules → ∀ y, y ∈ r.right → 0 ≤ y ∧ y < g.k + g.n
theorem valid_of {g : Grammar} (h : gcode g = 0) : Valid g := by
  rw [gcode_b] at h
  split at h
  · omega
  · next h1 =>
    split at h
    · omega
    · next h2 =>
      split at h
      · omega
      · next h3 =>
        split at h
        · omega
        · next h4 =>
          have hr : ∀ r, r ∈ g.rules → badRule g r = false := fun r hm => by
            cases hb : badRule g r
            · rfl
            · exact absurd (List.any_eq_true.2 ⟨r, hm, hb⟩) h4
          have hs : ∀ r, r ∈ g.rules → (0 ≤ r.left ∧ r.left < g.n) ∧ isSigns g r.right = true := fun r hm => by
            have := hr r hm
            simpa [badRule] using this
          refine ⟨by omega, by omega, by omega, by omega, fun r hm => (hs r hm).1, fun r hm => ?_, fun r hm y hy => ?_⟩
          · have : ¬ (4 < r.right.length) := fun hl => h2 (List.any_eq_true.2 ⟨r, hm, decide_eq_true hl⟩)
            omega
          · have := List.all_eq_true.1 (hs r hm).2 y hy
            exact of_decide_eq_true this
theorem allOf_congr {g : Grammar} {sy : Bool} {S T : Nat → Bool} {l : List Int} (hl : ∀ y, y ∈ l → 0 ≤ y ∧ y < g.k + g.n) (h : ∀ x, x < g.n.toNat → S x = T x) : allOf g sy S l = allOf g sy T l := by
  unfold allOf
  rw [Bool.eq_iff_iff, List.all_eq_true, List.all_eq_true]
  have hh : ∀ y, y ∈ l → (if y < g.k then sy else S (y - g.k).toNat) = (if y < g.k then sy else T (y - g.k).toNat) := fun y hy => by
    split
    · rfl
    · exact h _ (by have := hl y hy; omega)
  exact ⟨fun a y hy => by rw [← hh y hy]; exact a y hy, fun a y hy => by rw [hh y hy]; exact a y hy⟩
theorem any_congr {α : Type} {p q : α → Bool} {l : List α} (h : ∀ a, a ∈ l → p a = q a) : l.any p = l.any q := by
  rw [Bool.eq_iff_iff, List.any_eq_true, List.any_eq_true]
  exact ⟨fun ⟨a, ha, hp⟩ => ⟨a, ha, by rw [← h a ha]; exact hp⟩, fun ⟨a, ha, hp⟩ => ⟨a, ha, by rw [h a ha]; exact hp⟩⟩
theorem mkN_stable {g : Grammar} (hv : Valid g) {void : Bool} {d i : Nat} (hi : (i : Int) < g.n) (h : mkN g void d i = true) : mkN g void g.n.toNat i = true := by
  have hs := chain_stable (n := g.n.toNat) (fun d i => mkN g void d i) (fun S i => g.rules.any fun r => decide (r.left = (i : Int)) && allOf g (!void) S r.right)
    (fun a b hab x hx => any_congr fun r hr => by rw [allOf_congr (hv.right r hr) hab]) (fun k x => mkN_succ) (fun k x => mkN_mono) i (by omega)
  by_cases hd : g.n.toNat ≤ d
  · rw [← hs d hd]; exact h
  · exact mkN_le (by omega) h
/-- The names of which it is so. -/
def nameSet (g : Grammar) (void : Bool) : Nat := setOf (mkN g void g.n.toNat) g.n.toNat
theorem closed_all {g : Grammar} (hv : Valid g) {void : Bool} {S : Nat} (hc : ∀ r, r ∈ g.rules → allOf g (!void) S.testBit r.right = true → S.testBit r.left.toNat = true) : ∀ {d i : Nat}, mkN g void d i = true → S.testBit i = true
  | 0, i, h => by rw [mkN_zero] at h; cases h
  | d + 1, i, h => by
    rw [mkN_succ] at h
    simp only [List.any_eq_true, Bool.and_eq_true, decide_eq_true_eq] at h
    obtain ⟨r, hr, h1, h2⟩ := h
    have h3 := hc r hr (by
      unfold allOf at h2 ⊢
      rw [List.all_eq_true] at h2 ⊢
      intro y hy
      have := h2 y hy
      split
      · next hk => rw [if_pos hk] at this; exact this
      · next hk => rw [if_neg hk] at this; exact closed_all hv hc this)
    rw [h1, Int.toNat_natCast] at h3
    exact h3
theorem sound_step {g : Grammar} {void : Bool} {S : Nat} {r : Rule} (hv : Valid g) (hr : r ∈ g.rules) (hs : ∀ x, S.testBit x = true → ∃ d, mkN g void d x = true) (h : allOf g (!void) S.testBit r.right = true) : ∃ d, mkN g void d r.left.toNat = true := by
  have : ∀ l : List Int, (∀ y, y ∈ l → (if y < g.k then !void else S.testBit (y - g.k).toNat) = true) → ∃ d, allOf g (!void) (mkN g void d) l = true := by
    intro l
    induction l with
    | nil => intro _; exact ⟨0, rfl⟩
    | cons y l ih =>
      intro hl
      obtain ⟨d, hd⟩ := ih fun z hz => hl z (by simp [hz])
      have hy := hl y (by simp)
      unfold allOf at hd ⊢
      by_cases hk : y < g.k
      · rw [if_pos hk] at hy
        exact ⟨d, by rw [List.all_cons, if_pos hk, hd, hy]; rfl⟩
      · rw [if_neg hk] at hy
        obtain ⟨e, he⟩ := hs _ hy
        refine ⟨max d e, ?_⟩
        rw [List.all_cons, if_neg hk, mkN_le (Nat.le_max_right d e) he, Bool.true_and]
        rw [List.all_eq_true] at hd ⊢
        intro z hz
        have := hd z hz
        split
        · next hz2 => rw [if_pos hz2] at this; exact this
        · next hz2 => rw [if_neg hz2] at this; exact mkN_le (Nat.le_max_left d e) this
  unfold allOf at h
  rw [List.all_eq_true] at h
  obtain ⟨d, hd⟩ := this r.right h
  refine ⟨d + 1, ?_⟩
  rw [mkN_succ]
  have hl := (hv.left r hr).1
  exact List.any_eq_true.2 ⟨r, hr, by rw [hd, decide_eq_true (by omega)]; rfl⟩
theorem chg {p : Prop} {a b : Bool} [Decidable p] (h : a = b) : (if p then a else b) = b := by split <;> first | exact h | rfl
end Go.Proofs.Ytmhpfgklfpgniaa
