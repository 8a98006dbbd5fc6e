/-
  Sentences: the language of each node; what stretches of a word it takes.
-/
import Derived.Test.YtmhpfgklfpgniaaDmX
namespace Go.Dm
set_option linter.unusedSimpArgs false
set_option linter.unnecessarySimpa false
set_option linter.unusedVariables false

abbrev Lg := List Int → Prop
def noL : Lg := fun _ => False
instance : Inhabited Lg := ⟨noL⟩
/-- Any number of words of a language, one behind another. -/
inductive Star (L : Lg) : Lg
  | nil : Star L []
  | app {a b : List Int} (h : L a) (t : Star L b) : Star L (a ++ b)
def catL (A B : Lg) : Lg := fun u => ∃ a b, A a ∧ B b ∧ u = a ++ b
def orL (A B : Lg) : Lg := fun u => A u ∨ B u
def emL : Lg := fun u => u = []
def syL (s : Int) : Lg := fun u => u = [s]
def stepL (Ls : List Lg) (x : Node) : Lg :=
  if x.kind = 2 then emL else if x.kind = 3 then syL x.a
  else if x.kind = 4 then catL (Ls.getD x.a.toNat noL) (Ls.getD x.b.toNat noL)
  else if x.kind = 5 then orL (Ls.getD x.a.toNat noL) (Ls.getD x.b.toNat noL)
  else if x.kind = 6 then Star (Ls.getD x.a.toNat noL) else noL
/-- The languages of all nodes. -/
def langs (l : List Node) : List Lg := l.foldl (fun Ls x => Ls ++ [stepL Ls x]) []
def lang (l : List Node) (k : Nat) : Lg := (langs l).getD k noL
theorem langs_snoc {l : List Node} {x : Node} : langs (l ++ [x]) = langs l ++ [stepL (langs l) x] := by
  unfold langs; rw [List.foldl_append]; rfl
theorem snoc_ind {α : Type} {P : List α → Prop} (h0 : P []) (h1 : ∀ l x, P l → P (l ++ [x])) (l : List α) : P l := by
  have : ∀ r : List α, P r.reverse := fun r => by
    induction r with
    | nil => exact h0
    | cons x r ih => rw [List.reverse_cons]; exact h1 _ _ ih
  have h := this l.reverse
  rwa [List.reverse_reverse] at h
theorem langs_len {l : List Node} : (langs l).length = l.length := by
  induction l using snoc_ind with
  | h0 => rfl
  | h1 l x ih => rw [langs_snoc, List.length_append, List.length_append, ih]; rfl
theorem lang_pre {l r : List Node} {k : Nat} (h : k < l.length) : lang (l ++ r) k = lang l k := by
  induction r using snoc_ind with
  | h0 => rw [List.append_nil]
  | h1 r x ih =>
    rw [← ih, ← List.append_assoc]
    unfold lang
    rw [langs_snoc]
    have : k < (langs (l ++ r)).length := by rw [langs_len, List.length_append]; omega
    simp [List.getD, List.getElem?_append_left this]
theorem lang_last {l : List Node} {x : Node} : lang (l ++ [x]) l.length = stepL (langs l) x := by
  unfold lang
  rw [langs_snoc]
  have := @langs_len l
  simp [List.getD, ← this]
theorem lang_at {l : List Node} {k : Nat} (h : k < l.length) : lang l k = stepL (langs (l.take k)) (l.getD k default) := by
  have e : l = (l.take k ++ [l.getD k default]) ++ l.drop (k + 1) := by
    rw [← take_succ_getD h, List.take_append_drop]
  have h2 : (l.take k).length = k := by simp; omega
  conv => lhs; rw [e]
  rw [lang_pre (by rw [List.length_append, h2]; simp)]
  have := @lang_last (l.take k) (l.getD k default)
  rwa [h2] at this
theorem langs_take {l : List Node} {k a : Nat} (h : k ≤ l.length) (ha : a < k) : (langs (l.take k)).getD a noL = lang l a := by
  have h2 : (l.take k).length = k := by simp; omega
  have := @lang_pre (l.take k) (l.drop k) a (by omega)
  rw [List.take_append_drop] at this
  exact this.symm
/-- The nodes are right. -/
def NodeOk (k : Int) (i : Nat) (n : Node) : Prop := 1 ≤ n.kind ∧ n.kind ≤ 6 ∧ (n.kind = 3 → 0 ≤ n.a ∧ n.a < k) ∧ (4 ≤ n.kind → 0 ≤ n.a ∧ n.a < i) ∧ (n.kind = 4 ∨ n.kind = 5 → 0 ≤ n.b ∧ n.b < i)
def NodesOk (k : Int) (l : List Node) : Prop := ∀ i, i < l.length → NodeOk k i (l.getD i default)
section
variable {k : Int} {l : List Node} {i : Nat}
theorem lang_1 (h : i < l.length) (e : (l.getD i default).kind = 1) : lang l i = noL := by rw [lang_at h]; unfold stepL; rw [e]; rfl
theorem lang_2 (h : i < l.length) (e : (l.getD i default).kind = 2) : lang l i = emL := by rw [lang_at h]; unfold stepL; rw [e]; rfl
theorem lang_3 (h : i < l.length) (e : (l.getD i default).kind = 3) : lang l i = syL (l.getD i default).a := by rw [lang_at h]; unfold stepL; rw [e]; rfl
theorem lang_4 (hv : NodesOk k l) (h : i < l.length) (e : (l.getD i default).kind = 4) : lang l i = catL (lang l (l.getD i default).a.toNat) (lang l (l.getD i default).b.toNat) := by
  have := hv i h
  obtain ⟨h1, h2, h3, h4, h5⟩ := this
  have h4 := h4 (by omega)
  have h5 := h5 (.inl e)
  rw [lang_at h]
  simp only [stepL, e]
  rw [langs_take (by omega) (by omega), langs_take (by omega) (by omega)]
  rfl
theorem lang_5 (hv : NodesOk k l) (h : i < l.length) (e : (l.getD i default).kind = 5) : lang l i = orL (lang l (l.getD i default).a.toNat) (lang l (l.getD i default).b.toNat) := by
  have := hv i h
  obtain ⟨h1, h2, h3, h4, h5⟩ := this
  have h4 := h4 (by omega)
  have h5 := h5 (.inr e)
  rw [lang_at h]
  simp only [stepL, e]
  rw [langs_take (by omega) (by omega), langs_take (by omega) (by omega)]
  rfl
theorem lang_6 (hv : NodesOk k l) (h : i < l.length) (e : (l.getD i default).kind = 6) : lang l i = Star (lang l (l.getD i default).a.toNat) := by
  have := hv i h
  obtain ⟨h1, h2, h3, h4, h5⟩ := this
  have h4 := h4 (by omega)
  rw [lang_at h]
  simp only [stepL, e]
  rw [langs_take (by omega) (by omega)]
  rfl
end

/-! ### Stretches of a word -/
def seg (w : List Int) (i j : Nat) : List Int := (w.drop i).take (j - i)
section
variable {w : List Int} {i m j : Nat}
theorem seg_len (hj : j ≤ w.length) : (seg w i j).length = j - i := by simp [seg]; omega
theorem seg_self : seg w i i = [] := by simp [seg]
theorem seg_all : seg w 0 w.length = w := by simp [seg]
theorem seg_app (h1 : i ≤ m) (h2 : m ≤ j) (h3 : j ≤ w.length) : seg w i j = seg w i m ++ seg w m j := by
  unfold seg
  have e : j - i = (m - i) + (j - m) := by omega
  rw [e, List.take_add, List.drop_drop, show i + (m - i) = m by omega]
theorem seg_one (h : i < w.length) : seg w i (i + 1) = [w.getD i 0] := by
  unfold seg
  rw [show i + 1 - i = 1 by omega, List.drop_eq_getElem_cons h, List.take_succ_cons, List.take_zero]
  simp [List.getD, h]
theorem seg_split {a b : List Int} (h1 : i ≤ j) (h2 : j ≤ w.length) (h : seg w i j = a ++ b) : a = seg w i (i + a.length) ∧ b = seg w (i + a.length) j ∧ i + a.length ≤ j := by
  have hl := seg_len (i := i) h2
  rw [h, List.length_append] at hl
  have e := seg_app (m := i + a.length) (i := i) (j := j) (w := w) (by omega) (by omega) h2
  rw [h] at e
  have h3 : (seg w i (i + a.length)).length = a.length := by rw [seg_len (by omega)]; omega
  have := List.append_inj e h3.symm
  exact ⟨this.1, this.2, by omega⟩
end
/-- Node k takes the stretch from i to j. -/
def Mt (l : List Node) (w : List Int) (k i j : Nat) : Prop := i ≤ j ∧ lang l k (seg w i j)
theorem cat_seg {A B : Lg} {w : List Int} {i j : Nat} (h : i ≤ j) (hj : j ≤ w.length) : catL A B (seg w i j) ↔ ∃ m, i ≤ m ∧ m ≤ j ∧ A (seg w i m) ∧ B (seg w m j) := by
  constructor
  · rintro ⟨a, b, ha, hb, e⟩
    obtain ⟨e1, e2, e3⟩ := seg_split h hj e
    exact ⟨i + a.length, by omega, e3, e1 ▸ ha, e2 ▸ hb⟩
  · rintro ⟨m, h1, h2, ha, hb⟩
    exact ⟨_, _, ha, hb, seg_app h1 h2 hj⟩
theorem star_app {L : Lg} {a b : List Int} (ha : Star L a) (hb : Star L b) : Star L (a ++ b) := by
  induction ha with
  | nil => exact hb
  | app h t ih => rw [List.append_assoc]; exact .app h ih
theorem star_one {L : Lg} {a : List Int} (h : L a) : Star L a := by
  have := Star.app h Star.nil
  rwa [List.append_nil] at this
theorem star_front {L : Lg} {u : List Int} (h : Star L u) : u = [] ∨ ∃ a b, a ≠ [] ∧ L a ∧ Star L b ∧ u = a ++ b := by
  induction h with
  | nil => exact .inl rfl
  | @app a b h t ih =>
    by_cases e : a = []
    · subst e; exact ih
    · exact .inr ⟨a, b, e, h, t, rfl⟩
theorem star_back {L : Lg} {u : List Int} (h : Star L u) : u = [] ∨ ∃ a b, b ≠ [] ∧ Star L a ∧ L b ∧ u = a ++ b := by
  induction h with
  | nil => exact .inl rfl
  | @app a b h t ih =>
    rcases ih with e | ⟨a', b', e, h1, h2, h3⟩
    · subst e
      by_cases e : a = []
      · left; rw [e]; rfl
      · exact .inr ⟨[], a, e, .nil, h, by simp⟩
    · exact .inr ⟨a ++ a', b', e, .app h h1, h2, by rw [h3, List.append_assoc]⟩
theorem star_seg {L : Lg} {w : List Int} {i j : Nat} (h : i ≤ j) (hj : j ≤ w.length) : Star L (seg w i j) ↔ i = j ∨ ∃ m, i + 1 ≤ m ∧ m ≤ j ∧ L (seg w i m) ∧ Star L (seg w m j) := by
  constructor
  · intro hs
    rcases star_front hs with e | ⟨a, b, e, ha, hb, e2⟩
    · left
      have := seg_len (i := i) hj
      rw [e] at this; simp at this; omega
    · obtain ⟨e1, e2, e3⟩ := seg_split h hj e2
      have : 0 < a.length := List.length_pos_iff.mpr e
      exact .inr ⟨i + a.length, by omega, e3, e1 ▸ ha, e2 ▸ hb⟩
  · rintro (e | ⟨m, h1, h2, ha, hb⟩)
    · subst e; rw [seg_self]; exact .nil
    · rw [seg_app (m := m) (by omega) h2 hj]; exact .app ha hb
/-- After q rounds from the left. -/
def Pw (A : Nat → Nat → Prop) : Nat → Nat → Nat → Prop
  | 0, i, j => i = j
  | q + 1, i, j => Pw A q i j ∨ ∃ m, Pw A q i m ∧ A m j
theorem pw_mono {A : Nat → Nat → Prop} {q r i j : Nat} (h : q ≤ r) (hp : Pw A q i j) : Pw A r i j := by
  induction h with
  | refl => exact hp
  | step _ ih => exact .inl ih
theorem pw_le {A : Nat → Nat → Prop} (hA : ∀ a b, A a b → a ≤ b) : ∀ {q i j : Nat}, Pw A q i j → i ≤ j
  | 0, i, j, h => Nat.le_of_eq h
  | q + 1, i, j, h => by
    rcases h with h | ⟨m, h1, h2⟩
    · exact pw_le hA h
    · exact Nat.le_trans (pw_le hA h1) (hA _ _ h2)
theorem star_pw {L : Lg} {w : List Int} : ∀ {n i j : Nat}, i ≤ j → j ≤ w.length → j - i ≤ n → (Star L (seg w i j) ↔ Pw (fun a b => a ≤ b ∧ b ≤ w.length ∧ L (seg w a b)) n i j) := by
  intro n
  induction n with
  | zero =>
    intro i j h hj hn
    have : i = j := by omega
    subst this
    rw [seg_self]
    exact ⟨fun _ => rfl, fun _ => .nil⟩
  | succ n ih =>
    intro i j h hj hn
    constructor
    · intro hs
      rcases star_back hs with e | ⟨a, b, e, ha, hb, e2⟩
      · have := seg_len (i := i) hj
        rw [e] at this; simp at this
        exact pw_mono (Nat.zero_le _) (show i = j by omega)
      · obtain ⟨e1, e2, e3⟩ := seg_split h hj e2
        have hb0 : 0 < b.length := List.length_pos_iff.mpr e
        have hl := seg_len (i := i + a.length) hj
        rw [← e2] at hl
        refine .inr ⟨i + a.length, (ih (by omega) (by omega) (by omega)).mp (e1 ▸ ha), e3, hj, e2 ▸ hb⟩
    · rintro (h1 | ⟨m, h1, h2, h3, h4⟩)
      · have aux : ∀ {q i j : Nat}, j ≤ w.length → Pw (fun a b => a ≤ b ∧ b ≤ w.length ∧ L (seg w a b)) q i j → Star L (seg w i j) := by
          intro q
          induction q with
          | zero => intro i j _ h; subst h; rw [seg_self]; exact .nil
          | succ q ihq =>
            intro i j hj h
            rcases h with h | ⟨m, h1, h2, h3, h4⟩
            · exact ihq hj h
            · have := pw_le (fun a b h => h.1) h1
              rw [seg_app this h2 hj]
              exact star_app (ihq (by omega) h1) (star_one h4)
        exact aux hj h1
      · have aux : ∀ {q i j : Nat}, j ≤ w.length → Pw (fun a b => a ≤ b ∧ b ≤ w.length ∧ L (seg w a b)) q i j → Star L (seg w i j) := by
          intro q
          induction q with
          | zero => intro i j _ h; subst h; rw [seg_self]; exact .nil
          | succ q ihq =>
            intro i j hj h
            rcases h with h | ⟨m, h1, h2, h3, h4⟩
            · exact ihq hj h
            · have := pw_le (fun a b h => h.1) h1
              rw [seg_app this h2 hj]
              exact star_app (ihq (by omega) h1) (star_one h4)
        have := pw_le (fun a b h => h.1) h1
        rw [seg_app this h2 hj]
        exact star_app (aux (by omega) h1) (star_one h4)
section
variable {k : Int} {l : List Node} {w : List Int} {x i j : Nat}
theorem mt_1 (h : x < l.length) (e : (l.getD x default).kind = 1) : ¬ Mt l w x i j := by
  rintro ⟨_, h2⟩; rw [lang_1 h e] at h2; exact h2
theorem mt_2 (h : x < l.length) (e : (l.getD x default).kind = 2) (hj : j ≤ w.length) : Mt l w x i j ↔ i = j := by
  unfold Mt; rw [lang_2 h e]
  constructor
  · rintro ⟨h1, h2⟩
    have := seg_len (i := i) hj
    rw [show seg w i j = [] from h2] at this; simp at this; omega
  · rintro rfl; exact ⟨Nat.le_refl _, seg_self⟩
theorem mt_3 (h : x < l.length) (e : (l.getD x default).kind = 3) (hj : j ≤ w.length) : Mt l w x i j ↔ j = i + 1 ∧ w.getD i 0 = (l.getD x default).a := by
  unfold Mt; rw [lang_3 h e]
  constructor
  · rintro ⟨h1, h2⟩
    have h3 := seg_len (i := i) hj
    rw [show seg w i j = [_] from h2] at h3
    have h4 : j = i + 1 := by simp at h3; omega
    subst h4
    rw [syL, seg_one (by omega)] at h2
    exact ⟨rfl, by simpa using h2⟩
  · rintro ⟨rfl, h2⟩
    exact ⟨by omega, by rw [syL, seg_one (by omega), h2]⟩
theorem mt_4 (hv : NodesOk k l) (h : x < l.length) (e : (l.getD x default).kind = 4) (hj : j ≤ w.length) : Mt l w x i j ↔ ∃ m, i ≤ m ∧ m ≤ j ∧ Mt l w (l.getD x default).a.toNat i m ∧ Mt l w (l.getD x default).b.toNat m j := by
  unfold Mt; rw [lang_4 hv h e]
  constructor
  · rintro ⟨h1, h2⟩
    obtain ⟨m, a, b, c, d⟩ := (cat_seg h1 hj).mp h2
    exact ⟨m, a, b, ⟨a, c⟩, b, d⟩
  · rintro ⟨m, a, b, ⟨_, c⟩, _, d⟩
    exact ⟨by omega, (cat_seg (by omega) hj).mpr ⟨m, a, b, c, d⟩⟩
theorem mt_5 (hv : NodesOk k l) (h : x < l.length) (e : (l.getD x default).kind = 5) : Mt l w x i j ↔ Mt l w (l.getD x default).a.toNat i j ∨ Mt l w (l.getD x default).b.toNat i j := by
  unfold Mt; rw [lang_5 hv h e]
  unfold orL
  constructor
  · rintro ⟨h1, h2 | h2⟩
    · exact .inl ⟨h1, h2⟩
    · exact .inr ⟨h1, h2⟩
  · rintro (⟨h1, h2⟩ | ⟨h1, h2⟩)
    · exact ⟨h1, .inl h2⟩
    · exact ⟨h1, .inr h2⟩
theorem mt_6 (hv : NodesOk k l) (h : x < l.length) (e : (l.getD x default).kind = 6) (hi : i ≤ j) (hj : j ≤ w.length) : Mt l w x i j ↔ i = j ∨ ∃ m, i + 1 ≤ m ∧ m ≤ j ∧ Mt l w (l.getD x default).a.toNat i m ∧ Mt l w x m j := by
  unfold Mt; rw [lang_6 hv h e]
  constructor
  · rintro ⟨h1, h2⟩
    rcases (star_seg h1 hj).mp h2 with e | ⟨m, a, b, c, d⟩
    · exact .inl e
    · exact .inr ⟨m, a, b, ⟨by omega, c⟩, b, d⟩
  · rintro (e | ⟨m, a, b, ⟨_, c⟩, _, d⟩)
    · exact ⟨hi, (star_seg hi hj).mpr (.inl e)⟩
    · exact ⟨hi, (star_seg hi hj).mpr (.inr ⟨m, a, b, c, d⟩)⟩
theorem mt_6p (hv : NodesOk k l) (h : x < l.length) (e : (l.getD x default).kind = 6) (hj : j ≤ w.length) : Mt l w x i j ↔ i ≤ j ∧ Pw (fun a b => b ≤ w.length ∧ Mt l w (l.getD x default).a.toNat a b) (w.length + 1) i j := by
  have e2 : (fun a b => b ≤ w.length ∧ Mt l w (l.getD x default).a.toNat a b) = fun a b => a ≤ b ∧ b ≤ w.length ∧ lang l (l.getD x default).a.toNat (seg w a b) := by
    funext a b
    exact propext ⟨fun h => ⟨h.2.1, h.1, h.2.2⟩, fun h => ⟨h.2.1, h.1, h.2.2⟩⟩
  rw [e2]
  unfold Mt; rw [lang_6 hv h e]
  constructor
  · rintro ⟨h1, h2⟩
    exact ⟨h1, (star_pw h1 hj (by omega)).mp h2⟩
  · rintro ⟨h1, h2⟩
    exact ⟨h1, (star_pw h1 hj (by omega)).mpr h2⟩
end
/-- Does the last node take all of the word? -/
def Tk (l : List Node) (w : List Int) : Prop := lang l (l.length - 1) w
theorem tk_mt {l : List Node} {w : List Int} : Tk l w ↔ Mt l w (l.length - 1) 0 w.length := by
  unfold Tk Mt; rw [seg_all]; simp
end Go.Dm
