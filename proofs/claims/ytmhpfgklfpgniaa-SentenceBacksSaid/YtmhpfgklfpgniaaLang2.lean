/-
  Sentences: turned round; one put behind another.
-/
import Derived.Test.YtmhpfgklfpgniaaLang
namespace Go.Dm
set_option linter.unusedSimpArgs false
set_option linter.unnecessarySimpa false
set_option linter.unusedVariables false

/-- Turned round. -/
def revL (L : Lg) : Lg := fun u => L u.reverse
def bkN (x : Node) : Node := if x.kind = 4 then ⟨x.kind, x.b, x.a⟩ else x
theorem rev_star {L : Lg} {u : List Int} (h : Star L u) : Star (revL L) u.reverse := by
  induction h with
  | nil => exact .nil
  | @app a b h t ih =>
    rw [List.reverse_append]
    exact star_app ih (star_one (by unfold revL; rw [List.reverse_reverse]; exact h))
theorem star_rev {L : Lg} : Star (revL L) = revL (Star L) := by
  funext u
  apply propext
  constructor
  · intro h
    have := rev_star h
    have e : revL (revL L) = L := by funext v; unfold revL; rw [List.reverse_reverse]
    rw [e] at this
    exact this
  · intro h
    have := rev_star h
    rwa [List.reverse_reverse] at this
theorem cat_rev {A B : Lg} : catL (revL B) (revL A) = revL (catL A B) := by
  funext u
  apply propext
  unfold catL revL
  constructor
  · rintro ⟨a, b, h1, h2, rfl⟩
    exact ⟨b.reverse, a.reverse, h2, h1, by rw [List.reverse_append]⟩
  · rintro ⟨a, b, h1, h2, h3⟩
    refine ⟨b.reverse, a.reverse, by rw [List.reverse_reverse]; exact h2, by rw [List.reverse_reverse]; exact h1, ?_⟩
    rw [← List.reverse_append, ← h3, List.reverse_reverse]
theorem getD_rev {Ls : List Lg} {i : Nat} : (Ls.map revL).getD i noL = revL (Ls.getD i noL) := by
  simp only [List.getD, List.getElem?_map]
  cases Ls[i]? with
  | none => rfl
  | some L => rfl
theorem step_rev {Ls : List Lg} {x : Node} : stepL (Ls.map revL) (bkN x) = revL (stepL Ls x) := by
  unfold stepL bkN
  by_cases h4 : x.kind = 4
  · simp only [if_pos h4, h4]
    rw [getD_rev, getD_rev]
    show catL _ _ = revL (catL _ _)
    exact cat_rev
  · simp only [if_neg h4]
    by_cases h2 : x.kind = 2
    · simp only [if_pos h2]
      funext u; apply propext; unfold revL emL; simp
    · simp only [if_neg h2]
      by_cases h3 : x.kind = 3
      · simp only [if_pos h3]
        funext u; apply propext; unfold revL syL
        constructor
        · rintro rfl; rfl
        · intro h
          have := congrArg List.reverse h
          rwa [List.reverse_reverse] at this
      · simp only [if_neg h3]
        by_cases h5 : x.kind = 5
        · simp only [if_pos h5]
          rw [getD_rev, getD_rev]; rfl
        · simp only [if_neg h5]
          by_cases h6 : x.kind = 6
          · simp only [if_pos h6]
            rw [getD_rev, star_rev]
          · simp only [if_neg h6]; rfl
theorem langs_rev {l : List Node} : langs (l.map bkN) = (langs l).map revL := by
  induction l using snoc_ind with
  | h0 => rfl
  | h1 l x ih => rw [List.map_append, List.map_cons, List.map_nil, langs_snoc, langs_snoc, ih, step_rev, List.map_append]; rfl
theorem tk_rev {l : List Node} {u : List Int} : Tk (l.map bkN) u.reverse ↔ Tk l u := by
  unfold Tk lang
  rw [langs_rev, getD_rev, List.length_map]
  unfold revL
  rw [List.reverse_reverse]
theorem bk_ok {k : Int} {l : List Node} (h : NodesOk k l) : NodesOk k (l.map bkN) := by
  intro i hi
  rw [List.length_map] at hi
  have e : (l.map bkN).getD i default = bkN (l.getD i default) := by simp [List.getD, hi]
  rw [e]
  obtain ⟨h1, h2, h3, h4, h5⟩ := h i hi
  unfold bkN
  by_cases hk : (l.getD i default).kind = 4
  · rw [if_pos hk]
    exact ⟨h1, h2, fun e => by have e : (l.getD i default).kind = 3 := e; omega, fun _ => h5 (.inl hk), fun _ => h4 (by omega)⟩
  · rw [if_neg hk]; exact ⟨h1, h2, h3, h4, h5⟩

/-! ### One behind another -/
/-- Nodes that stand behind n others. -/
def shN (n : Nat) (x : Node) : Node := if x.kind = 4 ∨ x.kind = 5 then ⟨x.kind, x.a + n, x.b + n⟩ else if x.kind = 6 then ⟨x.kind, x.a + n, x.b⟩ else x
theorem getD_sh {A B : List Lg} {i : Int} {n : Nat} (hn : A.length = n) (hi : 0 ≤ i) : (A ++ B).getD (i + n).toNat noL = B.getD i.toNat noL := by
  simp only [List.getD]
  rw [List.getElem?_append_right (by omega), show (i + n).toNat - A.length = i.toNat by omega]
theorem step_sh {A B : List Lg} {x : Node} {n : Nat} (hn : A.length = n) (h1 : 4 ≤ x.kind → 0 ≤ x.a) (h2 : x.kind = 4 ∨ x.kind = 5 → 0 ≤ x.b) : stepL (A ++ B) (shN n x) = stepL B x := by
  unfold stepL shN
  by_cases h4 : x.kind = 4
  · simp only [if_pos (show x.kind = 4 ∨ x.kind = 5 from .inl h4), if_pos h4]
    rw [getD_sh hn (h1 (by omega)), getD_sh hn (h2 (.inl h4))]
    rw [if_neg (by omega), if_neg (by omega), if_neg (by omega), if_neg (by omega)]
  · by_cases h5 : x.kind = 5
    · simp only [if_pos (show x.kind = 4 ∨ x.kind = 5 from .inr h5), if_neg h4, if_pos h5]
      rw [getD_sh hn (h1 (by omega)), getD_sh hn (h2 (.inr h5))]
      rw [if_neg (by omega), if_neg (by omega), if_neg (by omega), if_neg (by omega)]
    · simp only [if_neg (show ¬ (x.kind = 4 ∨ x.kind = 5) by omega)]
      by_cases h6 : x.kind = 6
      · simp only [if_pos h6]
        rw [getD_sh hn (h1 (by omega))]
        simp only [h6]; rfl
      · simp only [if_neg h6, if_neg h5, if_neg h4]
theorem langs_sh {k : Int} {a : List Node} : ∀ {b : List Node}, NodesOk k b → langs (a ++ b.map (shN a.length)) = langs a ++ langs b := by
  intro b
  induction b using snoc_ind with
  | h0 => intro _; simp; rfl
  | h1 b x ih =>
    intro h
    have hx := h b.length (by simp)
    rw [show (b ++ [x]).getD b.length default = x by simp [List.getD]] at hx
    have hb : NodesOk k b := fun i hi => by
      have := h i (by rw [List.length_append]; omega)
      rwa [show (b ++ [x]).getD i default = b.getD i default by simp [List.getD, List.getElem?_append_left hi]] at this
    obtain ⟨_, _, _, h4, h5⟩ := hx
    rw [List.map_append, List.map_cons, List.map_nil, ← List.append_assoc, langs_snoc, langs_snoc, ih hb, step_sh langs_len (fun e => (h4 e).1) (fun e => (h5 e).1), List.append_assoc]
theorem sh_ok {k : Int} {a b : List Node} (ha : NodesOk k a) (hb : NodesOk k b) : NodesOk k (a ++ b.map (shN a.length)) := by
  intro i hi
  by_cases h : i < a.length
  · rw [show (a ++ b.map (shN a.length)).getD i default = a.getD i default by simp [List.getD, List.getElem?_append_left h]]
    exact ha i h
  · rw [List.length_append, List.length_map] at hi
    obtain ⟨j, rfl⟩ : ∃ j, i = a.length + j := ⟨i - a.length, by omega⟩
    have hj : j < b.length := by omega
    rw [show (a ++ b.map (shN a.length)).getD (a.length + j) default = shN a.length (b.getD j default) by simp [List.getD, List.getElem?_append_right, hj]]
    obtain ⟨h1, h2, h3, h4, h5⟩ := hb j hj
    unfold shN
    by_cases hk : (b.getD j default).kind = 4 ∨ (b.getD j default).kind = 5
    · rw [if_pos hk]
      have h4 := h4 (by omega)
      have h5 := h5 hk
      exact ⟨h1, h2, fun e => by have e : (b.getD j default).kind = 3 := e; omega, fun _ => by show 0 ≤ (b.getD j default).a + (a.length : Int) ∧ (b.getD j default).a + (a.length : Int) < ((a.length + j : Nat) : Int); omega, fun _ => by show 0 ≤ (b.getD j default).b + (a.length : Int) ∧ (b.getD j default).b + (a.length : Int) < ((a.length + j : Nat) : Int); omega⟩
    · rw [if_neg hk]
      by_cases h6 : (b.getD j default).kind = 6
      · rw [if_pos h6]
        have h4 := h4 (by omega)
        exact ⟨h1, h2, fun e => by have e : (b.getD j default).kind = 3 := e; omega, fun _ => by show 0 ≤ (b.getD j default).a + (a.length : Int) ∧ (b.getD j default).a + (a.length : Int) < ((a.length + j : Nat) : Int); omega, fun e => by have e : (b.getD j default).kind = 4 ∨ (b.getD j default).kind = 5 := e; omega⟩
      · rw [if_neg h6]
        exact ⟨h1, h2, h3, fun e => by omega, fun e => by omega⟩
/-- The sentence of Arden. -/
def arN (a b : List Node) : List Node := (a ++ b.map (shN a.length)) ++ [⟨6, (a.length : Int) - 1, 0⟩, ⟨4, (a.length : Int) + b.length, (a.length : Int) + b.length - 1⟩]
theorem ar_len {a b : List Node} : (arN a b).length = a.length + b.length + 2 := by simp [arN]; omega
theorem ar_ok {k : Int} {a b : List Node} (ha : NodesOk k a) (hb : NodesOk k b) (ha0 : 0 < a.length) (hb0 : 0 < b.length) : NodesOk k (arN a b) := by
  intro i hi
  rw [ar_len] at hi
  have hs := sh_ok ha hb
  have hl : (a ++ b.map (shN a.length)).length = a.length + b.length := by simp
  by_cases h : i < a.length + b.length
  · have : (arN a b).getD i default = (a ++ b.map (shN a.length)).getD i default := by
      unfold arN; simp only [List.getD]; rw [List.getElem?_append_left (by omega)]
    rw [this]; exact hs i (by omega)
  · by_cases h2 : i = a.length + b.length
    · have : (arN a b).getD i default = ⟨6, (a.length : Int) - 1, 0⟩ := by
        unfold arN; simp only [List.getD]; rw [List.getElem?_append_right (by omega), h2, hl]; simp
      rw [this]
      exact ⟨(show (1 : Int) ≤ 6 by omega), (show (6 : Int) ≤ 6 by omega), fun e => by simp at e, fun _ => by show 0 ≤ (a.length : Int) - 1 ∧ (a.length : Int) - 1 < i; omega, fun e => by simp at e⟩
    · have h3 : i = a.length + b.length + 1 := by omega
      have : (arN a b).getD i default = ⟨4, (a.length : Int) + b.length, (a.length : Int) + b.length - 1⟩ := by
        unfold arN; simp only [List.getD]; rw [List.getElem?_append_right (by omega), h3, hl]; simp
      rw [this]
      exact ⟨(show (1 : Int) ≤ 4 by omega), (show (4 : Int) ≤ 6 by omega), fun e => by simp at e, fun _ => by show 0 ≤ (a.length : Int) + b.length ∧ (a.length : Int) + b.length < i; omega, fun _ => by show 0 ≤ (a.length : Int) + b.length - 1 ∧ (a.length : Int) + b.length - 1 < i; omega⟩
theorem ar_tk {k : Int} {a b : List Node} (hb : NodesOk k b) (ha0 : 0 < a.length) (hb0 : 0 < b.length) {u : List Int} : Tk (arN a b) u ↔ catL (Star (Tk a)) (Tk b) u := by
  have hL := langs_sh (a := a) hb
  have hl : (a ++ b.map (shN a.length)).length = a.length + b.length := by simp
  have e1 : arN a b = ((a ++ b.map (shN a.length)) ++ [(⟨6, (a.length : Int) - 1, 0⟩ : Node)]) ++ [⟨4, (a.length : Int) + b.length, (a.length : Int) + b.length - 1⟩] := by unfold arN; simp
  have la := @langs_len a
  have lb := @langs_len b
  have eA : (langs a ++ langs b).getD ((a.length : Int) - 1).toNat noL = Tk a := by
    unfold Tk lang
    simp only [List.getD]
    rw [List.getElem?_append_left (by omega), show ((a.length : Int) - 1).toNat = a.length - 1 by omega]
  have eS : stepL (langs a ++ langs b) ⟨6, (a.length : Int) - 1, 0⟩ = Star (Tk a) := by
    rw [← eA]; rfl
  have eC : lang (arN a b) ((arN a b).length - 1) = catL (Star (Tk a)) (Tk b) := by
    have h2 : (arN a b).length - 1 = ((a ++ b.map (shN a.length)) ++ [(⟨6, (a.length : Int) - 1, 0⟩ : Node)]).length := by rw [ar_len]; simp; omega
    rw [h2, e1, lang_last, langs_snoc, hL, eS]
    show catL (((langs a ++ langs b) ++ [Star (Tk a)]).getD ((a.length : Int) + b.length).toNat noL) (((langs a ++ langs b) ++ [Star (Tk a)]).getD ((a.length : Int) + b.length - 1).toNat noL) = _
    have g1 : ((langs a ++ langs b) ++ [Star (Tk a)]).getD ((a.length : Int) + b.length).toNat noL = Star (Tk a) := by
      simp only [List.getD]
      rw [List.getElem?_append_right (by rw [List.length_append]; omega), show ((a.length : Int) + b.length).toNat - (langs a ++ langs b).length = 0 by rw [List.length_append]; omega]
      rfl
    have g2 : ((langs a ++ langs b) ++ [Star (Tk a)]).getD ((a.length : Int) + b.length - 1).toNat noL = Tk b := by
      unfold Tk lang
      simp only [List.getD]
      rw [List.getElem?_append_left (by rw [List.length_append]; omega), List.getElem?_append_right (by omega), show ((a.length : Int) + b.length - 1).toNat - (langs a).length = b.length - 1 by omega]
    rw [g1, g2]
  unfold Tk
  rw [eC]; exact Iff.rfl
/-- Arden's equation. -/
theorem arden {A B : Lg} {u : List Int} : catL (Star A) B u ↔ B u ∨ ∃ i, 1 ≤ i ∧ i ≤ u.length ∧ A (u.take i) ∧ catL (Star A) B (u.drop i) := by
  constructor
  · rintro ⟨a, b, h1, h2, rfl⟩
    rcases star_front h1 with e | ⟨x, y, e, hx, hy, e2⟩
    · subst e; exact .inl h2
    · subst e2
      have : 0 < x.length := List.length_pos_iff.mpr e
      refine .inr ⟨x.length, this, by simp, ?_, y, b, hy, h2, ?_⟩
      · rw [List.append_assoc, List.take_left']; exact hx; rfl
      · rw [List.append_assoc, List.drop_left']; rfl
  · rintro (h | ⟨i, h1, h2, h3, x, y, h4, h5, h6⟩)
    · exact ⟨[], u, .nil, h, rfl⟩
    · refine ⟨u.take i ++ x, y, .app h3 h4, h5, ?_⟩
      rw [List.append_assoc, ← h6, List.take_append_drop]
end Go.Dm
