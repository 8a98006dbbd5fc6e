/-
  Postfix lists split in one way; which operator is applied last decides about parentheses.
-/
import Derived.Test.YtllkafockafdcaaClimbQ
namespace Go.Dm
set_option linter.unusedSimpArgs false
set_option linter.unusedVariables false
/-- Postfix lists. -/
inductive PO : List Int → Prop
  | val {v : Int} (h : 100 ≤ v) : PO [v]
  | bin {a b : List Int} {o : Int} (ha : PO a) (hb : PO b) (ho : isO o) : PO (a ++ b ++ [o])
def wgS (x : Int) : Int := if 100 ≤ x then 1 else -1
def wgP : List Int → Int
  | [] => 0
  | x :: l => wgS x + wgP l
theorem wgP_app {a b : List Int} : wgP (a ++ b) = wgP a + wgP b := by
  induction a with
  | nil => simp [wgP]
  | cons x a ih => simp only [List.cons_append, wgP, ih]; omega
theorem wgS_op {o : Int} (h : isO o) : wgS o = -1 := if_neg (by have := h.2; omega)
/-- All of it weighs one; what stands at its end and is less weighs less. -/
theorem po_wg {p : List Int} (h : PO p) : wgP p = 1 ∧ ∀ x y, p = x ++ y → x ≠ [] → wgP y ≤ 0 := by
  induction h with
  | @val v hv =>
    refine ⟨by simp [wgP, wgS, hv], fun x y e hx => ?_⟩
    cases x with
    | nil => exact absurd rfl hx
    | cons a x =>
      simp only [List.cons_append, List.cons.injEq] at e
      have := (List.append_eq_nil_iff.mp e.2.symm).2
      rw [this]; simp [wgP]
  | @bin a b o _ _ ho iha ihb =>
    have e1 := wgS_op ho
    refine ⟨by simp only [wgP_app, wgP, iha.1, ihb.1, e1]; rfl, fun x y e hx => ?_⟩
    rcases List.eq_nil_or_concat y with rfl | ⟨y', z, rfl⟩
    · simp [wgP]
    · rw [List.concat_eq_append, ← List.append_assoc] at e
      have e2 := List.append_inj' e rfl
      have hz : z = o := by simpa using e2.2.symm
      subst hz
      rw [List.concat_eq_append, wgP_app]
      simp only [wgP, e1]
      rcases List.append_eq_append_iff.mp e2.1 with ⟨t, h1, h2⟩ | ⟨t, h1, h2⟩
      · -- x = a ++ t, b = t ++ y'
        by_cases ht : t = []
        · subst ht
          simp only [List.nil_append] at h2
          rw [← h2, ihb.1]; omega
        · have := ihb.2 t y' h2 ht
          omega
      · -- a = x ++ t, y' = t ++ b
        have := iha.2 x t h1 hx
        rw [h2, wgP_app, ihb.1]; omega
theorem po_pos {p : List Int} (h : PO p) : p ≠ [] := by
  cases h <;> simp
theorem po_suffix {x y x' y' : List Int} (h : x ++ y = x' ++ y') (hy : PO y) (hy' : PO y') : x = x' ∧ y = y' := by
  rcases List.append_eq_append_iff.mp h with ⟨t, h1, h2⟩ | ⟨t, h1, h2⟩
  · by_cases ht : t = []
    · subst ht
      simp at h1 h2
      exact ⟨h1.symm, h2⟩
    · have := (po_wg hy).2 t y' h2 ht
      rw [(po_wg hy').1] at this; omega
  · by_cases ht : t = []
    · subst ht
      simp at h1 h2
      exact ⟨h1, h2.symm⟩
    · have := (po_wg hy').2 t y h2 ht
      rw [(po_wg hy).1] at this; omega
theorem po_uniq {a b a' b' : List Int} {o o' : Int} (h : a ++ b ++ [o] = a' ++ b' ++ [o']) (hb : PO b) (hb' : PO b') : a = a' ∧ b = b' ∧ o = o' := by
  have e := List.append_inj' h rfl
  have := po_suffix e.1 hb hb'
  exact ⟨this.1, this.2, by simpa using e.2⟩
/-- Signs that are no parentheses. -/
def nsg (l : List Int) : Nat := (l.filter fun x => decide (x ≠ -1 ∧ x ≠ -2)).length
theorem nsg_app {a b : List Int} : nsg (a ++ b) = nsg a + nsg b := by unfold nsg; rw [List.filter_append, List.length_append]
theorem nsg_op {o : Int} (h : isO o) : nsg [o] = 1 := by
  unfold nsg
  have := h.1
  rw [List.filter_cons, if_pos (by rw [decide_eq_true_eq]; omega)]; rfl
theorem nsg_par {e : List Int} : nsg (-1 :: (e ++ [-2])) = nsg e := by
  unfold nsg
  rw [List.filter_cons, if_neg (by simp), List.filter_append]
  simp
theorem nsg_cons_op {o : Int} {b : List Int} (h : isO o) : nsg (o :: b) = nsg b + 1 := by
  have : o :: b = [o] ++ b := rfl
  rw [this, nsg_app, nsg_op h]; omega
theorem rdC_po {ops : List Opr} (hc : ConsO ops) : ∀ {l p : List Int}, (∀ s, s ∈ l → vS ops s) → rdC ops l = some p → PO p ∧ p.length = nsg l := by
  intro l
  induction hn : l.length using Nat.strongRecOn generalizing l with
  | _ n ih =>
  intro p hv h
  subst hn
  by_cases h1 : l.length = 1 ∧ 100 ≤ l.getD 0 0
  · rw [rdC_val h1] at h
    simp only [Option.some.injEq] at h
    subst h
    obtain ⟨v, rfl⟩ := List.length_eq_one_iff.mp h1.1
    have hv1 : 100 ≤ v := h1.2
    refine ⟨.val hv1, ?_⟩
    show 1 = nsg [v]
    unfold nsg
    rw [List.filter_cons, if_pos (by rw [decide_eq_true_eq]; omega)]; rfl
  · cases hs : scC ops l l.length with
    | none => rw [rdC_none h1 hs] at h; cases h
    | some c =>
      obtain ⟨d, la⟩ := c
      obtain ⟨k1, k2, k3⟩ := scC_spec hc hv (Nat.le_refl _) hs
      by_cases hd : d = 0
      rotate_left
      · rw [rdC_deep h1 hs hd] at h; cases h
      rcases k3 with ⟨hla, hno⟩ | ⟨n, hla, hL⟩
      · by_cases hb : l.length < 3 ∨ l.getD 0 0 ≠ -1 ∨ l.getD (l.length - 1) 0 ≠ -2
        · rw [rdC_bad h1 hs hd (by show la < 0; omega) hb] at h; cases h
        · rw [rdC_par h1 hs hd (by show la < 0; omega) hb] at h
          have hl := par_eq hb
          have hp := ih (inn l).length (by rw [inn_len]; omega) rfl (fun s hs' => hv s (by rw [hl]; simp [hs'])) h
          refine ⟨hp.1, ?_⟩
          rw [hp.2]
          conv => rhs; rw [hl]
          rw [nsg_par]
      · subst hla
        have hnl := hL.lt
        rw [rdC_bin h1 hs hd hnl] at h
        have hl := bin_eq hnl
        cases ra : rdC ops (l.take n) with
        | none => rw [ra] at h; cases h
        | some pa =>
          cases rb : rdC ops (l.drop (n + 1)) with
          | none => rw [ra, rb] at h; cases h
          | some pb =>
            rw [ra, rb] at h
            simp only [Option.some.injEq] at h
            subst h
            have ha := ih (l.take n).length (by rw [List.length_take]; omega) rfl (fun s hs' => hv s (List.mem_of_mem_take hs')) ra
            have hb := ih (l.drop (n + 1)).length (by rw [List.length_drop]; omega) rfl (fun s hs' => hv s (List.mem_of_mem_drop hs')) rb
            refine ⟨.bin ha.1 hb.1 hL.op, ?_⟩
            rw [List.length_append, List.length_append, ha.2, hb.2]
            conv => rhs; rw [hl]
            rw [nsg_app, nsg_cons_op hL.op]
            simp only [List.length_cons, List.length_nil]; omega
/-! ### Parentheses -/
/-- The operator at which a list splits; -1: none. -/
def TopO (ops : List Opr) (a : List Int) (la : Int) : Prop := (la = -1 ∧ ∀ o, ¬ D0 a o) ∨ ∃ n, LaC ops a a.length n ∧ la = a.getD n 0
theorem topO_of {ops : List Opr} {a : List Int} (hc : ConsO ops) (hv : ∀ s, s ∈ a → vS ops s) {d la : Int} (hs : scC ops a a.length = some (d, la)) : TopO ops a (if la < 0 then -1 else a.getD la.toNat 0) := by
  obtain ⟨_, _, k3⟩ := scC_spec hc hv (Nat.le_refl _) hs
  rcases k3 with ⟨hla, hno⟩ | ⟨n, hla, hL⟩
  · subst hla
    exact .inl ⟨rfl, fun o ⟨i, h1, h2, h3, h4⟩ => hno i h1 (by rw [h2]; exact h3) h4⟩
  · subst hla
    exact .inr ⟨n, hL, by rw [if_neg (by omega), Int.toNat_natCast]⟩
theorem vS_o {ops : List Opr} {o : Int} (h : vS ops o) (ho : isO o) : 0 ≤ o ∧ o < ops.length := by
  unfold vS at h; unfold isO at ho; omega
theorem condA_iff {ops : List Opr} (hc : ConsO ops) {a : List Int} {la op : Int} (hv : ∀ s, s ∈ a → vS ops s) (hop : 0 ≤ op ∧ op < ops.length) (ht : TopO ops a la) : (∀ o, D0 a o → bef ops o op = true) ↔ (la < 0 ∨ bef ops la op = true) := by
  rcases ht with ⟨h1, h2⟩ | ⟨n, hL, rfl⟩
  · exact ⟨fun _ => .inl (by omega), fun _ o ho => absurd ho (h2 o)⟩
  · have hno := hL.op
    have hnn := hL.lt
    have on := vS_op hv hnn hno
    constructor
    · intro h
      exact .inr (h _ ⟨n, hnn, rfl, hno, hL.de⟩)
    · rintro (h | h) o ⟨i, hi, rfl, hio, hid⟩
      · unfold isO at hno; omega
      · have oi := vS_op hv hi hio
        have c1 : lv ops (a.getD i 0) = lv ops (a.getD n 0) → rg ops (a.getD i 0) = rg ops (a.getD n 0) := hc _ _ oi.1 oi.2 on.1 on.2
        rw [bef_iff] at h ⊢
        rcases Nat.lt_trichotomy i n with hin | hin | hin
        · rcases bef_iff.mp (hL.be i hin hio hid) with h3 | ⟨h3, h4⟩
          · left; rcases h with h | ⟨h, _⟩ <;> omega
          · rcases h with h | ⟨h, h5⟩
            · left; omega
            · right; exact ⟨by omega, h4⟩
        · rw [hin]; exact h
        · have hb := hL.af i hin hi hio hid
          have hb2 : ¬ (lv ops (a.getD i 0) < lv ops (a.getD n 0) ∨ (lv ops (a.getD n 0) = lv ops (a.getD i 0) ∧ rg ops (a.getD n 0) = false)) := fun h => by rw [bef_iff.mpr h] at hb; cases hb
          have h6 : ¬ lv ops (a.getD i 0) < lv ops (a.getD n 0) := fun h => hb2 (.inl h)
          rcases h with h | ⟨h, h5⟩
          · left; omega
          · have h7 : lv ops (a.getD i 0) ≠ lv ops (a.getD n 0) := fun e => hb2 (.inr ⟨e.symm, h5⟩)
            left; omega
theorem condB_iff {ops : List Opr} (hc : ConsO ops) {b : List Int} {lb op : Int} (hv : ∀ s, s ∈ b → vS ops s) (hop : 0 ≤ op ∧ op < ops.length) (ht : TopO ops b lb) : (∀ o, D0 b o → bef ops op o = false) ↔ (lb < 0 ∨ bef ops op lb = false) := by
  rcases ht with ⟨h1, h2⟩ | ⟨n, hL, rfl⟩
  · exact ⟨fun _ => .inl (by omega), fun _ o ho => absurd ho (h2 o)⟩
  · have hno := hL.op
    have hnn := hL.lt
    have on := vS_op hv hnn hno
    constructor
    · intro h
      exact .inr (h _ ⟨n, hnn, rfl, hno, hL.de⟩)
    · rintro (h | h) o ⟨i, hi, rfl, hio, hid⟩
      · unfold isO at hno; omega
      · have oi := vS_op hv hi hio
        have c1 : lv ops (b.getD i 0) = lv ops op → rg ops (b.getD i 0) = rg ops op := hc _ _ oi.1 oi.2 hop.1 hop.2
        have h' : ¬ (lv ops (b.getD n 0) < lv ops op ∨ (lv ops op = lv ops (b.getD n 0) ∧ rg ops op = false)) := fun h2 => by rw [bef_iff.mpr h2] at h; cases h
        have h1 : ¬ lv ops (b.getD n 0) < lv ops op := fun h => h' (.inl h)
        cases hb : bef ops op (b.getD i 0) with
        | false => rfl
        | true =>
          exfalso
          rcases Nat.lt_trichotomy i n with hin | hin | hin
          · rcases bef_iff.mp (hL.be i hin hio hid) with h3 | ⟨h3, h4⟩
            · rcases bef_iff.mp hb with h5 | ⟨h5, h6⟩ <;> omega
            · rcases bef_iff.mp hb with h5 | ⟨h5, h6⟩
              · omega
              · exact h' (.inr ⟨by omega, h6⟩)
          · rw [hin, h] at hb; cases hb
          · have ha := hL.af i hin hi hio hid
            have hb2 : ¬ (lv ops (b.getD i 0) < lv ops (b.getD n 0) ∨ (lv ops (b.getD n 0) = lv ops (b.getD i 0) ∧ rg ops (b.getD n 0) = false)) := fun h => by rw [bef_iff.mpr h] at ha; cases ha
            have h6 : ¬ lv ops (b.getD i 0) < lv ops (b.getD n 0) := fun h => hb2 (.inl h)
            rcases bef_iff.mp hb with h5 | ⟨h5, h7⟩
            · omega
            · exact h' (.inr ⟨by omega, h7⟩)
end Go.Dm
