/-
  Operators: both readings agree.
-/
import Derived.Test.YtllkafockafdcaaClimbP
namespace Go.Dm
set_option linter.unusedSimpArgs false
set_option linter.unusedVariables false
def inn (l : List Int) : List Int := (l.take (l.length - 1)).drop 1
theorem inn_len {l : List Int} : (inn l).length = l.length - 1 - 1 := by unfold inn; rw [List.length_drop, List.length_take]; omega
def rdC (ops : List Opr) (l : List Int) : Option (List Int) :=
  if l.length = 1 ∧ 100 ≤ l.getD 0 0 then some [l.getD 0 0]
  else match scC ops l l.length with
    | none => none
    | some c =>
      if c.1 ≠ 0 then none
      else if c.2 < 0 then
        if h : l.length < 3 ∨ l.getD 0 0 ≠ -1 ∨ l.getD (l.length - 1) 0 ≠ -2 then none else rdC ops (inn l)
      else if h : c.2.toNat < l.length then
        match rdC ops (l.take c.2.toNat), rdC ops (l.drop (c.2.toNat + 1)) with
        | some a, some b => some (a ++ b ++ [l.getD c.2.toNat 0])
        | _, _ => none
      else none
termination_by l.length
decreasing_by
  · rw [inn_len]; omega
  · rw [List.length_take]; omega
  · rw [List.length_drop]; omega
theorem rdC_val {ops : List Opr} {l : List Int} (h : l.length = 1 ∧ 100 ≤ l.getD 0 0) : rdC ops l = some [l.getD 0 0] := by rw [rdC, if_pos h]
theorem rdC_none {ops : List Opr} {l : List Int} (h : ¬ (l.length = 1 ∧ 100 ≤ l.getD 0 0)) (hs : scC ops l l.length = none) : rdC ops l = none := by rw [rdC, if_neg h, hs]
theorem rdC_deep {ops : List Opr} {l : List Int} {c : Int × Int} (h : ¬ (l.length = 1 ∧ 100 ≤ l.getD 0 0)) (hs : scC ops l l.length = some c) (hd : c.1 ≠ 0) : rdC ops l = none := by rw [rdC, if_neg h, hs]; exact if_pos hd
theorem rdC_bad {ops : List Opr} {l : List Int} {c : Int × Int} (h : ¬ (l.length = 1 ∧ 100 ≤ l.getD 0 0)) (hs : scC ops l l.length = some c) (hd : c.1 = 0) (hl : c.2 < 0) (hb : l.length < 3 ∨ l.getD 0 0 ≠ -1 ∨ l.getD (l.length - 1) 0 ≠ -2) : rdC ops l = none := by
  rw [rdC, if_neg h, hs]
  show (if c.1 ≠ 0 then none else _) = _
  rw [if_neg (fun h => h hd), if_pos hl, dif_pos hb]
theorem rdC_par {ops : List Opr} {l : List Int} {c : Int × Int} (h : ¬ (l.length = 1 ∧ 100 ≤ l.getD 0 0)) (hs : scC ops l l.length = some c) (hd : c.1 = 0) (hl : c.2 < 0) (hb : ¬ (l.length < 3 ∨ l.getD 0 0 ≠ -1 ∨ l.getD (l.length - 1) 0 ≠ -2)) : rdC ops l = rdC ops (inn l) := by
  conv => lhs; rw [rdC, if_neg h, hs]
  show (if c.1 ≠ 0 then none else _) = _
  rw [if_neg (fun h => h hd), if_pos hl, dif_neg hb]
theorem rdC_bin {ops : List Opr} {l : List Int} {d : Int} {n : Nat} (h : ¬ (l.length = 1 ∧ 100 ≤ l.getD 0 0)) (hs : scC ops l l.length = some (d, (n : Int))) (hd : d = 0) (hn : n < l.length) : rdC ops l = match rdC ops (l.take n), rdC ops (l.drop (n + 1)) with
    | some a, some b => some (a ++ b ++ [l.getD n 0])
    | _, _ => none := by
  conv => lhs; rw [rdC, if_neg h, hs]
  show (if d ≠ 0 then none else if (n : Int) < 0 then _ else if h : ((n : Int).toNat) < l.length then _ else none) = _
  rw [if_neg (fun h => h hd), if_neg (by omega), dif_pos (by omega)]
  simp only [Int.toNat_natCast]
/-- An operator that stands in no parentheses. -/
def D0 (l : List Int) (o : Int) : Prop := ∃ i, i < l.length ∧ l.getD i 0 = o ∧ isO o ∧ dep (l.take i) = 0
theorem getD_take {l : List Int} {n i : Nat} (h : i < n) : (l.take n).getD i 0 = l.getD i 0 := by
  simp only [List.getD, List.getElem?_take_of_lt h]
theorem getD_drop {l : List Int} {n i : Nat} : (l.drop n).getD i 0 = l.getD (n + i) 0 := by
  simp only [List.getD, List.getElem?_drop]
theorem par_eq {l : List Int} (h : ¬ (l.length < 3 ∨ l.getD 0 0 ≠ -1 ∨ l.getD (l.length - 1) 0 ≠ -2)) : l = -1 :: (inn l ++ [-2]) := by
  have h1 : 3 ≤ l.length := by omega
  have h2 : l.getD 0 0 = -1 := by
    by_cases e : l.getD 0 0 = -1
    · exact e
    · exact absurd (.inr (.inl e)) h
  have h3 : l.getD (l.length - 1) 0 = -2 := by
    by_cases e : l.getD (l.length - 1) 0 = -2
    · exact e
    · exact absurd (.inr (.inr e)) h
  apply List.ext_getElem
  · rw [List.length_cons, List.length_append, inn_len]; simp; omega
  · intro k k1 k2
    have e1 : l[k] = l.getD k 0 := by simp [List.getD, k1]
    rw [e1]
    match k with
    | 0 => simpa using h2
    | k + 1 =>
      rw [List.getElem_cons_succ]
      by_cases e : k < (inn l).length
      · rw [List.getElem_append_left e]
        have e2 : (inn l)[k] = (inn l).getD k 0 := by simp [List.getD, e]
        rw [e2]
        have hk : k < l.length - 1 - 1 := by rw [inn_len] at e; exact e
        show _ = ((l.take (l.length - 1)).drop 1).getD k 0
        rw [getD_drop, getD_take (by omega), Nat.add_comm]
      · have : k + 1 = l.length - 1 := by rw [inn_len] at e; omega
        rw [this, h3, List.getElem_append_right (by omega)]
        simp
theorem bin_eq {l : List Int} {n : Nat} (h : n < l.length) : l = l.take n ++ l.getD n 0 :: l.drop (n + 1) := by
  have : l.getD n 0 = l[n] := by simp [List.getD, h]
  rw [this, ← List.drop_eq_getElem_cons h, List.take_append_drop]
theorem take_take_le {l : List Int} {n i : Nat} (h : i ≤ n) : (l.take n).take i = l.take i := by rw [List.take_take, Nat.min_eq_left h]
theorem dep_drop {l : List Int} {n i : Nat} : dep (l.take (n + i)) = dep (l.take n) + dep ((l.drop n).take i) := by
  rw [← dep_app]; congr 1; rw [List.take_add]
theorem stp_op {ops : List Opr} {s : Int} {out T : List Int} (h : isO s) : stp ops s (out, T, false) = some (out ++ T.takeWhile (pp ops s), s :: T.dropWhile (pp ops s), true) := by
  unfold isO at h
  unfold stp
  rw [if_neg (by simp; omega), if_neg (by omega), if_neg (by omega), if_neg (by omega)]
/-- What is read by the last is read by the stack. -/
theorem rd_run {ops : List Opr} (hc : ConsO ops) : ∀ {l p : List Int}, (∀ s, s ∈ l → vS ops s) → rdC ops l = some p → ∀ (out T : List Int), (∀ o, D0 l o → ∀ t, T.head? = some t → pp ops o t = false) →
    ∃ q P, p = q ++ P ∧ (∀ t, t ∈ P → D0 l t) ∧ runC ops l (out, T, true) = some (out ++ q, P ++ T, false) := by
  intro l
  induction hn : l.length using Nat.strongRecOn generalizing l with
  | _ n ih =>
  intro p hv h out T hT
  subst hn
  by_cases h1 : l.length = 1 ∧ 100 ≤ l.getD 0 0
  · rw [rdC_val h1] at h
    simp only [Option.some.injEq] at h
    subst h
    obtain ⟨v, rfl⟩ := List.length_eq_one_iff.mp h1.1
    have hv1 : 100 ≤ v := h1.2
    refine ⟨[v], [], rfl, fun t ht => by simp at ht, ?_⟩
    show (stp ops v (out, T, true)).bind (runC ops []) = _
    unfold stp
    rw [if_neg (by simp; omega), if_pos hv1]
    rfl
  · cases hs : scC ops l l.length with
    | none => rw [rdC_none h1 hs] at h; cases h
    | some c =>
      obtain ⟨d, la⟩ := c
      obtain ⟨k1, k2, k3⟩ := scC_spec hc hv (Nat.le_refl _) hs
      by_cases hd : d = 0
      rotate_left
      · rw [rdC_deep h1 hs hd] at h; cases h
      rcases k3 with ⟨hla, hno⟩ | ⟨n, hla, hL⟩
      · by_cases hb : l.length < 3 ∨ l.getD 0 0 ≠ -1 ∨ l.getD (l.length - 1) 0 ≠ -2
        · rw [rdC_bad h1 hs hd (by show la < 0; omega) hb] at h; cases h
        · rw [rdC_par h1 hs hd (by show la < 0; omega) hb] at h
          have hl := par_eq hb
          obtain ⟨e, he⟩ : ∃ e, inn l = e := ⟨_, rfl⟩
          have hel : e.length < l.length := by rw [← he, inn_len]; omega
          rw [he] at h hl
          obtain ⟨q, P, rfl, hP, hr⟩ := ih e.length hel rfl (fun s hs' => hv s (by rw [hl]; simp [hs'])) h out (-1 :: T) (fun o _ t ht => by
            simp only [List.head?_cons, Option.some.injEq] at ht
            subst ht; simp [pp])
          refine ⟨q ++ P, [], by simp, fun t ht => by simp at ht, ?_⟩
          rw [hl]
          show (stp ops (-1) (out, T, true)).bind (runC ops (e ++ [-2])) = _
          have e1 : stp ops (-1) (out, T, true) = some (out, -1 :: T, true) := by
            unfold stp
            rw [if_neg (by simp), if_neg (by omega), if_pos rfl]
          rw [e1]
          show runC ops (e ++ [-2]) (out, -1 :: T, true) = _
          rw [runC_app, hr]
          show (stp ops (-2) (out ++ q, P ++ -1 :: T, false)).bind (runC ops []) = _
          have hw := tw_all (p := nO) (P := P) (T := -1 :: T) (fun t ht => by
            obtain ⟨_, _, _, ho, _⟩ := hP t ht
            unfold isO at ho
            simp only [nO, decide_eq_true_eq]; omega) (fun t ht => by
            simp only [List.head?_cons, Option.some.injEq] at ht
            subst ht; simp [nO])
          unfold stp
          rw [if_neg (by simp), if_neg (by omega), if_neg (by omega), if_pos rfl]
          simp only [hw.1, hw.2]
          simp [runC]
      · subst hla
        have hnl := hL.lt
        rw [rdC_bin h1 hs hd hnl] at h
        obtain ⟨a, ha⟩ : ∃ a, l.take n = a := ⟨_, rfl⟩
        obtain ⟨b, hb⟩ : ∃ b, l.drop (n + 1) = b := ⟨_, rfl⟩
        have hal : a.length = n := by rw [← ha, List.length_take]; omega
        have hbl : b.length = l.length - (n + 1) := by rw [← hb, List.length_drop]
        have hl := bin_eq hnl
        rw [ha, hb] at h hl
        cases ra : rdC ops a with
        | none => rw [ra] at h; cases h
        | some pa =>
          cases rb : rdC ops b with
          | none => rw [ra, rb] at h; cases h
          | some pb =>
            rw [ra, rb] at h
            simp only [Option.some.injEq] at h
            have hda : ∀ o, D0 a o → ∃ i, i < n ∧ l.getD i 0 = o ∧ isO o ∧ dep (l.take i) = 0 := fun o ⟨i, h2, h3, h4, h5⟩ => by
              rw [hal] at h2
              rw [← ha, getD_take h2] at h3
              rw [← ha, take_take_le (by omega)] at h5
              exact ⟨i, h2, h3, h4, h5⟩
            have hdb : ∀ o, D0 b o → ∃ i, n < i ∧ i < l.length ∧ l.getD i 0 = o ∧ isO o ∧ dep (l.take i) = 0 := fun o ⟨i, h2, h3, h4, h5⟩ => by
              rw [← hb, getD_drop] at h3
              refine ⟨n + 1 + i, by omega, by omega, h3, h4, ?_⟩
              rw [dep_drop, hb, h5, dep_succ hnl, hL.de, dp1_op hL.op]; rfl
            have hdal : ∀ o, D0 a o → D0 l o := fun o ho => by obtain ⟨i, h2, h3⟩ := hda o ho; exact ⟨i, by omega, h3⟩
            have hdbl : ∀ o, D0 b o → D0 l o := fun o ho => by obtain ⟨i, h2, h3⟩ := hdb o ho; exact ⟨i, h3⟩
            have hdo : D0 l (l.getD n 0) := ⟨n, hnl, rfl, hL.op, hL.de⟩
            obtain ⟨qa, Pa, rfl, hPa, hra⟩ := ih a.length (by omega) rfl (fun s hs' => hv s (by rw [hl]; simp [hs'])) ra out T fun o ho => hT o (hdal o ho)
            obtain ⟨qb, Pb, rfl, hPb, hrb⟩ := ih b.length (by omega) rfl (fun s hs' => hv s (by rw [hl]; simp [hs'])) rb (out ++ qa ++ Pa) (l.getD n 0 :: T) fun o ho t ht => by
              simp only [List.head?_cons, Option.some.injEq] at ht
              subst ht
              obtain ⟨i, h2, h3, h4, h5, h6⟩ := hdb o ho
              have := hL.af i h2 h3 (by rw [h4]; exact h5) h6
              rw [h4] at this
              unfold pp; rw [this]; simp
            refine ⟨qa ++ Pa ++ qb, Pb ++ [l.getD n 0], by rw [← h]; simp, fun t ht => ?_, ?_⟩
            · rcases List.mem_append.mp ht with h2 | h2
              · exact hdbl t (hPb t h2)
              · rw [List.mem_singleton] at h2; rw [h2]; exact hdo
            · conv => lhs; rw [hl]
              rw [runC_app, hra]
              show (stp ops (l.getD n 0) (out ++ qa, Pa ++ T, false)).bind (runC ops b) = _
              have hw := tw_all (p := pp ops (l.getD n 0)) (P := Pa) (T := T) (fun t ht => by
                obtain ⟨i, h2, h3, h4, h5⟩ := hda t (hPa t ht)
                have := hL.be i h2 (by rw [h3]; exact h4) h5
                rw [h3] at this
                unfold isO at h4
                simp only [pp, this, Bool.not_true, Bool.or_false, Bool.not_eq_true', decide_eq_false_iff_not]
                omega) (hT _ hdo)
              rw [stp_op hL.op, hw.1, hw.2]
              show runC ops b (out ++ qa ++ Pa, l.getD n 0 :: T, true) = _
              rw [hrb]
              simp
/-! ### What the stack takes is well formed -/
inductive WE : List Int → Prop
  | val {v : Int} (h : 100 ≤ v) : WE [v]
  | par {e : List Int} (h : WE e) : WE (-1 :: (e ++ [-2]))
  | bin {a b : List Int} {o : Int} (ha : WE a) (ho : isO o) (hb : WE b) : WE (a ++ o :: b)
/-- So many are open; has an operand to come? -/
def acN : Nat → Bool → List Int → Bool
  | d, w, [] => !w && decide (d = 0)
  | d, w, s :: l => if w ≠ decide (100 ≤ s ∨ s = -1) then false else if 100 ≤ s then acN d false l else if s = -1 then acN (d + 1) true l else if s = -2 then (match d with
    | 0 => false
    | d + 1 => acN d false l) else acN d true l
def cnt (T : List Int) : Nat := (T.filter fun t => decide (t = -1)).length
theorem cnt_cons {t : Int} {T : List Int} : cnt (t :: T) = (if t = -1 then 1 else 0) + cnt T := by
  unfold cnt
  by_cases h : t = -1 <;> simp [h]; omega
theorem cnt_drop {p : Int → Bool} (hp : ∀ t, p t = true → t ≠ -1) : ∀ {T : List Int}, cnt (T.dropWhile p) = cnt T
  | [] => rfl
  | t :: T => by
    rw [List.dropWhile_cons]
    split
    · next h => rw [cnt_cons, if_neg (hp t h), cnt_drop hp]; omega
    · rfl
theorem nO_ne {t : Int} (h : nO t = true) : t ≠ -1 := of_decide_eq_true h
theorem pp_ne {ops : List Opr} {s t : Int} (h : pp ops s t = true) : t ≠ -1 := fun e => by subst e; simp [pp] at h
theorem drop_nO {T : List Int} : (T.dropWhile nO = [] ∧ cnt T = 0) ∨ ∃ r, T.dropWhile nO = -1 :: r ∧ cnt T = cnt r + 1 := by
  have h := @cnt_drop nO (fun t h => nO_ne h) T
  cases e : T.dropWhile nO with
  | nil => left; rw [e] at h; exact ⟨rfl, h.symm⟩
  | cons x r =>
    right
    have hx : nO x = false := by
      have := List.head?_dropWhile_not nO T
      rw [e] at this
      simpa using this
    have hx1 : x = -1 := by
      by_cases e2 : x = -1
      · exact e2
      · simp [nO, e2] at hx
    subst hx1
    rw [e, cnt_cons, if_pos rfl] at h
    exact ⟨r, rfl, by omega⟩
theorem run_ac {ops : List Opr} : ∀ {l out T : List Int} {w : Bool} {c : CSt}, runC ops l (out, T, w) = some c → c.2.2 = false → c.2.1.dropWhile nO = [] → acN (cnt T) w l = true
  | [], out, T, w, c, h, h1, h2 => by
    simp only [runC, Option.some.injEq] at h
    subst h
    simp only at h1 h2
    subst h1
    have := @cnt_drop nO (fun t h => nO_ne h) T
    rw [h2] at this
    have e0 : cnt T = 0 := this.symm
    simp [acN, e0]
  | s :: l, out, T, w, c, h, h1, h2 => by
    simp only [runC] at h
    simp only [acN]
    unfold stp at h
    simp only at h
    split at h
    · cases h
    · next hw =>
      rw [if_neg hw]
      split at h
      · next hv => rw [if_pos hv]; exact run_ac h h1 h2
      · next hv =>
        rw [if_neg hv]
        split at h
        · next ho =>
          rw [if_pos ho]
          have := run_ac h h1 h2
          rwa [cnt_cons, if_pos rfl, Nat.add_comm] at this
        · next ho =>
          rw [if_neg ho]
          split at h
          · next hcl =>
            rw [if_pos hcl]
            rcases @drop_nO T with ⟨e, _⟩ | ⟨r, e, ec⟩
            · rw [e] at h; cases h
            · rw [e] at h
              rw [ec]
              exact run_ac h h1 h2
          · next hcl =>
            rw [if_neg hcl]
            have := run_ac h h1 h2
            rwa [cnt_cons, if_neg (by omega), cnt_drop (fun t h => pp_ne h), Nat.zero_add] at this
/-- Behind something whole. -/
theorem ac_tail {ops : List Opr} {e : List Int} (he : WE e) : ∀ {l : List Int} {d : Nat}, (∀ s, s ∈ l → vS ops s) → ops.length ≤ 100 → acN d false l = true →
    (∀ l' : List Int, l'.length < l.length → ∀ d', (∀ s, s ∈ l' → vS ops s) → acN d' true l' = true → ∃ e r, l' = e ++ r ∧ WE e ∧ ((r = [] ∧ d' = 0) ∨ ∃ d2 r', d' = d2 + 1 ∧ r = -2 :: r' ∧ acN d2 false r' = true)) →
    ∃ e' r, e ++ l = e' ++ r ∧ WE e' ∧ ((r = [] ∧ d = 0) ∨ ∃ d2 r', d = d2 + 1 ∧ r = -2 :: r' ∧ acN d2 false r' = true)
  | [], d, hv, hn, h, ih => ⟨e, [], rfl, he, .inl ⟨rfl, by simpa [acN] using h⟩⟩
  | s :: l, d, hv, hn, h, ih => by
    simp only [acN] at h
    split at h
    · cases h
    · next hw =>
      have hw2 : ¬ (100 ≤ s ∨ s = -1) := fun h => hw (by rw [decide_eq_true h]; simp)
      rw [if_neg (by omega), if_neg (by omega)] at h
      split at h
      · next hcl =>
        subst hcl
        cases d with
        | zero => cases h
        | succ d => exact ⟨e, -2 :: l, rfl, he, .inr ⟨d, l, rfl, rfl, h⟩⟩
      · next hcl =>
        obtain ⟨e2, r, h1, h2, h3⟩ := ih l (by simp) d (fun s hs => hv s (by simp [hs])) h
        have hop : isO s := by
          rcases hv s (by simp) with k | k | k | k
          · exact ⟨k.1, by omega⟩
          · omega
          · omega
          · omega
        exact ⟨e ++ s :: e2, r, by rw [h1]; simp, .bin he hop h2, h3⟩
theorem ac_we {ops : List Opr} (hn : ops.length ≤ 100) : ∀ {l : List Int} {d : Nat}, (∀ s, s ∈ l → vS ops s) → acN d true l = true → ∃ e r, l = e ++ r ∧ WE e ∧ ((r = [] ∧ d = 0) ∨ ∃ d2 r', d = d2 + 1 ∧ r = -2 :: r' ∧ acN d2 false r' = true) := by
  intro l
  induction hk : l.length using Nat.strongRecOn generalizing l with
  | _ n ih =>
  intro d hv h
  subst hk
  have ih' : ∀ l' : List Int, l'.length < l.length → ∀ d', (∀ s, s ∈ l' → vS ops s) → acN d' true l' = true → ∃ e r, l' = e ++ r ∧ WE e ∧ ((r = [] ∧ d' = 0) ∨ ∃ d2 r', d' = d2 + 1 ∧ r = -2 :: r' ∧ acN d2 false r' = true) := fun l' h1 d' h2 h3 => ih l'.length h1 rfl h2 h3
  cases l with
  | nil => simp [acN] at h
  | cons s l =>
    simp only [acN] at h
    split at h
    · cases h
    · next hw =>
      have hw2 : 100 ≤ s ∨ s = -1 := by
        by_cases e : 100 ≤ s ∨ s = -1
        · exact e
        · exact absurd (by rw [decide_eq_false e]; simp) hw
      split at h
      · next hv1 =>
        obtain ⟨e', r, h1, h2, h3⟩ := ac_tail (.val hv1) (fun s hs => hv s (by simp [hs])) hn h fun l' h1 => ih' l' (by simp only [List.length_cons]; omega)
        exact ⟨e', r, h1, h2, h3⟩
      · next hv1 =>
        have hs1 : s = -1 := by omega
        rw [if_pos hs1] at h
        subst hs1
        obtain ⟨e, r, h1, h2, h3⟩ := ih' l (by simp) (d + 1) (fun s hs => hv s (by simp [hs])) h
        rcases h3 with ⟨_, h3⟩ | ⟨d2, r', h3, h4, h5⟩
        · omega
        · have hd : d2 = d := by omega
          subst hd
          subst h4
          subst h1
          obtain ⟨e', r2, k1, k2, k3⟩ := ac_tail (.par h2) (l := r') (fun s hs => hv s (by simp [hs])) hn h5 fun l' h1 => ih' l' (by simp only [List.length_cons, List.length_append]; omega)
          refine ⟨e', r2, ?_, k2, k3⟩
          rw [← k1]; simp
theorem we_dep {l : List Int} (h : WE l) : dep l = 0 ∧ ∀ m, 0 ≤ dep (l.take m) := by
  induction h with
  | @val v hv =>
    have e : dp1 v = 0 := by unfold dp1; rw [if_neg (by omega), if_neg (by omega)]
    refine ⟨by simp [dep, e], fun m => ?_⟩
    cases m with
    | zero => simp [dep]
    | succ m => simp [dep, e]
  | @par e _ ih =>
    refine ⟨by simp only [dep, dep_app, ih.1]; rfl, fun m => ?_⟩
    cases m with
    | zero => simp [dep]
    | succ m =>
      rw [List.take_succ_cons, List.take_append]
      simp only [dep, dep_app]
      have h1 := ih.2 m
      have h2 : -1 ≤ dep (List.take (m - e.length) [-2]) := by
        cases m - e.length with
        | zero => simp [dep]
        | succ k => simp [dep, dp1]
      have h3 : dp1 (-1) = 1 := rfl
      omega
  | @bin a b o _ ho _ iha ihb =>
    have e := dp1_op ho
    refine ⟨by simp only [dep_app, dep, iha.1, ihb.1, e]; rfl, fun m => ?_⟩
    rw [List.take_append, dep_app]
    have h1 := iha.2 m
    cases hm : m - a.length with
    | zero => simp only [List.take_zero, dep]; omega
    | succ k =>
      rw [List.take_succ_cons]
      simp only [dep, e]
      have := ihb.2 k
      omega
theorem we_split {l : List Int} (h : WE l) : ∀ {i : Nat}, i < l.length → isO (l.getD i 0) → dep (l.take i) = 0 → WE (l.take i) ∧ WE (l.drop (i + 1)) := by
  induction h with
  | @val v hv =>
    intro i hi ho _
    have : i = 0 := by simpa using hi
    subst this
    unfold isO at ho
    simp at ho; omega
  | @par e he ih =>
    intro i hi ho hd
    exfalso
    cases i with
    | zero => unfold isO at ho; simp at ho
    | succ i =>
      rw [List.take_succ_cons, List.take_append] at hd
      simp only [List.length_cons, List.length_append, List.length_nil] at hi
      rw [show i - e.length = 0 by omega] at hd
      simp only [List.take_zero, List.append_nil, dep] at hd
      have h1 := (we_dep he).2 i
      have h3 : dp1 (-1) = 1 := rfl
      omega
  | @bin a b o ha ho hb iha ihb =>
    intro i hi hoi hd
    rcases Nat.lt_trichotomy i a.length with h | h | h
    · have e1 : (a ++ o :: b).getD i 0 = a.getD i 0 := by simp [List.getD, List.getElem?_append_left h]
      rw [e1] at hoi
      have e2 : (a ++ o :: b).take i = a.take i := by rw [List.take_append, show i - a.length = 0 by omega]; simp
      have e3 : (a ++ o :: b).drop (i + 1) = a.drop (i + 1) ++ o :: b := by rw [List.drop_append, show i + 1 - a.length = 0 by omega]; rfl
      rw [e2] at hd ⊢
      rw [e3]
      have := iha h hoi hd
      exact ⟨this.1, .bin this.2 ho hb⟩
    · subst h
      have e2 : (a ++ o :: b).take a.length = a := by simp
      have e3 : (a ++ o :: b).drop (a.length + 1) = b := by rw [List.drop_append]; simp
      rw [e2, e3]
      exact ⟨ha, hb⟩
    · obtain ⟨j, rfl⟩ : ∃ j, i = a.length + 1 + j := ⟨i - a.length - 1, by omega⟩
      have hj : j < b.length := by simp only [List.length_append, List.length_cons] at hi; omega
      have e1 : (a ++ o :: b).getD (a.length + 1 + j) 0 = b.getD j 0 := by
        simp only [List.getD]
        rw [List.getElem?_append_right (by omega), show a.length + 1 + j - a.length = j + 1 by omega, List.getElem?_cons_succ]
      have e2 : (a ++ o :: b).take (a.length + 1 + j) = a ++ o :: b.take j := by
        rw [List.take_append, List.take_of_length_le (by omega), show a.length + 1 + j - a.length = j + 1 by omega, List.take_succ_cons]
      have e3 : (a ++ o :: b).drop (a.length + 1 + j + 1) = b.drop (j + 1) := by
        rw [List.drop_append, List.drop_of_length_le (by omega), show a.length + 1 + j + 1 - a.length = j + 1 + 1 by omega, List.drop_succ_cons]; rfl
      rw [e1] at hoi
      rw [e2] at hd ⊢
      rw [e3]
      rw [dep_app, (we_dep ha).1] at hd
      simp only [dep, dp1_op ho] at hd
      have := ihb hj hoi (by omega)
      exact ⟨.bin ha ho this.1, this.2⟩
theorem we_pos {l : List Int} (h : WE l) : 1 ≤ l.length := by
  cases h <;> simp <;> omega
theorem we_rd {ops : List Opr} (hc : ConsO ops) : ∀ {l : List Int}, (∀ s, s ∈ l → vS ops s) → WE l → ∃ p, rdC ops l = some p := by
  intro l
  induction hk : l.length using Nat.strongRecOn generalizing l with
  | _ n ih =>
  intro hv h
  subst hk
  by_cases h1 : l.length = 1 ∧ 100 ≤ l.getD 0 0
  · exact ⟨_, rdC_val h1⟩
  · obtain ⟨hd0, hdn⟩ := we_dep h
    obtain ⟨⟨d, la⟩, hs, hd⟩ := scC_none (ops := ops) (Nat.le_refl l.length) fun m _ => hdn m
    rw [List.take_length, hd0] at hd
    simp only at hd
    obtain ⟨_, _, k3⟩ := scC_spec hc hv (Nat.le_refl _) hs
    rcases k3 with ⟨hla, hno⟩ | ⟨n, hla, hL⟩
    · cases h with
      | @val v hvv => exact absurd ⟨by simp, by simpa using hvv⟩ h1
      | @bin a b o ha ho hb =>
        exfalso
        refine hno a.length (by simp) ?_ ?_
        · simp only [List.getD]
          rw [List.getElem?_append_right (Nat.le_refl _)]
          simpa using ho
        · rw [show (a ++ o :: b).take a.length = a by simp]; exact (we_dep ha).1
      | @par e he =>
        have hep := we_pos he
        have hb : ¬ ((-1 :: (e ++ [-2])).length < 3 ∨ (-1 :: (e ++ [-2])).getD 0 0 ≠ -1 ∨ (-1 :: (e ++ [-2])).getD ((-1 :: (e ++ [-2])).length - 1) 0 ≠ -2) := by
          rintro (h | h | h)
          · simp only [List.length_cons, List.length_append, List.length_nil] at h; omega
          · exact h rfl
          · refine h ?_
            simp only [List.length_cons, List.length_append, List.length_nil]
            rw [show e.length + (0 + 1) + 1 - 1 = e.length + 1 by omega, List.getD_cons_succ]
            simp [List.getD]
        have hin : inn (-1 :: (e ++ [-2])) = e := by
          unfold inn
          simp only [List.length_cons, List.length_append, List.length_nil]
          rw [show e.length + (0 + 1) + 1 - 1 = e.length + 1 by omega, List.take_succ_cons, List.drop_succ_cons, List.drop_zero, List.take_append]
          simp
        rw [rdC_par h1 hs hd (by show la < 0; omega) hb, hin]
        exact ih e.length (by simp only [List.length_cons, List.length_append]; omega) rfl (fun s hs' => hv s (by simp [hs'])) he
    · subst hla
      have hnl := hL.lt
      obtain ⟨w1, w2⟩ := we_split h hnl hL.op hL.de
      obtain ⟨pa, ha⟩ := ih (l.take n).length (by rw [List.length_take]; omega) rfl (fun s hs' => hv s (List.mem_of_mem_take hs')) w1
      obtain ⟨pb, hb⟩ := ih (l.drop (n + 1)).length (by rw [List.length_drop]; omega) rfl (fun s hs' => hv s (List.mem_of_mem_drop hs')) w2
      rw [rdC_bin h1 hs hd hnl, ha, hb]
      exact ⟨_, rfl⟩
/-- Both readings agree. -/
theorem acc_rd {ops : List Opr} (hc : ConsO ops) (hn : ops.length ≤ 100) {l : List Int} (hv : ∀ s, s ∈ l → vS ops s) : accC ops l = rdC ops l := by
  cases h : rdC ops l with
  | some p =>
    obtain ⟨q, P, rfl, hP, hr⟩ := rd_run hc hv h [] [] fun o _ t ht => by simp at ht
    unfold accC
    rw [hr]
    have hw := tw_all (p := nO) (P := P) (T := []) (fun t ht => by
      obtain ⟨_, _, _, ho, _⟩ := hP t ht
      unfold isO at ho
      simp only [nO, decide_eq_true_eq]; omega) (fun t ht => by simp at ht)
    simp only [hw.1, hw.2]
    simp
  | none =>
    cases ha : accC ops l with
    | none => rfl
    | some p =>
      exfalso
      unfold accC at ha
      cases hr : runC ops l ([], [], true) with
      | none => rw [hr] at ha; cases ha
      | some c =>
        rw [hr] at ha
        simp only at ha
        split at ha
        · cases ha
        · next h1 =>
          split at ha
          · next h2 =>
            have := run_ac hr (by simpa using h1) h2
            obtain ⟨e, r, k1, k2, k3⟩ := ac_we hn hv this
            rcases k3 with ⟨k3, _⟩ | ⟨d2, r', k3, _⟩
            · subst k3
              rw [List.append_nil] at k1
              subst k1
              obtain ⟨p, hp⟩ := we_rd hc hv k2
              rw [hp] at h; cases h
            · simp [cnt] at k3
          · cases ha
end Go.Dm
