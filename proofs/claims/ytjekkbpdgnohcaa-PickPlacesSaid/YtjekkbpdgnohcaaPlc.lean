/-
  Which tree some steps begin with (plain).
-/
import Derived.Test.YtjekkbpdgnohcaaSplW
namespace Go.Proofs.Ytjekkbpdgnohcaa
open Go.Dm
theorem getD_idx {α : Type} {l : List α} {t : Nat} {d : α} (h : t < l.length) : l.getD t d = l[t] := by simp [List.getD, h]
theorem sumL_filter {α : Type} {f : α → Nat} : ∀ {l : List α}, sumL f (l.filter fun c => decide (f c ≠ 0)) = sumL f l
  | [] => rfl
  | x :: l => by
    rw [List.filter_cons]
    by_cases h : f x = 0
    · rw [if_neg (by simp [h]), sumL_filter, sumL, h, Nat.zero_add]
    · rw [if_pos (by simp [h]), sumL, sumL, sumL_filter]
theorem filter_at {α : Type} {p : α → Bool} : ∀ {l : List α} {t : Nat}, t < (l.filter p).length → ∃ c, c < l.length ∧ (l.take c).filter p = (l.filter p).take t ∧ ∀ d, l.getD c d = (l.filter p).getD t d
  | [], t, h => absurd h (Nat.not_lt_zero _)
  | x :: l, t, h => by
    by_cases hx : p x = true
    · rw [List.filter_cons_of_pos hx] at h ⊢
      cases t with
      | zero => exact ⟨0, by simp, by simp, fun d => rfl⟩
      | succ t =>
        obtain ⟨c, h1, h2, h3⟩ := filter_at (l := l) (p := p) (t := t) (by simpa using h)
        exact ⟨c + 1, by simpa using h1, by rw [List.take_succ_cons, List.filter_cons_of_pos hx, h2, List.take_succ_cons], fun d => by rw [List.getD_cons_succ, List.getD_cons_succ, h3]⟩
    · rw [List.filter_cons_of_neg hx] at h ⊢
      obtain ⟨c, h1, h2, h3⟩ := filter_at (l := l) (p := p) (t := t) h
      exact ⟨c + 1, by simpa using h1, by rw [List.take_succ_cons, List.filter_cons_of_neg hx, h2], fun d => by rw [List.getD_cons_succ, h3]⟩
theorem tk_uncons {g : Grammar} {w : List Int} {x : Int} {l : List Int} {i : Nat} {es : List Nat} {st : List Int} {K : Nat} (h : Tk g w (x :: l) i es st K) : ∃ e es' s1 s2 n K2, es = e :: es' ∧ st = s1 ++ s2 ∧ Tk g w [x] i [e] s1 n ∧ Tk g w l e es' s2 K2 := by
  cases h with
  | @sym _ _ _ es st _ hx hw h => exact ⟨_, _, [], st, 0, K, rfl, rfl, .sym hx hw (.nil _), h⟩
  | @name _ _ _ e es q c s1 s2 K1 K2 hx hq hc h1 h2 =>
    exact ⟨_, _, _, s2, _, K2, rfl, rfl, by have := Tk.name hx hq hc h1 (.nil e); rwa [List.append_nil] at this, h2⟩
structure AI (g : Grammar) (w : List Int) (rt : List Int) (i : Nat) (way : List Nat) (stp : List Int) (m : Nat) (acc : List Int) (own : Nat) : Prop where
  pre : ∃ rest, stp = acc ++ rest
  fw : ∀ st2 K2, Tk g w (rt.drop m) (stA i way m) (way.drop m) st2 K2 → Tk g w rt i way (acc ++ st2) (own + K2)
  bw : ∀ st K r, Tk g w rt i way st K → stp = st ++ r → ∃ st2 K2, st = acc ++ st2 ∧ Tk g w (rt.drop m) (stA i way m) (way.drop m) st2 K2
  le : own + prT g w (rt.drop m) (stA i way m) (way.drop m) ≤ prT g w rt i way
section
variable {g : Grammar} {w : List Int} {rt : List Int} {i : Nat} {way : List Nat} {stp : List Int} {m : Nat}
theorem AI.zero : AI g w rt i way stp 0 [] 0 where
  pre := ⟨stp, rfl⟩
  fw := fun st2 K2 h => by rw [Nat.zero_add]; exact h
  bw := fun st K r h _ => ⟨st, K, rfl, h⟩
  le := by rw [Nat.zero_add]; exact Nat.le_refl _
theorem stA_succ : stA i way (m + 1) = way.getD m 0 := by unfold stA; rw [if_neg (by omega), Nat.add_sub_cancel]
theorem AI.stepG (hm : m < rt.length) (hw : m < way.length) {acc : List Int} {own : Nat} (h : AI g w rt i way stp m acc own) {s1 : List Int} {n : Nat} (hT : Tk g w [rt.getD m 0] (stA i way m) [way.getD m 0] s1 n) (hp : ∃ rest, stp = acc ++ s1 ++ rest) (hpr : Proper g) : AI g w rt i way stp (m + 1) (acc ++ s1) (own + n * prT g w (rt.drop (m + 1)) (stA i way (m + 1)) (way.drop (m + 1))) := by
  have hd1 : rt.drop m = rt.getD m 0 :: rt.drop (m + 1) := dropC hm
  have hd2 : way.drop m = way.getD m 0 :: way.drop (m + 1) := dropC hw
  refine ⟨hp, fun st2 K2 h2 => ?_, fun st K r hK hs => ?_, ?_⟩
  · rw [List.append_assoc, Nat.add_assoc]
    refine h.fw _ _ ?_
    rw [stA_succ] at h2 ⊢
    rw [hd1, hd2]
    exact Tk.cons hT h2
  · obtain ⟨st2, K2, e1, h2⟩ := h.bw st K r hK hs
    rw [hd1, hd2] at h2
    obtain ⟨e, es', t1, t2, n', K3, e2, e3, h3, h4⟩ := tk_uncons h2
    simp only [List.cons.injEq] at e2
    obtain ⟨rfl, rfl⟩ := e2
    obtain ⟨rest, hp⟩ := hp
    have e5 : s1 ++ rest = t1 ++ (t2 ++ r) := by
      have : acc ++ (s1 ++ rest) = acc ++ (t1 ++ (t2 ++ r)) := by rw [← List.append_assoc, ← hp, hs, e1, e3]; simp
      exact List.append_cancel_left this
    obtain ⟨rfl, _, _, _⟩ := hT.det h3 e5
    exact ⟨t2, K3, by rw [e1, e3, List.append_assoc], by rw [stA_succ]; exact h4⟩
  · have h1 := h.le
    have h2 := hT.lt hpr
    rw [prT_cons, prT_nil, Nat.mul_one] at h2
    rw [hd1, hd2, prT_cons, ← stA_succ (i := i)] at h1
    have := Nat.mul_le_mul_right (prT g w (rt.drop (m + 1)) (stA i way (m + 1)) (way.drop (m + 1))) h2
    rw [← stA_succ (i := i), Nat.succ_mul] at this
    omega
theorem AI.sym (hm : m < rt.length) (hw : m < way.length) {acc : List Int} {own : Nat} (h : AI g w rt i way stp m acc own) (hx : rt.getD m 0 < g.k) (ht : trees g w (rt.getD m 0) (stA i way m) (way.getD m 0) ≠ 0) (hpr : Proper g) : AI g w rt i way stp (m + 1) acc own := by
  obtain ⟨h1, h2, h3⟩ := sym_tree (r := 0) hx (Nat.pos_of_ne_zero ht)
  have hT : Tk g w [rt.getD m 0] (stA i way m) [way.getD m 0] [] 0 := by rw [h2]; exact .sym hx h3 (.nil _)
  have := AI.stepG hm hw h hT (by rw [List.append_nil]; exact h.pre) hpr
  rwa [List.append_nil, Nat.zero_mul, Nat.add_zero] at this
theorem AI.none (hm : m < rt.length) (hw : m < way.length) {acc : List Int} {own : Nat} (h : AI g w rt i way stp m acc own) (hn : ∀ st1 K r, stp.drop acc.length = st1 ++ r → ¬ Tk g w [rt.getD m 0] (stA i way m) [way.getD m 0] st1 K) : ∀ st K r, stp = st ++ r → ¬ Tk g w rt i way st K := fun st K r hs hK => by
  obtain ⟨st2, K2, e1, h2⟩ := h.bw st K r hK hs
  rw [dropC (d := 0) hm, dropC (d := 0) hw] at h2
  obtain ⟨e, es', t1, t2, n', K3, e2, e3, h3, h4⟩ := tk_uncons h2
  simp only [List.cons.injEq] at e2
  obtain ⟨rfl, rfl⟩ := e2
  refine hn t1 n' (t2 ++ r) ?_ h3
  rw [hs, e1, e3, List.append_assoc, List.drop_left, List.append_assoc]
theorem AI.all (hm : m = rt.length) (hw : m = way.length) {acc : List Int} {own : Nat} (h : AI g w rt i way stp m acc own) : Tk g w rt i way acc own := by
  have := h.fw [] 0
  rw [List.drop_of_length_le (by omega), List.drop_of_length_le (by omega), List.append_nil] at this
  exact this (.nil _)
end
def ahNo (g : Grammar) (w : List Int) (x : Int) (i j : Nat) (stp : List Int) : Prop := ∀ st K r, stp = st ++ r → ¬ Tk g w [x] i [j] st K
theorem ahNo_nil {g : Grammar} {w : List Int} {x : Int} {i j : Nat} (hx : ¬ x < g.k) : ahNo g w x i j [] := fun st K r hs hK => by
  cases hK with
  | sym h => exact hx h
  | name => cases hs
theorem ahNo_rule {g : Grammar} {w : List Int} {x : Int} {i j : Nat} {stp : List Int} (hx : ¬ x < g.k) (h : ∀ q : Nat, stp ≠ [] → stp.getD 0 0 = q → ¬ RuleAt g x q) : ahNo g w x i j stp := fun st K r hs hK => by
  cases hK with
  | sym h0 => exact hx h0
  | @name _ _ _ _ _ q c s1 s2 K1 K2 hx hq hc h1 h2 =>
    exact h q (by rw [hs]; simp) (by rw [hs]; rfl) hq
theorem ahNo_ways {g : Grammar} {w : List Int} (hp : Proper g) {x : Int} {i j q : Nat} {stp : List Int} (hx : ¬ x < g.k) (hq0 : stp.getD 0 0 = q) (hRA : RuleAt g x q)
    (h : ∀ t, t < (splN g w (g.rules.getD q default).right i j).length → ∀ st K r, stp.drop 1 = st ++ r → ¬ Tk g w (g.rules.getD q default).right i ((splN g w (g.rules.getD q default).right i j).getD t default) st K) : ahNo g w x i j stp := fun st K r hs hK => by
  cases hK with
  | sym h0 => exact hx h0
  | @name _ _ _ _ _ q' c s1 s2 K1 K2 hx hq hc h1 h2 =>
    have e : q' = q := by
      rw [hs] at hq0
      have : ((q' : Nat) : Int) = q := hq0
      omega
    subst e
    have hm : (cutN ((g.rules.getD q' default).right.length - 1) i j).getD c [] ∈ splN g w (g.rules.getD q' default).right i j := by
      rw [splN_cut hp _ _ _ (right_ne hp (rule_lt hq)), List.mem_filter]
      exact ⟨getD_cut hc, by have := h1.lt hp; simp only [decide_eq_true_eq]; omega⟩
    obtain ⟨t, ht, he⟩ := List.getElem_of_mem hm
    refine h t ht s1 K1 (s2 ++ r) ?_ ?_
    · rw [hs, List.cons_append, List.cons_append, List.drop_succ_cons, List.drop_zero, List.append_assoc]
    · have e2 : (splN g w (g.rules.getD q' default).right i j).getD t default = (cutN ((g.rules.getD q' default).right.length - 1) i j).getD c [] := by
        rw [← he]; exact getD_idx ht
      rw [e2]; exact h1
theorem ah_done {g : Grammar} {w : List Int} (hp : Proper g) {x : Int} {i j q t : Nat} {acc : List Int} {own : Nat} (hx : ¬ x < g.k) (hRA : RuleAt g x q) (ht : t < (splN g w (g.rules.getD q default).right i j).length)
    (h : Tk g w (g.rules.getD q default).right i ((splN g w (g.rules.getD q default).right i j).getD t default) acc own) : Tk g w [x] i [j] ((q : Int) :: acc) (rlB g w x i j q + sumL (prT g w (g.rules.getD q default).right i) ((splN g w (g.rules.getD q default).right i j).take t) + own) := by
  have e := splN_cut (w := w) hp (g.rules.getD q default).right i j (right_ne hp (rule_lt hRA))
  rw [e] at ht h ⊢
  obtain ⟨c, h1, h2, h3⟩ := filter_at ht
  rw [← h3] at h
  have := Tk.name (l := []) (es := []) (s2 := []) (K2 := 0) hx hRA h1 h (.nil j)
  rw [prT_nil, Nat.mul_one, Nat.add_zero, List.append_nil] at this
  rw [← h2, sumL_filter]
  exact this
theorem ways_sum {g : Grammar} {w : List Int} (hp : Proper g) {l : List Int} {i j : Nat} (hl : l ≠ []) : sumL (prT g w l i) (splN g w l i j) = rowN g w l i j := by
  rw [splN_cut hp l i j hl, sumL_filter, cut_sum l i j hl]
theorem way_pos {g : Grammar} {w : List Int} (hp : Proper g) {l : List Int} {i j : Nat} (hl : l ≠ []) {c : List Nat} (hc : c ∈ splN g w l i j) : c ∈ cutN (l.length - 1) i j ∧ prT g w l i c ≠ 0 := by
  rw [splN_cut hp l i j hl, List.mem_filter] at hc
  exact ⟨hc.1, by simpa using hc.2⟩
end Go.Proofs.Ytjekkbpdgnohcaa
