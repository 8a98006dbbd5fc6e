/-
  Trees by their steps, and their places (plain).
-/
import Derived.Test.YtjekkbpdgnohcaaTrees
import Derived.Test.YtjekkbpdgnohcaaFollow
namespace Go.Dm
set_option linter.unusedSimpArgs false
set_option linter.unnecessarySimpa false
set_option linter.unusedVariables false
def cutN : Nat → Nat → Nat → List (List Nat)
  | 0, _, to => [[to]]
  | n + 1, frm, to => (List.range (to - (frm + 1))).flatMap fun q => (cutN n (frm + 1 + q) to).map fun r => (frm + 1 + q) :: r
theorem cutN_len : ∀ {n i j : Nat} {c : List Nat}, c ∈ cutN n i j → c.length = n + 1
  | 0, i, j, c, h => by simp [cutN] at h; subst h; rfl
  | n + 1, i, j, c, h => by
    simp only [cutN, List.mem_flatMap, List.mem_map] at h
    obtain ⟨q, _, r, hr, rfl⟩ := h
    rw [List.length_cons, cutN_len hr]
theorem cutN_last : ∀ {n i j : Nat} {c : List Nat}, c ∈ cutN n i j → c.getLast? = some j
  | 0, i, j, c, h => by simp [cutN] at h; subst h; rfl
  | n + 1, i, j, c, h => by
    simp only [cutN, List.mem_flatMap, List.mem_map] at h
    obtain ⟨q, _, r, hr, rfl⟩ := h
    have := cutN_last hr
    cases r with
    | nil => simp at this
    | cons y r => rw [List.getLast?_cons_cons]; exact this
theorem nodup_flat {α β : Type} {f : α → List β} : ∀ {l : List α}, l.Nodup → (∀ x, x ∈ l → (f x).Nodup) → (∀ x, x ∈ l → ∀ y, y ∈ l → x ≠ y → ∀ z, z ∈ f x → z ∉ f y) → (l.flatMap f).Nodup
  | [], _, _, _ => by simp
  | x :: l, hn, h1, h2 => by
    rw [List.nodup_cons] at hn
    rw [List.flatMap_cons, List.nodup_append]
    refine ⟨h1 x (by simp), nodup_flat hn.2 (fun y hy => h1 y (by simp [hy])) (fun y hy z hz => h2 y (by simp [hy]) z (by simp [hz])), fun a ha b hb e => ?_⟩
    subst e
    obtain ⟨y, hy, hz⟩ := List.mem_flatMap.1 hb
    exact h2 x (by simp) y (by simp [hy]) (fun e => hn.1 (e ▸ hy)) a ha hz
theorem cutN_nodup : ∀ {n i j : Nat}, (cutN n i j).Nodup
  | 0, i, j => by simp [cutN]
  | n + 1, i, j => by
    unfold cutN
    refine nodup_flat List.nodup_range (fun q _ => ?_) (fun x _ y _ hxy z hz hz' => ?_)
    · have := cutN_nodup (n := n) (i := i + 1 + q) (j := j)
      exact List.Pairwise.map _ (fun a b hab e => hab (by simpa using e)) this
    · obtain ⟨r, _, rfl⟩ := List.mem_map.1 hz
      obtain ⟨r', _, e⟩ := List.mem_map.1 hz'
      simp only [List.cons.injEq] at e
      omega
theorem cutN_inj {n i j c c' : Nat} (h : c < (cutN n i j).length) (h' : c' < (cutN n i j).length) (e : (cutN n i j).getD c [] = (cutN n i j).getD c' []) : c = c' := by
  rw [List.getD_eq_getElem?_getD, List.getD_eq_getElem?_getD, List.getElem?_eq_getElem h, List.getElem?_eq_getElem h'] at e
  exact (List.getElem_inj cutN_nodup).1 (by simpa using e)
theorem getD_cut {n i j c : Nat} (h : c < (cutN n i j).length) : (cutN n i j).getD c [] ∈ cutN n i j := by
  rw [List.getD_eq_getElem?_getD, List.getElem?_eq_getElem h]; exact List.getElem_mem h
def prT (g : Grammar) (w : List Int) : List Int → Nat → List Nat → Nat
  | x :: l, i, e :: es => trees g w x i e * prT g w l e es
  | _, _, _ => 1
theorem prT_nil {g : Grammar} {w : List Int} {i : Nat} {es : List Nat} : prT g w [] i es = 1 := (rfl)
theorem prT_cons {g : Grammar} {w : List Int} {x : Int} {l : List Int} {i e : Nat} {es : List Nat} : prT g w (x :: l) i (e :: es) = trees g w x i e * prT g w l e es := (rfl)
def sumL {α : Type} (f : α → Nat) : List α → Nat
  | [] => 0
  | x :: l => f x + sumL f l
theorem sumL_app {α : Type} {f : α → Nat} : ∀ {a b : List α}, sumL f (a ++ b) = sumL f a + sumL f b
  | [], b => by simp [sumL]
  | x :: a, b => by simp only [List.cons_append, sumL, sumL_app]; omega
theorem sumL_map {α β : Type} {f : β → Nat} {h : α → β} : ∀ {a : List α}, sumL f (a.map h) = sumL (fun x => f (h x)) a
  | [] => rfl
  | x :: a => by simp only [List.map_cons, sumL, sumL_map]
theorem sumL_mul {α : Type} {f : α → Nat} {c : Nat} : ∀ {a : List α}, sumL (fun x => c * f x) a = c * sumL f a
  | [] => by simp [sumL]
  | x :: a => by simp only [sumL, sumL_mul, Nat.mul_add]
theorem sumL_congr {α : Type} {f h : α → Nat} : ∀ {a : List α}, (∀ x, x ∈ a → f x = h x) → sumL f a = sumL h a
  | [], _ => rfl
  | x :: a, hh => by rw [sumL, sumL, hh x (by simp), sumL_congr fun y hy => hh y (by simp [hy])]
theorem sumL_flat {α β : Type} {f : β → Nat} {h : α → List β} : ∀ {a : List α}, sumL f (a.flatMap h) = sumL (fun x => sumL f (h x)) a
  | [] => rfl
  | x :: a => by rw [List.flatMap_cons, sumL_app, sumL, sumL_flat]
theorem sumL_range {f : Nat → Nat} : ∀ {n : Nat}, sumL f (List.range n) = nsum f n
  | 0 => rfl
  | n + 1 => by rw [List.range_succ, sumL_app, sumL_range, sumL, sumL]; rfl
theorem sumL_take {α : Type} {f : α → Nat} {l : List α} {c : Nat} {d : α} (h : c < l.length) : sumL f (l.take c) + f (l.getD c d) ≤ sumL f l := by
  have e : l = l.take c ++ l.getD c d :: l.drop (c + 1) := by
    conv => lhs; rw [← List.take_append_drop c l, List.drop_eq_getElem_cons h]
    simp [List.getD, h]
  conv => rhs; rw [e]
  rw [sumL_app, sumL]; omega
theorem sumL_take_succ {α : Type} {f : α → Nat} {l : List α} {c : Nat} {d : α} (h : c < l.length) : sumL f (l.take (c + 1)) = sumL f (l.take c) + f (l.getD c d) := by
  rw [List.take_add_one, sumL_app, List.getElem?_eq_getElem h]
  simp [sumL, List.getD, h]
theorem nsum_shift {f : Nat → Nat} {a : Nat} : ∀ {b : Nat}, a ≤ b → tsum f a b = nsum (fun q => f (a + q)) (b - a)
  | 0, h => by have : a = 0 := by omega
               subst this; rfl
  | b + 1, h => by
    by_cases e : a = b + 1
    · subst e; rw [tsum_empty (Nat.le_refl _), Nat.sub_self]; rfl
    · rw [tsum_succ (by omega), nsum_shift (b := b) (by omega), show b + 1 - a = (b - a) + 1 by omega]
      show _ = nsum _ (b - a) + f (a + (b - a))
      rw [show a + (b - a) = b by omega]
theorem cut_sum {g : Grammar} {w : List Int} : ∀ (l : List Int) (i j : Nat), l ≠ [] → sumL (prT g w l i) (cutN (l.length - 1) i j) = rowN g w l i j
  | [], _, _, h => absurd rfl h
  | [x], i, j, _ => by simp [cutN, sumL, prT, rowN_one]
  | x :: y :: l, i, j, _ => by
    rw [rowN_two]
    show sumL _ (cutN (l.length + 1) i j) = _
    unfold cutN
    rw [sumL_flat, sumL_range]
    have key : ∀ q, sumL (prT g w (x :: y :: l) i) ((cutN l.length (i + 1 + q) j).map fun r => (i + 1 + q) :: r) = trees g w x i (i + 1 + q) * rowN g w (y :: l) (i + 1 + q) j := fun q => by
      rw [sumL_map, ← cut_sum (y :: l) (i + 1 + q) j (by simp), ← sumL_mul]
      exact sumL_congr fun r _ => prT_cons
    rw [nsum_ext (fun q _ => key q)]
    by_cases h : i + 1 ≤ j
    · rw [nsum_shift h]
    · rw [show j - (i + 1) = 0 by omega, tsum_empty (by omega)]; rfl
def rlB (g : Grammar) (w : List Int) (x : Int) (i j q : Nat) : Nat := nsum (ruleV g w x i j) q
inductive Tk (g : Grammar) (w : List Int) : List Int → Nat → List Nat → List Int → Nat → Prop
  | nil (i : Nat) : Tk g w [] i [] [] 0
  | sym {x : Int} {l : List Int} {i : Nat} {es : List Nat} {st : List Int} {K : Nat} (hx : x < g.k) (hw : w.getD i 0 = x) (h : Tk g w l (i + 1) es st K) : Tk g w (x :: l) i ((i + 1) :: es) st K
  | name {x : Int} {l : List Int} {i e : Nat} {es : List Nat} {q c : Nat} {s1 s2 : List Int} {K1 K2 : Nat} (hx : ¬ x < g.k) (hq : RuleAt g x q) (hc : c < (cutN ((g.rules.getD q default).right.length - 1) i e).length)
      (h1 : Tk g w (g.rules.getD q default).right i ((cutN ((g.rules.getD q default).right.length - 1) i e).getD c []) s1 K1) (h2 : Tk g w l e es s2 K2) :
      Tk g w (x :: l) i (e :: es) ((q : Int) :: s1 ++ s2) ((rlB g w x i e q + sumL (prT g w (g.rules.getD q default).right i) ((cutN ((g.rules.getD q default).right.length - 1) i e).take c) + K1) * prT g w l e es + K2)
theorem rule_row {g : Grammar} {w : List Int} {x : Int} {q i j : Nat} (hq : RuleAt g x q) : ruleV g w x i j q = rowN g w (g.rules.getD q default).right i j := by
  unfold ruleV
  have := hq.2.2
  rw [Int.toNat_natCast] at this
  rw [if_pos this]
theorem rlB_row {g : Grammar} {w : List Int} (hp : Proper g) {x : Int} {q i j : Nat} (hx : ¬ x < g.k) (hq : RuleAt g x q) : rlB g w x i j q + rowN g w (g.rules.getD q default).right i j ≤ trees g w x i j := by
  rw [trees_name hp hx, ← rule_row hq]
  exact nsum_mono (f := ruleV g w x i j) (n := q + 1) (by have := hq.2.1; omega)
theorem right_ne {g : Grammar} (hp : Proper g) {q : Nat} (hq : q < g.rules.length) : (g.rules.getD q default).right ≠ [] := (hp _ (getD_mem' (l := g.rules) (i := q) hq)).1
theorem rule_lt {g : Grammar} {x : Int} {q : Nat} (hq : RuleAt g x q) : q < g.rules.length := by have := hq.2.1; omega
theorem Tk.lt {g : Grammar} {w : List Int} (hp : Proper g) {l : List Int} {i : Nat} {es : List Nat} {st : List Int} {K : Nat} (h : Tk g w l i es st K) : K < prT g w l i es := by
  induction h with
  | nil => exact Nat.one_pos
  | @sym x l i es st K hx hw h ih =>
    rw [prT_cons, trees_sym hx, symV, if_pos ⟨rfl, hw⟩, Nat.one_mul]; exact ih
  | @name x l i e es q c s1 s2 K1 K2 hx hq hc h1 h2 ih1 ih2 =>
    have hr := cut_sum (g := g) (w := w) _ i e (right_ne hp (rule_lt hq))
    have h3 := sumL_take (f := prT g w (g.rules.getD q default).right i) (d := []) hc
    have h4 := rlB_row hp (w := w) (i := i) (j := e) hx hq
    rw [prT_cons]
    have h5 : rlB g w x i e q + sumL (prT g w (g.rules.getD q default).right i) ((cutN ((g.rules.getD q default).right.length - 1) i e).take c) + K1 + 1 ≤ trees g w x i e := by omega
    refine Nat.lt_of_lt_of_le ?_ (Nat.mul_le_mul_right _ h5)
    rw [Nat.succ_mul]; omega
theorem Tk.cons {g : Grammar} {w : List Int} {x : Int} {l : List Int} {i e : Nat} {es : List Nat} {s1 s2 : List Int} {n K : Nat} (h1 : Tk g w [x] i [e] s1 n) (h2 : Tk g w l e es s2 K) : Tk g w (x :: l) i (e :: es) (s1 ++ s2) (n * prT g w l e es + K) := by
  cases h1 with
  | sym hx hw h =>
    cases h with
    | nil => rw [Nat.zero_mul, Nat.zero_add]; exact .sym hx hw h2
  | @name _ _ _ _ _ q c t1 t2 K1 K2 hx hq hc h3 h4 =>
    cases h4 with
    | nil =>
      rw [List.append_nil]
      have := Tk.name hx hq hc h3 h2
      rw [show prT g w [] e [] = 1 from rfl, Nat.mul_one, Nat.add_zero]
      exact this
theorem Tk.len {g : Grammar} {w : List Int} {l : List Int} {i : Nat} {es : List Nat} {st : List Int} {K : Nat} (h : Tk g w l i es st K) : es.length = l.length := by
  induction h with
  | nil => rfl
  | sym _ _ _ ih => simp [ih]
  | name _ _ _ _ _ _ ih2 => simp [ih2]
theorem Tk.det {g : Grammar} {w : List Int} {l : List Int} {i : Nat} {es : List Nat} {st : List Int} {K : Nat} (h : Tk g w l i es st K) : ∀ {es' : List Nat} {st' r r' : List Int} {K' : Nat}, Tk g w l i es' st' K' → st ++ r = st' ++ r' → st = st' ∧ es = es' ∧ K = K' ∧ r = r' := by
  induction h with
  | nil =>
    intro es' st' r r' K' h' e
    cases h' with
    | nil => exact ⟨rfl, rfl, rfl, e⟩
  | sym hx hw h ih =>
    intro es' st' r r' K' h' e
    cases h' with
    | sym _ _ h2 => obtain ⟨e1, e2, e3, e4⟩ := ih h2 e; exact ⟨e1, by rw [e2], e3, e4⟩
    | name hn => exact absurd hx hn
  | @name x l i e es q c s1 s2 K1 K2 hx hq hc h1 h2 ih1 ih2 =>
    intro es' st' r r' K' h' he
    cases h' with
    | sym hn => exact absurd hn hx
    | @name _ _ _ e' es' q' c' t1 t2 L1 L2 hx' hq' hc' k1 k2 =>
      simp only [List.cons_append, List.append_assoc, List.cons.injEq, Int.natCast_inj] at he
      obtain ⟨rfl, he⟩ := he
      obtain ⟨e1, e2, e3, e4⟩ := ih1 k1 he
      have l1 := cutN_last (getD_cut hc)
      have l2 := cutN_last (getD_cut hc')
      rw [e2, l2] at l1
      have hee : e' = e := by simpa using l1
      subst hee
      have hcc := cutN_inj hc hc' e2
      subst hcc
      obtain ⟨f1, f2, f3, f4⟩ := ih2 k2 e4
      exact ⟨by rw [e1, f1], by rw [f2], by rw [e3, f2, f3], f4⟩
end Go.Dm
