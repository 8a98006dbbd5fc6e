/-
  pick.grow with what it builds; slices.Equal; pick.place.
-/
import Derived.Test.YtjekkbpdgnohcaaPck
import Derived.Test.YtjekkbpdgnohcaaLibF
namespace Go.Proofs.Ytjekkbpdgnohcaa
open Go.Dm
set_option linter.unusedSimpArgs false
set_option linter.unnecessarySimpa false
set_option linter.unusedVariables false
set_option linter.defProp false
inductive Gr (g : Grammar) : List Int → List Int → List (List D) → List Int → List Int → Prop
  | nil {st : List Int} : Gr g [] st [] [] st
  | sym {x : Int} {s st w r : List Int} {ks : List (List D)} (hx : x < g.k) (h : Gr g s st ks w r) : Gr g (x :: s) st ([iv .i64 (-1), .nl, .sl 1 (i64s [x])] :: ks) (x :: w) r
  | name {x : Int} {q : Nat} {s st m w1 w2 r : List Int} {k1 k2 : List (List D)} (hx : ¬ x < g.k) (hq : RuleAt g x q) (h1 : Gr g (g.rules.getD q default).right st k1 w1 m) (h2 : Gr g s m k2 w2 r) : Gr g (x :: s) ((q : Int) :: st) ([iv .i64 q, .sl 3 k1, .sl 1 (i64s w1)] :: k2) (w1 ++ w2) r
theorem Gr.det {g : Grammar} {s st w r : List Int} {ks : List (List D)} (h : Gr g s st ks w r) : ∀ {ks' : List (List D)} {w' r' : List Int}, Gr g s st ks' w' r' → ks = ks' ∧ w = w' ∧ r = r' := by
  induction h with
  | nil => intro ks' w' r' h'; cases h'; exact ⟨rfl, rfl, rfl⟩
  | sym hx h ih =>
    intro ks' w' r' h'
    cases h' with
    | sym _ h2 => obtain ⟨e1, e2, e3⟩ := ih h2; exact ⟨by rw [e1], by rw [e2], e3⟩
    | name hn => exact absurd hx hn
  | @name x q s st m w1 w2 r k1 k2 hx hq h1 h2 ih1 ih2 =>
    intro ks' w' r' h'
    generalize hS : (q : Int) :: st = S at h'
    cases h' with
    | sym hn => exact absurd hn hx
    | @name _ q' _ st' m' w1' w2' _ k1' k2' _ hq' h1' h2' =>
      simp only [List.cons.injEq, Int.natCast_inj] at hS
      obtain ⟨rfl, rfl⟩ := hS
      obtain ⟨e1, e2, e3⟩ := ih1 h1'
      subst e3
      obtain ⟨f1, f2, f3⟩ := ih2 h2'
      exact ⟨by rw [e1, e2, f1], by rw [e2, f2], f3⟩
theorem Gr.len {g : Grammar} {s st w r : List Int} {ks : List (List D)} (h : Gr g s st ks w r) : ks.length = s.length := by
  induction h with
  | nil => rfl
  | sym _ _ ih => simp [ih]
  | name _ _ _ _ _ ih2 => simp [ih2]
theorem Gr.app {g : Grammar} {s st w m : List Int} {ks : List (List D)} (h : Gr g s st ks w m) : ∀ {s2 k2 w2 r}, Gr g s2 m k2 w2 r → Gr g (s ++ s2) st (ks ++ k2) (w ++ w2) r := by
  induction h with
  | nil => intro _ _ _ _ h2; exact h2
  | sym hx h ih => intro _ _ _ _ h2; exact .sym hx (ih h2)
  | name hx hq h1 h2 ih1 ih2 =>
    intro _ _ _ _ h3
    rw [List.append_assoc]
    exact .name hx hq h1 (ih2 h3)
theorem Gr.short {g : Grammar} {s st w r : List Int} {ks : List (List D)} (h : Gr g s st ks w r) : r.length ≤ st.length := by
  induction h with
  | nil => exact Nat.le_refl _
  | sym _ _ ih => exact ih
  | name _ _ _ _ ih1 ih2 => rw [List.length_cons]; omega
theorem Gr.wlen {g : Grammar} (hl : ∀ q, q < g.rules.length → (g.rules.getD q default).right.length ≤ 4) {s st w r : List Int} {ks : List (List D)} (h : Gr g s st ks w r) : w.length + 4 * r.length ≤ s.length + 4 * st.length := by
  induction h with
  | nil => simp
  | sym _ _ ih => simp only [List.length_cons]; omega
  | name _ hq _ _ ih1 ih2 =>
    have := hl _ (rule_lt hq)
    simp only [List.length_cons, List.length_append]; omega
inductive Tg (g : Grammar) (w : List Int) : List Int → Nat → List Nat → List Int → Nat → List (List D) → Prop
  | nil (i : Nat) : Tg g w [] i [] [] 0 []
  | sym {x : Int} {l : List Int} {i : Nat} {es : List Nat} {st : List Int} {K : Nat} {ks : List (List D)} (hx : x < g.k) (hw : w.getD i 0 = x) (h : Tg g w l (i + 1) es st K ks) : Tg g w (x :: l) i ((i + 1) :: es) st K ([iv .i64 (-1), .nl, .sl 1 (i64s [x])] :: ks)
  | name {x : Int} {l : List Int} {i e : Nat} {es : List Nat} {q c : Nat} {s1 s2 w1 : List Int} {K1 K2 : Nat} {k1 k2 : List (List D)} (hx : ¬ x < g.k) (hq : RuleAt g x q) (hc : c < (cutN ((g.rules.getD q default).right.length - 1) i e).length) (hw : i + w1.length = e)
      (h1 : Tg g w (g.rules.getD q default).right i ((cutN ((g.rules.getD q default).right.length - 1) i e).getD c []) s1 K1 k1) (h2 : Tg g w l e es s2 K2 k2) :
      Tg g w (x :: l) i (e :: es) ((q : Int) :: s1 ++ s2) ((rlB g w x i e q + sumL (prT g w (g.rules.getD q default).right i) ((cutN ((g.rules.getD q default).right.length - 1) i e).take c) + K1) * prT g w l e es + K2) ([iv .i64 q, .sl 3 k1, .sl 1 (i64s w1)] :: k2)
theorem Tg.tk {g : Grammar} {w : List Int} {l : List Int} {i : Nat} {es : List Nat} {st : List Int} {K : Nat} {ks : List (List D)} (h : Tg g w l i es st K ks) : Tk g w l i es st K := by
  induction h with
  | nil => exact .nil _
  | sym hx hw _ ih => exact .sym hx hw ih
  | name hx hq hc _ _ _ ih1 ih2 => exact .name hx hq hc ih1 ih2
theorem Tg.len {g : Grammar} {w : List Int} {l : List Int} {i : Nat} {es : List Nat} {st : List Int} {K : Nat} {ks : List (List D)} (h : Tg g w l i es st K ks) : es.length = l.length ∧ ks.length = l.length := by
  induction h with
  | nil => exact ⟨rfl, rfl⟩
  | sym _ _ _ ih => exact ⟨by simp [ih.1], by simp [ih.2]⟩
  | name _ _ _ _ _ _ _ ih => exact ⟨by simp [ih.1], by simp [ih.2]⟩
def SI : Nat → List Nat → Prop
  | _, [] => True
  | i, e :: es => i < e ∧ SI e es
theorem SI.le : ∀ {es : List Nat} {i : Nat}, SI i es → i + es.length ≤ stA i es es.length
  | [], i, _ => by simp [stA]
  | e :: es, i, h => by
    have := h.2.le
    rw [List.length_cons, stA_cons]
    have := h.1
    omega
theorem cutN_mem : ∀ {n i j : Nat} {es : List Nat}, es.length = n + 1 → SI i es → stA i es es.length = j → es ∈ cutN n i j
  | 0, i, j, [e], _, _, h => by
    have : e = j := h
    subst this
    simp [cutN]
  | n + 1, i, j, e :: es, hl, hs, h => by
    rw [List.length_cons, stA_cons] at h
    have h1 := hs.2.le
    have hl' : es.length = n + 1 := by simpa using hl
    have h2 := hs.1
    simp only [cutN, List.mem_flatMap, List.mem_map, List.mem_range]
    exact ⟨e - (i + 1), by omega, es, by rw [show i + 1 + (e - (i + 1)) = e by omega]; exact cutN_mem hl' hs.2 h, by rw [show i + 1 + (e - (i + 1)) = e by omega]⟩
  | 0, _, _, [], hl, _, _ => by simp at hl
  | 0, _, _, _ :: _ :: _, hl, _, _ => by simp at hl
  | n + 1, _, _, [], hl, _, _ => by simp at hl
theorem sl_app {w a b : List Int} {i : Nat} (h : (w.drop i).take (a ++ b).length = a ++ b) : (w.drop i).take a.length = a ∧ (w.drop (i + a.length)).take b.length = b := by
  rw [List.length_append] at h
  have h2 : w.drop i = a ++ (b ++ (w.drop i).drop (a.length + b.length)) := by
    conv => lhs; rw [← List.take_append_drop (a.length + b.length) (w.drop i), h]
    rw [List.append_assoc]
  constructor
  · rw [h2, List.take_left]
  · rw [← List.drop_drop, h2, List.drop_left, List.take_left]
theorem Gr.tg {g : Grammar} {w : List Int} (hp : Proper g) {l st wd r : List Int} {ks : List (List D)} (h : Gr g l st ks wd r) : ∀ i, (w.drop i).take wd.length = wd → ∃ es st1 K, st = st1 ++ r ∧ Tg g w l i es st1 K ks ∧ stA i es es.length = i + wd.length ∧ SI i es := by
  induction h with
  | nil => intro i _; exact ⟨[], [], 0, rfl, .nil i, rfl, trivial⟩
  | @sym x s st wd r ks hx h ih =>
    intro i hw
    obtain ⟨h1, h2⟩ := sl_app (a := [x]) (b := wd) (i := i) hw
    obtain ⟨es, st1, K, e1, e2, e3, e4⟩ := ih (i + 1) h2
    have hwi : w.getD i 0 = x := by
      have := congrArg (fun l : List Int => l.getD 0 0) h1
      simp only [List.length_singleton, List.getD_cons_zero] at this
      rw [← this]
      simp [List.getD]
    refine ⟨(i + 1) :: es, st1, K, e1, .sym hx hwi e2, ?_, by omega, e4⟩
    rw [List.length_cons, stA_cons, e3, List.length_cons]; omega
  | @name x q s st m w1 w2 r k1 k2 hx hq h1 h2 ih1 ih2 =>
    intro i hw
    obtain ⟨a1, a2⟩ := sl_app hw
    obtain ⟨es1, s1, K1, b1, b2, b3, b4⟩ := ih1 i a1
    obtain ⟨es2, s2, K2, c1, c2, c3, c4⟩ := ih2 _ a2
    have hl := b2.len.1
    have hne := List.length_pos_iff.2 (right_ne hp (rule_lt hq))
    have hm := cutN_mem (n := (g.rules.getD q default).right.length - 1) (by omega) b4 b3
    obtain ⟨c, hc, he⟩ := List.getElem_of_mem hm
    have he2 : (cutN ((g.rules.getD q default).right.length - 1) i (i + w1.length)).getD c [] = es1 := by rw [← he]; exact getD_idx hc
    refine ⟨(i + w1.length) :: es2, (q : Int) :: s1 ++ s2, _, by rw [b1, c1]; simp, .name hx hq hc rfl (by rw [he2]; exact b2) c2, ?_, ?_, c4⟩
    · rw [List.length_cons, stA_cons, c3, List.length_append]; omega
    · have := b4.le
      rw [b3] at this
      omega
theorem Tk.gr {g : Grammar} {w : List Int} {l : List Int} {i : Nat} {es : List Nat} {st : List Int} {K : Nat} (h : Tk g w l i es st K) : stA i es es.length ≤ w.length → i ≤ stA i es es.length ∧ ∀ r, ∃ ks, Gr g l (st ++ r) ks ((w.drop i).take (stA i es es.length - i)) r := by
  induction h with
  | nil i => intro _; exact ⟨Nat.le_refl _, fun r => ⟨[], by simp [stA]; exact .nil⟩⟩
  | @sym x l i es st K hx hw h ih =>
    intro hle
    rw [List.length_cons, stA_cons] at hle ⊢
    obtain ⟨h1, h2⟩ := ih hle
    refine ⟨by omega, fun r => ?_⟩
    obtain ⟨ks, hk⟩ := h2 r
    refine ⟨[iv .i64 (-1), .nl, .sl 1 (i64s [x])] :: ks, ?_⟩
    have e : (w.drop i).take (stA (i + 1) es es.length - i) = x :: (w.drop (i + 1)).take (stA (i + 1) es es.length - (i + 1)) := by
      rw [dropC (d := 0) (show i < w.length by omega), hw, show stA (i + 1) es es.length - i = (stA (i + 1) es es.length - (i + 1)) + 1 by omega, List.take_succ_cons]
    rw [e]
    exact .sym hx hk
  | @name x l i e es q c s1 s2 K1 K2 hx hq hc h1 h2 ih1 ih2 =>
    intro hle
    rw [List.length_cons, stA_cons] at hle ⊢
    obtain ⟨a1, a2⟩ := ih2 hle
    rw [last_stA (cutN_last (getD_cut hc))] at ih1
    obtain ⟨b1, b2⟩ := ih1 (by omega)
    refine ⟨by omega, fun r => ?_⟩
    obtain ⟨k2, hk2⟩ := a2 r
    obtain ⟨k1, hk1⟩ := b2 (s2 ++ r)
    refine ⟨[iv .i64 q, .sl 3 k1, .sl 1 (i64s ((w.drop i).take (e - i)))] :: k2, ?_⟩
    have ew : (w.drop i).take (stA e es es.length - i) = (w.drop i).take (e - i) ++ (w.drop e).take (stA e es es.length - e) := by
      rw [show stA e es es.length - i = (e - i) + (stA e es es.length - e) by omega, List.take_add, List.drop_drop, show i + (e - i) = e by omega]
    rw [ew, List.cons_append, List.cons_append, List.append_assoc]
    exact .name hx hq hk1 hk2
theorem tg_uncons {g : Grammar} {w : List Int} {x : Int} {l : List Int} {i : Nat} {es : List Nat} {st : List Int} {K : Nat} {ks : List (List D)} (h : Tg g w (x :: l) i es st K ks) : ∃ e es' s1 s2 n K2 k1 k2, es = e :: es' ∧ st = s1 ++ s2 ∧ ks = k1 :: k2 ∧ K = n * prT g w l e es' + K2 ∧ Tg g w [x] i [e] s1 n [k1] ∧ Tg g w l e es' s2 K2 k2 := by
  cases h with
  | @sym _ _ _ es st _ ks hx hw h => exact ⟨_, _, [], st, 0, K, _, _, rfl, rfl, rfl, by omega, .sym hx hw (.nil _), h⟩
  | @name _ _ _ e es q c s1 s2 w1 K1 K2 k1 k2 hx hq hc hw h1 h2 =>
    exact ⟨_, _, _, s2, _, K2, _, _, rfl, rfl, rfl, rfl, by have := Tg.name hx hq hc hw h1 (.nil e); rwa [List.append_nil, prT_nil, Nat.mul_one, Nat.add_zero] at this, h2⟩
theorem tg_row {g : Grammar} {w : List Int} {x : Int} {i e : Nat} {st : List Int} {K : Nat} {row : List D} (h : Tg g w [x] i [e] st K [row]) : ∃ q kk wd, row = [iv .i64 q, kk, .sl 1 (i64s wd)] ∧ i + wd.length = e ∧ (kk = .nl ∨ ∃ es, kk = .sl 3 es) := by
  cases h with
  | sym hx hw h => exact ⟨-1, .nl, [x], rfl, rfl, .inl rfl⟩
  | @name _ _ _ _ _ q c s1 s2 w1 K1 K2 k1 k2 hx hq hc hw h1 h2 => exact ⟨q, _, w1, rfl, hw, .inr ⟨_, rfl⟩⟩
theorem tg_at {g : Grammar} {w : List Int} : ∀ {l : List Int} {i : Nat} {es : List Nat} {st : List Int} {K : Nat} {ks : List (List D)}, Tg g w l i es st K ks → ∀ m, m < l.length → ∃ s1 n, Tg g w [l.getD m 0] (stA i es m) [es.getD m 0] s1 n [ks.getD m []]
  | [], _, _, _, _, _, _, m, hm => absurd hm (Nat.not_lt_zero _)
  | x :: l, i, es, st, K, ks, h, m, hm => by
    obtain ⟨e, es', s1, s2, n, K2, k1, k2, rfl, rfl, rfl, _, h1, h2⟩ := tg_uncons h
    cases m with
    | zero => exact ⟨s1, n, h1⟩
    | succ m => rw [stA_cons]; exact tg_at h2 m (by simpa using hm)
theorem Gr.split {g : Grammar} : ∀ {s1 s2 st w r : List Int} {ks : List (List D)}, Gr g (s1 ++ s2) st ks w r → ∃ k1 w1 m k2 w2, Gr g s1 st k1 w1 m ∧ Gr g s2 m k2 w2 r
  | [], s2, st, w, r, ks, h => ⟨[], [], st, ks, w, .nil, h⟩
  | x :: s1, s2, st, w, r, ks, h => by
    cases h with
    | sym hx h => obtain ⟨k1, w1, m, k2, w2, h1, h2⟩ := Gr.split h; exact ⟨_, _, m, k2, w2, .sym hx h1, h2⟩
    | name hx hq h0 h => obtain ⟨k1, w1, m, k2, w2, h1, h2⟩ := Gr.split h; exact ⟨_, _, m, k2, w2, .name hx hq h0 h1, h2⟩
theorem gr_sub {g : Grammar} {c : List Int} {i : Nat} {st w r w1 m : List Int} {k1 ks : List (List D)} (hi : i < c.length) (h1 : Gr g (c.take i) st k1 w1 m) (h : Gr g c st ks w r) : ∃ k2 w2 r2, Gr g [c.getD i 0] m k2 w2 r2 := by
  rw [← List.take_append_drop i c] at h
  obtain ⟨_, _, _, _, _, a1, a2⟩ := h.split
  obtain ⟨_, _, rfl⟩ := h1.det a1
  rw [dropC (d := 0) hi] at a2
  obtain ⟨k, w', r', _, _, b1, _⟩ := Gr.split (s1 := [c.getD i 0]) a2
  exact ⟨k, w', r', b1⟩
abbrev trZ : List D := [iv .i64 0, .nl, .nl]
def gwO (g : Grammar) (q : Int) (ks : List (List D)) (w : List Int) : List (Nat × Ob) := [(0, ⟨4, [graD g], true, false, .fix⟩), (1, ⟨3, [trZ], true, false, .fix⟩), (3, ⟨3, [[iv .i64 q, .own false 3 ks, .own false 1 (i64s w)]], true, true, .fix⟩)]
set_option maxRecDepth 10000 in
set_option maxHeartbeats 4000000 in
theorem grow_spec (g : Grammar) (hg : Valid g) (x : Int) (hx : 0 ≤ x ∧ x < g.k + g.n) (st : List Int) (hs : st.length ≤ 60) : Dm.Spec Try.prog 30 [.ag (graD g), iv .i64 x, .sl 1 (i64s st)] (fun d => (∃ q K w r, d = .tu [.ag [iv .i64 q, K, .sl 1 (i64s w)], .sl 1 (i64s r), .v (.bool true)] ∧ (K = .nl ∨ ∃ es, K = .sl 3 es) ∧ Gr g [x] st [[iv .i64 q, K, .sl 1 (i64s w)]] w r) ∨ (d = .tu [.ag trZ, .sl 1 [], .v (.bool false)] ∧ ∀ ks w r, ¬ Gr g [x] st ks w r)) := by
  refine spec_of_vc mixed Try.func30 c30 (by rw [show Try.f30.ntmps = _ from Try.ntmps30]; simp) ?_
  unfold m30 r30
  have hk := hg.k
  have hn := hg.n
  have hlen := hg.len
  by_cases hxk : x < g.k
  · repeat' first | ((first | refine Br.dec ?_ ?_ | refine Br.eqi ?_ ?_) <;> intro h <;> try (exfalso; omega)) | (simp (disch := (first | omega | (simp only [vlen]; first | done | omega))) only [↓vAq, vBq, ↓reduceIte, Nat.reduceBEq, Nat.reduceEqDiff, Nat.reduceLT, Nat.reduceLeDiff, Nat.reduceAdd, Nat.reduceMul, Nat.reduceSub, reduceCtorEq, Int.reduceToNat]) | (refine Br.mk ?_ ?_ <;> intro h) | (refine BrN.mk (fun h => ?_) ?_) | (refine AltVC.mk ?_ ?_)
    exact fin_mk (.inl ⟨-1, .nl, [x], st, rfl, .inl rfl, .sym hxk .nil⟩)
  · cases hst : st with
    | nil =>
      repeat' first | ((first | refine Br.dec ?_ ?_ | refine Br.eqi ?_ ?_) <;> intro h <;> try (exfalso; omega)) | (simp (disch := (first | omega | (simp only [vlen]; first | done | omega))) only [↓vAq, vBq, ↓reduceIte, Nat.reduceBEq, Nat.reduceEqDiff, Nat.reduceLT, Nat.reduceLeDiff, Nat.reduceAdd, Nat.reduceMul, Nat.reduceSub, reduceCtorEq, Int.reduceToNat]) | (refine Br.mk ?_ ?_ <;> intro h) | (refine BrN.mk (fun h => ?_) ?_) | (refine AltVC.mk ?_ ?_)
      exact fin_mk (.inr ⟨rfl, fun ks w r h => by cases h with | sym h1 _ => exact hxk h1⟩)
    | cons q st' =>
      have hst2 : st.length = st'.length + 1 := by rw [hst]; rfl
      rw [hst, List.length_cons] at hs
      have hq0 : (i64s (q :: st')).getD 0 [] = [iv .i64 q] := rfl
      have hno : ¬ RuleAt g x q → ∀ ks w r, ¬ Gr g [x] (q :: st') ks w r := fun h ks w r hp => by
        cases hp with
        | sym h1 _ => exact hxk h1
        | name _ h1 _ => exact h h1
      have hl : (q :: st').length = st'.length + 1 := rfl
      by_cases hq1 : q < 0
      · repeat' first | ((first | refine Br.dec ?_ ?_ | refine Br.eqi ?_ ?_) <;> intro h <;> try (exfalso; omega)) | (simp (disch := (first | omega | (simp only [vlen]; first | done | omega))) only [hl, ↓vAq, vBq, ↓reduceIte, Nat.reduceBEq, Nat.reduceEqDiff, Nat.reduceLT, Nat.reduceLeDiff, Nat.reduceAdd, Nat.reduceMul, Nat.reduceSub, reduceCtorEq, Int.reduceToNat]) | (refine Br.mk ?_ ?_ <;> intro h) | (refine BrN.mk (fun h => ?_) ?_) | (refine AltVC.mk ?_ ?_)
        exact fin_mk (.inr ⟨rfl, hno fun h => by have := h.1; omega⟩)
      · by_cases hq2 : (g.rules.length : Int) ≤ q
        · repeat' first | ((first | refine Br.dec ?_ ?_ | refine Br.eqi ?_ ?_) <;> intro h <;> try (exfalso; omega)) | (simp (disch := (first | omega | (simp only [vlen]; first | done | omega))) only [hl, ↓vAq, vBq, ↓reduceIte, Nat.reduceBEq, Nat.reduceEqDiff, Nat.reduceLT, Nat.reduceLeDiff, Nat.reduceAdd, Nat.reduceMul, Nat.reduceSub, reduceCtorEq, Int.reduceToNat]) | (refine Br.mk ?_ ?_ <;> intro h) | (refine BrN.mk (fun h => ?_) ?_) | (refine AltVC.mk ?_ ?_)
          exact fin_mk (.inr ⟨rfl, hno fun h => by have := h.2.1; omega⟩)
        · obtain ⟨p, rfl⟩ : ∃ p : Nat, q = p := ⟨q.toNat, by omega⟩
          have hm : g.rules.getD p default ∈ g.rules := getD_mem' (by omega)
          have hleft := hg.left _ hm
          have hlong := hg.long _ hm
          have hright := hg.right _ hm
          by_cases hq3 : (g.rules.getD p default).left = x - g.k
          · have hR : RuleAt g x p := ⟨by omega, by omega, by rw [Int.toNat_natCast]; exact hq3⟩
            have hlenw := fun {s0 t0 w0 r0 : List Int} {k0 : List (List D)} (h : Gr g s0 t0 k0 w0 r0) => And.intro (Gr.wlen (fun q hq => hg.long _ (getD_mem' (l := g.rules) (i := q) hq)) h) h.short
            repeat' first | ((first | refine Br.dec ?_ ?_ | refine Br.eqi ?_ ?_) <;> intro h <;> try (exfalso; omega)) | (simp (disch := (first | omega | (simp only [vlen]; first | done | omega))) only [hl, ↓vAq, vBq, ↓reduceIte, Nat.reduceBEq, Nat.reduceEqDiff, Nat.reduceLT, Nat.reduceLeDiff, Nat.reduceAdd, Nat.reduceMul, Nat.reduceSub, reduceCtorEq, Int.reduceToNat]) | (refine Br.mk ?_ ?_ <;> intro h) | (refine BrN.mk (fun h => ?_) ?_) | (refine AltVC.mk ?_ ?_)
            refine LoopVC.nlo 3 0 1 3 ?_
            repeat' first | ((first | refine Br.dec ?_ ?_ | refine Br.eqi ?_ ?_) <;> intro h <;> try (exfalso; omega)) | (simp (disch := (first | omega | (simp only [vlen]; first | done | omega))) only [hl, ↓vAq, vBq, ↓reduceIte, Nat.reduceBEq, Nat.reduceEqDiff, Nat.reduceLT, Nat.reduceLeDiff, Nat.reduceAdd, Nat.reduceMul, Nat.reduceSub, reduceCtorEq, Int.reduceToNat]) | (refine Br.mk ?_ ?_ <;> intro h) | (refine BrN.mk (fun h => ?_) ?_) | (refine AltVC.mk ?_ ?_)
            refine LoopVC.nlo 3 0 2 1 ?_
            repeat' first | ((first | refine Br.dec ?_ ?_ | refine Br.eqi ?_ ?_) <;> intro h <;> try (exfalso; omega)) | (simp (disch := (first | omega | (simp only [vlen]; first | done | omega))) only [hl, ↓vAq, vBq, ↓reduceIte, Nat.reduceBEq, Nat.reduceEqDiff, Nat.reduceLT, Nat.reduceLeDiff, Nat.reduceAdd, Nat.reduceMul, Nat.reduceSub, reduceCtorEq, Int.reduceToNat]) | (refine Br.mk ?_ ?_ <;> intro h) | (refine BrN.mk (fun h => ?_) ?_) | (refine AltVC.mk ?_ ?_)
            refine LoopVC.mk (X := Nat × List Int × List (List D) × List Int) (fun y => [(2, .sl 1 (i64s y.2.1)), (71, iv .i64 y.1)]) (fun y => gwO g p y.2.2.1 y.2.2.2) (fun y => (g.rules.getD p default).right.length - y.1) (fun y => y.1 ≤ (g.rules.getD p default).right.length ∧ Gr g ((g.rules.getD p default).right.take y.1) st' y.2.2.1 y.2.2.2 y.2.1 ∧ (y.2.2.1.all fun e => e.all D.clo') = true ∧ y.2.2.1.length = y.1) (0, st', [], []) ⟨Nat.zero_le _, .nil, rfl, rfl⟩ ?_ ?_
            · unfold gwO
              (simp (disch := (first | omega | (simp only [vlen]; first | done | omega))) only [Fits_u, Fits_m, Fits_nil, List.length_append, ↓vAq, vBq, ↓reduceIte, Nat.reduceBEq, Nat.reduceEqDiff, Nat.reduceLT, Nat.reduceLeDiff, Nat.reduceAdd, Nat.reduceMul, Nat.reduceSub, reduceCtorEq, Int.reduceToNat] <;> (repeat' first | rfl | apply And.intro))
              all_goals trace_state
            · rintro ⟨i, rest, ks, w⟩ ⟨h1, h2, h3, h4⟩
              unfold gwO
              simp only at h1 h2 h3 h4 ⊢
              by_cases hi : i < (g.rules.getD p default).right.length
              · have hxi := hright _ (getD_mem' (l := (g.rules.getD p default).right) (i := i) hi)
                have hl2 := hlenw h2
                rw [List.length_take] at hl2
                have hrec := grow_spec g hg ((g.rules.getD p default).right.getD i default) hxi rest (by omega)
                repeat' first | ((first | refine Br.dec ?_ ?_ | refine Br.eqi ?_ ?_) <;> intro h <;> try (exfalso; omega)) | (simp (disch := (first | omega | (simp only [vlen]; first | done | omega))) only [hl, ↓vAq, vBq, ↓reduceIte, Nat.reduceBEq, Nat.reduceEqDiff, Nat.reduceLT, Nat.reduceLeDiff, Nat.reduceAdd, Nat.reduceMul, Nat.reduceSub, reduceCtorEq, Int.reduceToNat]) | (refine Br.mk ?_ ?_ <;> intro h) | (refine BrN.mk (fun h => ?_) ?_) | (refine AltVC.mk ?_ ?_)
                refine CallVC.mk hrec ?_
                rintro _ (⟨q', K, w', r', rfl, hK, hp⟩ | ⟨rfl, hn'⟩)
                · have hl3 := hlenw hp
                  rw [List.length_singleton] at hl3
                  have hnext : ((ks ++ [[iv .i64 q', K, .sl 1 (i64s w')]]).all fun e => e.all D.clo') = true → (ks ++ [[iv .i64 q', K, .sl 1 (i64s w')]]).length = i + 1 → i + 1 ≤ (g.rules.getD p default).right.length ∧ Gr g ((g.rules.getD p default).right.take (i + 1)) st' (ks ++ [[iv .i64 q', K, .sl 1 (i64s w')]]) (w ++ w') r' ∧ ((ks ++ [[iv .i64 q', K, .sl 1 (i64s w')]]).all fun e => e.all D.clo') = true ∧ (ks ++ [[iv .i64 q', K, .sl 1 (i64s w')]]).length = i + 1 := fun a1 a2 => ⟨by omega, by rw [take_succ_getD hi default]; exact h2.app hp, a1, a2⟩
                  rcases hK with rfl | ⟨es, rfl⟩
                  · have hks : ((ks ++ [[iv .i64 q', .nl, .sl 1 (i64s w')]]).all fun e => e.all D.clo') = true := by rw [List.all_append, h3]; simp [clo'_v, clo'_nl, clo'_sl]
                    repeat' first | ((first | refine Br.dec ?_ ?_ | refine Br.eqi ?_ ?_) <;> intro h <;> try (exfalso; omega)) | (simp (disch := (first | omega | (simp only [vlen]; first | done | omega))) only [hl, ↓vAq, vBq, ↓reduceIte, Nat.reduceBEq, Nat.reduceEqDiff, Nat.reduceLT, Nat.reduceLeDiff, Nat.reduceAdd, Nat.reduceMul, Nat.reduceSub, reduceCtorEq, Int.reduceToNat]) | (refine Br.mk ?_ ?_ <;> intro h) | (refine BrN.mk (fun h => ?_) ?_) | (refine AltVC.mk ?_ ?_)
                    refine loopK.fold 5 3 0 1 false ?_
                    repeat' first | ((first | refine Br.dec ?_ ?_ | refine Br.eqi ?_ ?_) <;> intro h <;> try (exfalso; omega)) | (simp (disch := (first | omega | (simp only [vlen]; first | done | omega))) only [hl, hks, ↓vAq, vBq, ↓reduceIte, Nat.reduceBEq, Nat.reduceEqDiff, Nat.reduceLT, Nat.reduceLeDiff, Nat.reduceAdd, Nat.reduceMul, Nat.reduceSub, reduceCtorEq, Int.reduceToNat]) | (refine Br.mk ?_ ?_ <;> intro h) | (refine BrN.mk (fun h => ?_) ?_) | (refine AltVC.mk ?_ ?_)
                    refine loopK.fold 7 3 0 2 true ?_
                    repeat' first | ((first | refine Br.dec ?_ ?_ | refine Br.eqi ?_ ?_) <;> intro h <;> try (exfalso; omega)) | (simp (disch := (first | omega | (simp only [vlen]; first | done | omega))) only [hl, hks, ↓vAq, vBq, ↓reduceIte, Nat.reduceBEq, Nat.reduceEqDiff, Nat.reduceLT, Nat.reduceLeDiff, Nat.reduceAdd, Nat.reduceMul, Nat.reduceSub, reduceCtorEq, Int.reduceToNat]) | (refine Br.mk ?_ ?_ <;> intro h) | (refine BrN.mk (fun h => ?_) ?_) | (refine AltVC.mk ?_ ?_)
                    refine loopK.mk (i + 1, r', ks ++ [[iv .i64 q', .nl, .sl 1 (i64s w')]], w ++ w') (by simp (disch := (first | omega | (simp only [vlen]; first | done | omega))) only [↓vAq, vBq, ↓reduceIte, Nat.reduceBEq, Nat.reduceEqDiff, Nat.reduceLT, Nat.reduceLeDiff, Nat.reduceAdd, Nat.reduceMul, Nat.reduceSub, reduceCtorEq, Int.reduceToNat]) (hnext (by rw [List.all_append, h3]; simp [clo'_v, clo'_nl, clo'_sl]) (by rw [List.length_append, h4]; rfl)) (by show (g.rules.getD p default).right.length - (i + 1) < (g.rules.getD p default).right.length - i; omega) ?_
                    (simp (disch := (first | omega | (simp only [vlen]; first | done | omega))) only [Fits_u, Fits_m, Fits_nil, List.length_append, ↓vAq, vBq, ↓reduceIte, Nat.reduceBEq, Nat.reduceEqDiff, Nat.reduceLT, Nat.reduceLeDiff, Nat.reduceAdd, Nat.reduceMul, Nat.reduceSub, reduceCtorEq, Int.reduceToNat] <;> (repeat' first | rfl | apply And.intro))
                  · have hks : ((ks ++ [[iv .i64 q', .sl 3 es, .sl 1 (i64s w')]]).all fun e => e.all D.clo') = true := by rw [List.all_append, h3]; simp [clo'_v, clo'_nl, clo'_sl]
                    repeat' first | ((first | refine Br.dec ?_ ?_ | refine Br.eqi ?_ ?_) <;> intro h <;> try (exfalso; omega)) | (simp (disch := (first | omega | (simp only [vlen]; first | done | omega))) only [hl, ↓vAq, vBq, ↓reduceIte, Nat.reduceBEq, Nat.reduceEqDiff, Nat.reduceLT, Nat.reduceLeDiff, Nat.reduceAdd, Nat.reduceMul, Nat.reduceSub, reduceCtorEq, Int.reduceToNat]) | (refine Br.mk ?_ ?_ <;> intro h) | (refine BrN.mk (fun h => ?_) ?_) | (refine AltVC.mk ?_ ?_)
                    refine loopK.fold 5 3 0 1 false ?_
                    repeat' first | ((first | refine Br.dec ?_ ?_ | refine Br.eqi ?_ ?_) <;> intro h <;> try (exfalso; omega)) | (simp (disch := (first | omega | (simp only [vlen]; first | done | omega))) only [hl, hks, ↓vAq, vBq, ↓reduceIte, Nat.reduceBEq, Nat.reduceEqDiff, Nat.reduceLT, Nat.reduceLeDiff, Nat.reduceAdd, Nat.reduceMul, Nat.reduceSub, reduceCtorEq, Int.reduceToNat]) | (refine Br.mk ?_ ?_ <;> intro h) | (refine BrN.mk (fun h => ?_) ?_) | (refine AltVC.mk ?_ ?_)
                    refine loopK.fold 7 3 0 2 true ?_
                    repeat' first | ((first | refine Br.dec ?_ ?_ | refine Br.eqi ?_ ?_) <;> intro h <;> try (exfalso; omega)) | (simp (disch := (first | omega | (simp only [vlen]; first | done | omega))) only [hl, hks, ↓vAq, vBq, ↓reduceIte, Nat.reduceBEq, Nat.reduceEqDiff, Nat.reduceLT, Nat.reduceLeDiff, Nat.reduceAdd, Nat.reduceMul, Nat.reduceSub, reduceCtorEq, Int.reduceToNat]) | (refine Br.mk ?_ ?_ <;> intro h) | (refine BrN.mk (fun h => ?_) ?_) | (refine AltVC.mk ?_ ?_)
                    refine loopK.mk (i + 1, r', ks ++ [[iv .i64 q', .sl 3 es, .sl 1 (i64s w')]], w ++ w') (by simp (disch := (first | omega | (simp only [vlen]; first | done | omega))) only [↓vAq, vBq, ↓reduceIte, Nat.reduceBEq, Nat.reduceEqDiff, Nat.reduceLT, Nat.reduceLeDiff, Nat.reduceAdd, Nat.reduceMul, Nat.reduceSub, reduceCtorEq, Int.reduceToNat]) (hnext (by rw [List.all_append, h3]; simp [clo'_v, clo'_nl, clo'_sl]) (by rw [List.length_append, h4]; rfl)) (by show (g.rules.getD p default).right.length - (i + 1) < (g.rules.getD p default).right.length - i; omega) ?_
                    (simp (disch := (first | omega | (simp only [vlen]; first | done | omega))) only [Fits_u, Fits_m, Fits_nil, List.length_append, ↓vAq, vBq, ↓reduceIte, Nat.reduceBEq, Nat.reduceEqDiff, Nat.reduceLT, Nat.reduceLeDiff, Nat.reduceAdd, Nat.reduceMul, Nat.reduceSub, reduceCtorEq, Int.reduceToNat] <;> (repeat' first | rfl | apply And.intro))
                · repeat' first | ((first | refine Br.dec ?_ ?_ | refine Br.eqi ?_ ?_) <;> intro h <;> try (exfalso; omega)) | (simp (disch := (first | omega | (simp only [vlen]; first | done | omega))) only [hl, ↓vAq, vBq, ↓reduceIte, Nat.reduceBEq, Nat.reduceEqDiff, Nat.reduceLT, Nat.reduceLeDiff, Nat.reduceAdd, Nat.reduceMul, Nat.reduceSub, reduceCtorEq, Int.reduceToNat]) | (refine Br.mk ?_ ?_ <;> intro h) | (refine BrN.mk (fun h => ?_) ?_) | (refine AltVC.mk ?_ ?_)
                  refine fin_mk (.inr ⟨rfl, fun ks1 w1 r1 hp => ?_⟩)
                  cases hp with
                  | sym h5 _ => exact hxk h5
                  | name _ _ h5 =>
                    obtain ⟨k2, w2, r2, h6⟩ := gr_sub hi h2 h5
                    exact hn' _ _ _ h6
              · repeat' first | ((first | refine Br.dec ?_ ?_ | refine Br.eqi ?_ ?_) <;> intro h <;> try (exfalso; omega)) | (simp (disch := (first | omega | (simp only [vlen]; first | done | omega))) only [hl, ↓vAq, vBq, ↓reduceIte, Nat.reduceBEq, Nat.reduceEqDiff, Nat.reduceLT, Nat.reduceLeDiff, Nat.reduceAdd, Nat.reduceMul, Nat.reduceSub, reduceCtorEq, Int.reduceToNat]) | (refine Br.mk ?_ ?_ <;> intro h) | (refine BrN.mk (fun h => ?_) ?_) | (refine AltVC.mk ?_ ?_)
                refine GhoV.frz 3 ?_
                repeat' first | ((first | refine Br.dec ?_ ?_ | refine Br.eqi ?_ ?_) <;> intro h <;> try (exfalso; omega)) | (simp (disch := (first | omega | (simp only [vlen]; first | done | omega))) only [hl, ↓vAq, vBq, ↓reduceIte, Nat.reduceBEq, Nat.reduceEqDiff, Nat.reduceLT, Nat.reduceLeDiff, Nat.reduceAdd, Nat.reduceMul, Nat.reduceSub, reduceCtorEq, Int.reduceToNat]) | (refine Br.mk ?_ ?_ <;> intro h) | (refine BrN.mk (fun h => ?_) ?_) | (refine AltVC.mk ?_ ?_)
                refine GhoV.go ?_
                repeat' first | ((first | refine Br.dec ?_ ?_ | refine Br.eqi ?_ ?_) <;> intro h <;> try (exfalso; omega)) | (simp (disch := (first | omega | (simp only [vlen]; first | done | omega))) only [hl, ↓vAq, vBq, ↓reduceIte, Nat.reduceBEq, Nat.reduceEqDiff, Nat.reduceLT, Nat.reduceLeDiff, Nat.reduceAdd, Nat.reduceMul, Nat.reduceSub, reduceCtorEq, Int.reduceToNat]) | (refine Br.mk ?_ ?_ <;> intro h) | (refine BrN.mk (fun h => ?_) ?_) | (refine AltVC.mk ?_ ?_)
                have e : i = (g.rules.getD p default).right.length := by omega
                rw [e, List.take_length] at h2
                refine fin_mk (.inl ⟨p, .sl 3 ks, w, rest, rfl, .inr ⟨ks, rfl⟩, ?_⟩)
                have := Gr.name (s := []) hxk hR h2 .nil
                rwa [List.append_nil] at this
          · repeat' first | ((first | refine Br.dec ?_ ?_ | refine Br.eqi ?_ ?_) <;> intro h <;> try (exfalso; omega)) | (simp (disch := (first | omega | (simp only [vlen]; first | done | omega))) only [hl, ↓vAq, vBq, ↓reduceIte, Nat.reduceBEq, Nat.reduceEqDiff, Nat.reduceLT, Nat.reduceLeDiff, Nat.reduceAdd, Nat.reduceMul, Nat.reduceSub, reduceCtorEq, Int.reduceToNat]) | (refine Br.mk ?_ ?_ <;> intro h) | (refine BrN.mk (fun h => ?_) ?_) | (refine AltVC.mk ?_ ?_)
            exact fin_mk (.inr ⟨rfl, hno fun h => hq3 (by have := h.2.2; rwa [Int.toNat_natCast] at this)⟩)
termination_by st.length
decreasing_by all_goals first | omega | (simp only [List.length_cons]; omega) | (simp_wf; omega)
set_option maxRecDepth 10000 in
set_option maxHeartbeats 4000000 in
theorem equalI_spec (a b : List Int) (ha : a.length ≤ 1000000) (hb : b.length ≤ 1000000) : Dm.Spec Try.prog 31 [.sl 1 (i64s a), .sl 1 (i64s b)] (· = .v (.bool (decide (a = b)))) := by
  refine spec_of_vc mixed Try.func31 c31 (by rw [show Try.f31.ntmps = _ from Try.ntmps31]; simp) ?_
  unfold m31 r31
  repeat' first | ((first | refine Br.dec ?_ ?_ | refine Br.eqi ?_ ?_) <;> intro h <;> try (exfalso; omega)) | (simp (disch := (first | omega | (simp only [vlen]; first | done | omega))) only [vmy, ↓vAq, vBq, ↓reduceIte, Nat.reduceBEq, Nat.reduceEqDiff, Nat.reduceLT, Nat.reduceLeDiff, Nat.reduceAdd, Nat.reduceMul, Nat.reduceSub, reduceCtorEq, Int.reduceToNat]) | (refine Br.mk ?_ ?_ <;> intro h) | (refine BrN.mk (fun h => ?_) ?_) | (refine AltVC.mk ?_ ?_)
  · refine LoopVC.mk (X := Nat) (fun i => [(13, iv .i64 i)]) (fun _ => []) (fun i => a.length - i) (fun i => i ≤ a.length ∧ ∀ j, j < i → a.getD j 0 = b.getD j 0) 0 ⟨by omega, by omega⟩ ?_ ?_
    · (simp (disch := (first | omega | (simp only [vlen]; first | done | omega))) only [Fits_u, Fits_m, Fits_nil, List.length_append, vmy, ↓vAq, vBq, ↓reduceIte, Nat.reduceBEq, Nat.reduceEqDiff, Nat.reduceLT, Nat.reduceLeDiff, Nat.reduceAdd, Nat.reduceMul, Nat.reduceSub, reduceCtorEq, Int.reduceToNat] <;> (repeat' first | rfl | apply And.intro))
    · rintro i ⟨h1, h2⟩
      repeat' first | ((first | refine Br.dec ?_ ?_ | refine Br.eqi ?_ ?_) <;> intro h <;> try (exfalso; omega)) | (simp (disch := (first | omega | (simp only [vlen]; first | done | omega))) only [vmy, ↓vAq, vBq, ↓reduceIte, Nat.reduceBEq, Nat.reduceEqDiff, Nat.reduceLT, Nat.reduceLeDiff, Nat.reduceAdd, Nat.reduceMul, Nat.reduceSub, reduceCtorEq, Int.reduceToNat]) | (refine Br.mk ?_ ?_ <;> intro h) | (refine BrN.mk (fun h => ?_) ?_) | (refine AltVC.mk ?_ ?_)
      · have e : a.getD i 0 = b.getD i 0 := by omega
        refine loopK.mk (i + 1) (by simp (disch := (first | omega | (simp only [vlen]; first | done | omega))) only [↓vAq, vBq, ↓reduceIte, Nat.reduceBEq, Nat.reduceEqDiff, Nat.reduceLT, Nat.reduceLeDiff, Nat.reduceAdd, Nat.reduceMul, Nat.reduceSub, reduceCtorEq, Int.reduceToNat]) ⟨by omega, fun j hj => ?_⟩ (by omega) (by (simp (disch := (first | omega | (simp only [vlen]; first | done | omega))) only [Fits_u, Fits_m, Fits_nil, List.length_append, vmy, ↓vAq, vBq, ↓reduceIte, Nat.reduceBEq, Nat.reduceEqDiff, Nat.reduceLT, Nat.reduceLeDiff, Nat.reduceAdd, Nat.reduceMul, Nat.reduceSub, reduceCtorEq, Int.reduceToNat] <;> (repeat' first | rfl | apply And.intro)))
        by_cases e2 : j = i
        · subst e2; exact e
        · exact h2 j (by omega)
      · exact fin_mk (vbEq (decide_eq_false (fun e => by subst e; omega)).symm)
      · refine fin_mk (vbEq (decide_eq_true ?_).symm)
        apply List.ext_getElem (by omega)
        intro j h3 h4
        have := h2 j (by omega)
        simpa [List.getD, h3, h4] using this
  · exact fin_mk (vbEq (by rw [decide_eq_false (fun e => by subst e; omega)]))
end Go.Proofs.Ytjekkbpdgnohcaa
