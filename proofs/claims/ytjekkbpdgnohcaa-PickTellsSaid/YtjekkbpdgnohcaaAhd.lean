/-
  coppicerref.Ahead: how many trees come ahead of the one that some steps begin with.
-/
import Derived.Test.YtjekkbpdgnohcaaPlc
namespace Go.Proofs.Ytjekkbpdgnohcaa
open Go.Dm
set_option linter.unusedSimpArgs false
set_option linter.unnecessarySimpa false
set_option linter.unusedVariables false
set_option linter.defProp false
theorem wyD_ne {l : List Int} {i : Nat} {es : List Nat} (h : l ≠ []) : wyD l i es = [.sl 3 (tbl stD (wyS l i es))] := by unfold wyD; rw [if_neg h]
theorem wyS_len2 : ∀ {l : List Int} {i : Nat} {es : List Nat}, es.length = l.length → (wyS l i es).length = l.length
  | [], _, _, _ => by simp [wyS]
  | _ :: _, _, [], h => by simp at h
  | _ :: l, _, e :: es, h => by simp only [wyS, List.length_cons]; rw [wyS_len2 (by simpa using h)]
theorem wyS_get : ∀ {l : List Int} {i k : Nat} {es : List Nat}, es.length = l.length → k < l.length → (wyS l i es).getD k default = (stA i es k, es.getD k 0, l.getD k 0)
  | [], _, _, _, _, h => absurd h (Nat.not_lt_zero _)
  | _ :: _, _, _, [], h, _ => by simp at h
  | x :: l, i, 0, e :: es, h, _ => by simp [wyS, stA]
  | x :: l, i, k + 1, e :: es, h, hk => by
    rw [wyS, List.getD_cons_succ, wyS_get (by simpa using h) (by simpa using hk), stA_cons]; rfl
theorem prT_split {g : Grammar} {w : List Int} : ∀ {l : List Int} {es : List Nat} {i m : Nat}, es.length = l.length → prT g w l i es = prT g w (l.take m) i es * prT g w (l.drop m) (stA i es m) (es.drop m)
  | l, es, i, 0, h => by simp [stA, prT]
  | [], [], i, m + 1, h => by simp [prT]
  | [], _ :: _, i, m + 1, h => by simp at h
  | x :: l, [], i, m + 1, h => by simp at h
  | x :: l, e :: es, i, m + 1, h => by
    rw [List.take_succ_cons, List.drop_succ_cons, List.drop_succ_cons, prT_cons, prT_cons, stA_cons, prT_split (l := l) (es := es) (m := m) (by simpa using h), Nat.mul_assoc]
theorem prT_fac {g : Grammar} {w : List Int} {l : List Int} {es : List Nat} {i m B : Nat} (hl : es.length = l.length) (hm : m < l.length) (h0 : prT g w l i es ≠ 0) (hB : prT g w l i es ≤ B) :
    ∃ T P Q, trees g w (l.getD m 0) (stA i es m) (es.getD m 0) = T ∧ prT g w (l.take m) i es = P ∧ prT g w (l.drop (m + 1)) (stA i es (m + 1)) (es.drop (m + 1)) = Q ∧ prT g w (l.take (m + 1)) i es = P * T ∧ prT g w (l.drop m) (stA i es m) (es.drop m) = T * Q ∧ T ≠ 0 ∧ T ≤ B ∧ P ≠ 0 ∧ P * T ≤ B ∧ P ≤ B ∧ Q ≠ 0 ∧ T * Q ≤ B ∧ Q ≤ B := by
  refine ⟨_, _, _, rfl, rfl, rfl, prT_take hm (by omega), ?_, ?_⟩
  · rw [dropC (d := 0) hm, dropC (d := 0) (show m < es.length by omega), prT_cons, ← stA_succ (i := i)]
  have e1 := prT_split (g := g) (w := w) (i := i) (m := m) hl
  have e2 : prT g w (l.drop m) (stA i es m) (es.drop m) = trees g w (l.getD m 0) (stA i es m) (es.getD m 0) * prT g w (l.drop (m + 1)) (stA i es (m + 1)) (es.drop (m + 1)) := by
    rw [dropC (d := 0) hm, dropC (d := 0) (show m < es.length by omega), prT_cons, ← stA_succ (i := i)]
  rw [e1, e2] at h0 hB
  generalize trees g w (l.getD m 0) (stA i es m) (es.getD m 0) = T at *
  generalize prT g w (l.take m) i es = P at *
  generalize prT g w (l.drop (m + 1)) (stA i es (m + 1)) (es.drop (m + 1)) = Q at *
  have hP : P ≠ 0 := fun e => h0 (by rw [e, Nat.zero_mul])
  have hT : T ≠ 0 := fun e => h0 (by rw [e, Nat.zero_mul, Nat.mul_zero])
  have hQ : Q ≠ 0 := fun e => h0 (by rw [e, Nat.mul_zero, Nat.mul_zero])
  have a1 : T * Q ≤ P * (T * Q) := Nat.le_mul_of_pos_left _ (Nat.pos_of_ne_zero hP)
  have a2 : T ≤ T * Q := Nat.le_mul_of_pos_right _ (Nat.pos_of_ne_zero hQ)
  have a3 : Q ≤ T * Q := Nat.le_mul_of_pos_left _ (Nat.pos_of_ne_zero hT)
  have a4 : P * T ≤ P * T * Q := Nat.le_mul_of_pos_right _ (Nat.pos_of_ne_zero hQ)
  have a5 : P ≤ P * T := Nat.le_mul_of_pos_right _ (Nat.pos_of_ne_zero hT)
  rw [Nat.mul_assoc] at a4
  exact ⟨hT, by omega, hP, by omega, by omega, hQ, by omega, by omega⟩
def ahV (g : Grammar) (w : List Int) (x : Int) (i j : Nat) (stp : List Int) (d : D) : Prop :=
  (∃ st K r, stp = st ++ r ∧ Tk g w [x] i [j] st K ∧ d = .tu [iv .i64 K, iv .i64 st.length]) ∨ (ahNo g w x i j stp ∧ d = .tu [iv .i64 (-1), iv .i64 0])
def ahR (g : Grammar) (w : List Int) (x : Int) (i j : Nat) (stp : List Int) (d : D) (o : List (Option Ob)) : Prop := ∃ L, ahV g w x i j stp d ∧ o = (buO g w L).map some ∧ BI g w L
def ahP (g : Grammar) (w : List Int) (x : Int) (i j : Nat) : Prop := ∀ stp : List Int, stp.length ≤ 1000000 → ∀ L, BI g w L → Dm.SpecH Try.prog 29 [.ptr 0 6 0 0, iv .i64 (x - g.k), iv .i64 i, iv .i64 j, .sl 1 (i64s stp)] (buO g w L) (ahR g w x i j stp)
theorem ah_fin {g : Grammar} {w : List Int} {x : Int} {i j : Nat} {stp : List Int} {s : S} {d : D} {L : List BE} (h1 : 2 ≤ s.N) (h2 : fitL s 2 0 ((buO g w L).map some)) (hv : ahV g w x i j stp (d.trim 2)) (hL : BI g w L) : FinH 2 (ahR g w x i j stp) s d :=
  finH_mk ((buO g w L).map some) (by simp [buO]) (by simpa [buO] using h1) (by simpa [buO] using h2) ⟨L, hv, rfl, hL⟩
theorem ivEq {a b : Int} (h : a = b) : D.v (.int .i64 a) = iv .i64 b := by subst h; rfl
def vah := And.intro vsp <| And.intro @wyS_len @wyS_len
set_option maxRecDepth 10000 in
set_option maxHeartbeats 4000000 in
theorem ahead_step (g : Grammar) (w : List Int) (hc : CC g w) (x : Int) (hx : ¬ x < g.k) (hx2 : x < g.k + g.n) (i j : Nat) (hij : i ≤ j) (hj : j ≤ w.length) (hT : trees g w x i j ≤ 1099511627776) (ih : ∀ x' i' j', ¬ x' < g.k → x' < g.k + g.n → i' ≤ j' → j' ≤ w.length → j' - i' < j - i → trees g w x' i' j' ≤ 1099511627776 → ahP g w x' i' j') (stp : List Int) (hstp : stp.length ≤ 1000000) (L : List BE) (hL : BI g w L) : Dm.SpecH Try.prog 29 [.ptr 0 6 0 0, iv .i64 (x - g.k), iv .i64 i, iv .i64 j, .sl 1 (i64s stp)] (buO g w L) (ahR g w x i j stp) := by
  refine specH_of_vc mixed Try.func29 c29 (by rw [show Try.f29.ntmps = _ from Try.ntmps29]; simp) ?_
  unfold m29 r29
  have hk := hc.v.k
  have hn := hc.v.n
  have hw := hc.w
  have hlen := hc.v.len
  have hno : ∀ L : List BE, BI g w L → ∀ s : S, 2 ≤ s.N → fitL s 2 0 ((buO g w L).map some) → ahNo g w x i j stp → FinH 2 (ahR g w x i j stp) s (.tu [iv .i64 (-1), iv .i64 0]) := fun L hL s h1 h2 h3 => ah_fin h1 h2 (.inr ⟨h3, by simp (disch := (first | omega | (simp only [vlen]; first | done | omega))) only [vah, ↓vAq, vBq, ↓reduceIte, Nat.reduceBEq, Nat.reduceEqDiff, Nat.reduceLT, Nat.reduceLeDiff, Nat.reduceAdd, Nat.reduceMul, Nat.reduceSub, reduceCtorEq, Int.reduceToNat]⟩) hL
  by_cases hs0 : stp = []
  · subst hs0
    unfold buO at hno ⊢
    repeat' first | ((first | refine Br.dec ?_ ?_ | refine Br.eqi ?_ ?_) <;> intro h <;> try (exfalso; omega)) | (simp (disch := (first | omega | (simp only [vlen]; first | done | omega))) only [vah, ↓vAq, vBq, ↓reduceIte, Nat.reduceBEq, Nat.reduceEqDiff, Nat.reduceLT, Nat.reduceLeDiff, Nat.reduceAdd, Nat.reduceMul, Nat.reduceSub, reduceCtorEq, Int.reduceToNat]) | (refine Br.mk ?_ ?_ <;> intro h) | (refine BrN.mk (fun h => ?_) ?_) | (refine AltVC.mk ?_ ?_)
    exact hno L hL _ (by simp (disch := (first | omega | (simp only [vlen]; first | done | omega))) only [vah, ↓vAq, vBq, ↓reduceIte, Nat.reduceBEq, Nat.reduceEqDiff, Nat.reduceLT, Nat.reduceLeDiff, Nat.reduceAdd, Nat.reduceMul, Nat.reduceSub, reduceCtorEq, Int.reduceToNat]) (by simp (disch := (first | omega | (simp only [vlen]; first | done | omega))) only [vah, ↓vAq, vBq, ↓reduceIte, Nat.reduceBEq, Nat.reduceEqDiff, Nat.reduceLT, Nat.reduceLeDiff, Nat.reduceAdd, Nat.reduceMul, Nat.reduceSub, reduceCtorEq, Int.reduceToNat]) (ahNo_nil hx)
  have hsl : 0 < stp.length := List.length_pos_iff.2 hs0
  by_cases hr0 : 0 ≤ stp.getD 0 0 ∧ stp.getD 0 0 < g.rules.length
  · obtain ⟨q, hq0⟩ : ∃ q : Nat, stp.getD 0 0 = q := ⟨(stp.getD 0 0).toNat, by omega⟩
    have hql : q < g.rules.length := by omega
    by_cases hlx : (g.rules.getD q default).left = x - g.k
    · have hRA : RuleAt g x q := ⟨by omega, by omega, by rw [Int.toNat_natCast]; exact hlx⟩
      have hm : g.rules.getD q default ∈ g.rules := getD_mem' hql
      have hlong := hc.v.long _ hm
      have hright := hc.v.right _ hm
      have hne := right_ne hc.p hql
      have hrl : 0 < (g.rules.getD q default).right.length := List.length_pos_iff.2 hne
      have hrow := rlB_row hc.p (w := w) (i := i) (j := j) hx hRA
      have hws := ways_sum (w := w) hc.p (i := i) (j := j) hne
      have hdone := fun t acc own => @ah_done g w hc.p x i j q t acc own hx hRA
      have hways := @ahNo_ways g w hc.p x i j q stp hx hq0 hRA
      unfold buO
      repeat' first | ((first | refine Br.dec ?_ ?_ | refine Br.eqi ?_ ?_) <;> intro h <;> try (exfalso; omega)) | (simp (disch := (first | omega | (simp only [vlen]; first | done | omega))) only [vah, hq0, ↓vAq, vBq, ↓reduceIte, Nat.reduceBEq, Nat.reduceEqDiff, Nat.reduceLT, Nat.reduceLeDiff, Nat.reduceAdd, Nat.reduceMul, Nat.reduceSub, reduceCtorEq, Int.reduceToNat]) | (refine Br.mk ?_ ?_ <;> intro h) | (refine BrN.mk (fun h => ?_) ?_) | (refine AltVC.mk ?_ ?_)
      refine LoopVC.mk (X := Nat × List BE) (fun y => [(12, iv .i64 (rlB g w x i j y.1)), (13, iv .i64 y.1)]) (fun y => buL g w y.2) (fun y => q - y.1) (fun y => y.1 ≤ q ∧ BI g w y.2) (0, L) ⟨Nat.zero_le _, hL⟩ ?_ ?_
      · unfold buL
        (simp (disch := (first | omega | (simp only [vlen]; first | done | omega))) only [Fits_u, Fits_m, Fits_nil, List.length_append, vah, ↓vAq, vBq, ↓reduceIte, Nat.reduceBEq, Nat.reduceEqDiff, Nat.reduceLT, Nat.reduceLeDiff, Nat.reduceAdd, Nat.reduceMul, Nat.reduceSub, reduceCtorEq, Int.reduceToNat] <;> (repeat' first | rfl | apply And.intro))
        all_goals first | rfl | trace_state
      · rintro ⟨k, Lx⟩ ⟨hkq, hLx⟩
        simp only at hkq hLx ⊢
        unfold buL
        have hk1 := @rlB_succ g w x i j k
        have hk2 : rlB g w x i j (k + 1) ≤ trees g w x i j := by rw [trees_name hc.p hx]; exact nsum_mono (f := ruleV g w x i j) (by omega)
        by_cases hkl : k < q
        · have hkr := hc.v.long _ (getD_mem' (l := g.rules) (i := k) (by omega))
          have hkr2 := hc.v.right _ (getD_mem' (l := g.rules) (i := k) (by omega))
          by_cases hlk : (g.rules.getD k default).left = x - g.k
          · have hru : ruleV g w x i j k = rowN g w (g.rules.getD k default).right i j := by unfold ruleV; rw [if_pos hlk]
            have hcp : cp (rowN g w (g.rules.getD k default).right i j) = rowN g w (g.rules.getD k default).right i j := by unfold cp; omega
            repeat' first | ((first | refine Br.dec ?_ ?_ | refine Br.eqi ?_ ?_) <;> intro h <;> try (exfalso; omega)) | (simp (disch := (first | omega | (simp only [vlen]; first | done | omega))) only [vah, hq0, ↓vAq, vBq, ↓reduceIte, Nat.reduceBEq, Nat.reduceEqDiff, Nat.reduceLT, Nat.reduceLeDiff, Nat.reduceAdd, Nat.reduceMul, Nat.reduceSub, reduceCtorEq, Int.reduceToNat]) | (refine Br.mk ?_ ?_ <;> intro h) | (refine BrN.mk (fun h => ?_) ?_) | (refine AltVC.mk ?_ ?_)
            refine CallVC.lendE [0, 1] [.ptr 0 6 0 0, .sl 1 (i64s (g.rules.getD k default).right), iv .i64 i, iv .i64 j] (buO g w Lx) (bushR_spec g w hc _ i j (by omega) (fun m hm => hkr2 _ (getD_mem (d := 0) hm)) hij hj Lx hLx) (by simp) (by rfl) (by unfold buO; (simp (disch := (first | omega | (simp only [vlen]; first | done | omega))) only [vle0, ↓vAq, vBq, ↓reduceIte, Nat.reduceBEq, Nat.reduceEqDiff, Nat.reduceLT, Nat.reduceLeDiff, Nat.reduceAdd, Nat.reduceMul, Nat.reduceSub, reduceCtorEq, Int.reduceToNat] <;> (repeat' first | rfl | apply And.intro))) ?_
            rintro _ _ ⟨L2, rfl, rfl, hL2⟩
            unfold buO
            rw [hcp, ← hru]
            repeat' first | ((first | refine Br.dec ?_ ?_ | refine Br.eqi ?_ ?_) <;> intro h <;> try (exfalso; omega)) | (simp (disch := (first | omega | (simp only [vlen]; first | done | omega))) only [vah, hq0, ↓vAq, vBq, ↓reduceIte, Nat.reduceBEq, Nat.reduceEqDiff, Nat.reduceLT, Nat.reduceLeDiff, Nat.reduceAdd, Nat.reduceMul, Nat.reduceSub, reduceCtorEq, Int.reduceToNat]) | (refine Br.mk ?_ ?_ <;> intro h) | (refine BrN.mk (fun h => ?_) ?_) | (refine AltVC.mk ?_ ?_)
            refine loopK.mk (k + 1, L2) (by simp (disch := (first | omega | (simp only [vlen]; first | done | omega))) only [↓vAq, vBq, ↓reduceIte, Nat.reduceBEq, Nat.reduceEqDiff, Nat.reduceLT, Nat.reduceLeDiff, Nat.reduceAdd, Nat.reduceMul, Nat.reduceSub, reduceCtorEq, Int.reduceToNat]) ⟨by show k + 1 ≤ q; omega, hL2⟩ (by show q - (k + 1) < q - k; omega) ?_
            rw [hk1]
            (simp (disch := (first | omega | (simp only [vlen]; first | done | omega))) only [Fits_u, Fits_m, Fits_nil, List.length_append, vah, ↓vAq, vBq, ↓reduceIte, Nat.reduceBEq, Nat.reduceEqDiff, Nat.reduceLT, Nat.reduceLeDiff, Nat.reduceAdd, Nat.reduceMul, Nat.reduceSub, reduceCtorEq, Int.reduceToNat] <;> (repeat' first | rfl | apply And.intro))
            all_goals first | rfl | trace_state
          · have hru : ruleV g w x i j k = 0 := by unfold ruleV; rw [if_neg hlk]
            repeat' first | ((first | refine Br.dec ?_ ?_ | refine Br.eqi ?_ ?_) <;> intro h <;> try (exfalso; omega)) | (simp (disch := (first | omega | (simp only [vlen]; first | done | omega))) only [vah, hq0, ↓vAq, vBq, ↓reduceIte, Nat.reduceBEq, Nat.reduceEqDiff, Nat.reduceLT, Nat.reduceLeDiff, Nat.reduceAdd, Nat.reduceMul, Nat.reduceSub, reduceCtorEq, Int.reduceToNat]) | (refine Br.mk ?_ ?_ <;> intro h) | (refine BrN.mk (fun h => ?_) ?_) | (refine AltVC.mk ?_ ?_)
            refine loopK.mk (k + 1, Lx) (by simp (disch := (first | omega | (simp only [vlen]; first | done | omega))) only [↓vAq, vBq, ↓reduceIte, Nat.reduceBEq, Nat.reduceEqDiff, Nat.reduceLT, Nat.reduceLeDiff, Nat.reduceAdd, Nat.reduceMul, Nat.reduceSub, reduceCtorEq, Int.reduceToNat]) ⟨by show k + 1 ≤ q; omega, hLx⟩ (by show q - (k + 1) < q - k; omega) ?_
            rw [hk1, hru, Nat.add_zero]
            (simp (disch := (first | omega | (simp only [vlen]; first | done | omega))) only [Fits_u, Fits_m, Fits_nil, List.length_append, vah, ↓vAq, vBq, ↓reduceIte, Nat.reduceBEq, Nat.reduceEqDiff, Nat.reduceLT, Nat.reduceLeDiff, Nat.reduceAdd, Nat.reduceMul, Nat.reduceSub, reduceCtorEq, Int.reduceToNat] <;> (repeat' first | rfl | apply And.intro))
            all_goals first | rfl | trace_state
        · have hkq2 : k = q := by omega
          subst hkq2
          repeat' first | ((first | refine Br.dec ?_ ?_ | refine Br.eqi ?_ ?_) <;> intro h <;> try (exfalso; omega)) | (simp (disch := (first | omega | (simp only [vlen]; first | done | omega))) only [vah, hq0, ↓vAq, vBq, ↓reduceIte, Nat.reduceBEq, Nat.reduceEqDiff, Nat.reduceLT, Nat.reduceLeDiff, Nat.reduceAdd, Nat.reduceMul, Nat.reduceSub, reduceCtorEq, Int.reduceToNat]) | (refine Br.mk ?_ ?_ <;> intro h) | (refine BrN.mk (fun h => ?_) ?_) | (refine AltVC.mk ?_ ?_)
          refine CallVC.lendE [0, 1] [.ptr 0 6 0 0, .sl 1 (i64s (g.rules.getD k default).right), iv .i64 i, iv .i64 j] (buO g w Lx) (spl_all g w hc _ (by omega) hright i j hij hj Lx hLx) (by simp) (by rfl) (by unfold buO; (simp (disch := (first | omega | (simp only [vlen]; first | done | omega))) only [vle0, ↓vAq, vBq, ↓reduceIte, Nat.reduceBEq, Nat.reduceEqDiff, Nat.reduceLT, Nat.reduceLeDiff, Nat.reduceAdd, Nat.reduceMul, Nat.reduceSub, reduceCtorEq, Int.reduceToNat] <;> (repeat' first | rfl | apply And.intro))) ?_
          rintro _ _ ⟨L2, hres, rfl, hL2⟩
          unfold buO
          rcases hres with rfl | ⟨rfl, hemp⟩
          · generalize hW : splN g w (g.rules.getD k default).right i j = W at hdone hways hws ⊢
            have hWl : W.length ≤ 28561 := by rw [← hW]; exact Nat.le_trans (splN_len (by omega)) (Nat.le_trans (Nat.pow_le_pow_right (by omega) hlong) (by omega))
            repeat' first | ((first | refine Br.dec ?_ ?_ | refine Br.eqi ?_ ?_) <;> intro h <;> try (exfalso; omega)) | (simp (disch := (first | omega | (simp only [vlen]; first | done | omega))) only [vah, hq0, ↓vAq, vBq, ↓reduceIte, Nat.reduceBEq, Nat.reduceEqDiff, Nat.reduceLT, Nat.reduceLeDiff, Nat.reduceAdd, Nat.reduceMul, Nat.reduceSub, reduceCtorEq, Int.reduceToNat]) | (refine Br.mk ?_ ?_ <;> intro h) | (refine BrN.mk (fun h => ?_) ?_) | (refine AltVC.mk ?_ ?_)
            refine LoopVC.mk (X := Nat × List BE) (fun y => [(12, iv .i64 (rlB g w x i j k + sumL (prT g w (g.rules.getD k default).right i) (W.take y.1) : Nat)), (112, iv .i64 y.1)]) (fun y => buL g w y.2) (fun y => W.length - y.1) (fun y => y.1 ≤ W.length ∧ BI g w y.2 ∧ ∀ t, t < y.1 → ∀ st K r, stp.drop 1 = st ++ r → ¬ Tk g w (g.rules.getD k default).right i (W.getD t default) st K) (0, L2) ⟨Nat.zero_le _, hL2, fun t h => absurd h (Nat.not_lt_zero _)⟩ ?_ ?_
            · unfold buL
              simp only [List.take_zero, sumL, Nat.add_zero]
              (simp (disch := (first | omega | (simp only [vlen]; first | done | omega))) only [Fits_u, Fits_m, Fits_nil, List.length_append, vah, ↓vAq, vBq, ↓reduceIte, Nat.reduceBEq, Nat.reduceEqDiff, Nat.reduceLT, Nat.reduceLeDiff, Nat.reduceAdd, Nat.reduceMul, Nat.reduceSub, reduceCtorEq, Int.reduceToNat] <;> (repeat' first | rfl | apply And.intro))
              all_goals first | rfl | trace_state
            · rintro ⟨t, Ly⟩ ⟨htW, hLy, htn⟩
              simp only at htW hLy htn ⊢
              unfold buL
              by_cases htl : t < W.length
              · have hmem : W.getD t default ∈ W := getD_mem' htl
                have hpos := @way_pos g w hc.p (g.rules.getD k default).right i j hne (W.getD t default) (by rw [hW]; exact hmem)
                have hwlen := splN_wlen (by rw [hW]; exact hmem)
                have hgw := wyD_ne (i := i) (es := W.getD t default) hne
                have hmono := cutN_mono hij hpos.1
                have hshort := cutN_short hpos.1
                have hst := sumL_take (f := prT g w (g.rules.getD k default).right i) (d := default) htl
                have hst2 := sumL_take_succ (f := prT g w (g.rules.getD k default).right i) (d := default) htl
                have hdone := hdone t
                generalize hway : W.getD t default = way at hmem hpos hwlen hgw hmono hshort hst hst2 hdone ⊢
                have hwl := @wyS_len2 (g.rules.getD k default).right i way hwlen
                have hpB : prT g w (g.rules.getD k default).right i way ≤ 1099511627776 := by omega
                have hfac := fun m hm => @prT_fac g w (g.rules.getD k default).right way i m _ hwlen hm hpos.2 hpB
                have hsget := fun m => @wyS_get (g.rules.getD k default).right i m way hwlen
                repeat' first | ((first | refine Br.dec ?_ ?_ | refine Br.eqi ?_ ?_) <;> intro h <;> try (exfalso; omega)) | (simp (disch := (first | omega | (simp only [vlen]; first | done | omega))) only [vah, hq0, hway, hgw, ↓vAq, vBq, ↓reduceIte, Nat.reduceBEq, Nat.reduceEqDiff, Nat.reduceLT, Nat.reduceLeDiff, Nat.reduceAdd, Nat.reduceMul, Nat.reduceSub, reduceCtorEq, Int.reduceToNat]) | (refine Br.mk ?_ ?_ <;> intro h) | (refine BrN.mk (fun h => ?_) ?_) | (refine AltVC.mk ?_ ?_)
                refine LoopVC.mk (X := Nat × List BE) (fun y => [(16, iv .i64 (prT g w ((g.rules.getD k default).right.take y.1) i way)), (118, iv .i64 y.1)]) (fun y => buL g w y.2) (fun y => (g.rules.getD k default).right.length - y.1) (fun y => y.1 ≤ (g.rules.getD k default).right.length ∧ BI g w y.2) (0, Ly) ⟨Nat.zero_le _, hLy⟩ ?_ ?_
                · unfold buL
                  simp only [List.take_zero, prT_nil]
                  (simp (disch := (first | omega | (simp only [vlen]; first | done | omega))) only [Fits_u, Fits_m, Fits_nil, List.length_append, vah, ↓vAq, vBq, ↓reduceIte, Nat.reduceBEq, Nat.reduceEqDiff, Nat.reduceLT, Nat.reduceLeDiff, Nat.reduceAdd, Nat.reduceMul, Nat.reduceSub, reduceCtorEq, Int.reduceToNat] <;> (repeat' first | rfl | apply And.intro))
                  all_goals first | rfl | trace_state
                · rintro ⟨m, Lz⟩ ⟨hmr, hLz⟩
                  simp only at hmr hLz ⊢
                  unfold buL
                  by_cases hml : m < (g.rules.getD k default).right.length
                  · obtain ⟨T, P, Q, eT, eP, eQ, eP2, eQ2, hT0, hTB, hP0, hPT, hPB, hQ0, hTQ, hQB⟩ := hfac m hml
                    have hsg := hsget m hml
                    have hxm := hright _ (getD_mem (l := (g.rules.getD k default).right) (i := m) (d := 0) hml)
                    have hgm := hmono.get (k := m) (by omega)
                    rw [eP]
                    have hPT2 : (P : Int) * (T : Int) = ((P * T : Nat) : Int) := (Int.natCast_mul P T).symm
                    have hcT : cp T = T := by unfold cp; omega
                    have hbt := bushT_spec g w hc ((g.rules.getD k default).right.getD m 0) (stA i way m) (way.getD m 0) hxm.1 hxm.2 hgm.1 (by omega) Lz hLz
                    rw [eT] at hbt
                    repeat' first | ((first | refine Br.dec ?_ ?_ | refine Br.eqi ?_ ?_) <;> intro h <;> try (exfalso; omega)) | (simp (disch := (first | omega | (simp only [vlen]; first | done | omega))) only [vah, hq0, hway, hgw, hsg, ↓vAq, vBq, ↓reduceIte, Nat.reduceBEq, Nat.reduceEqDiff, Nat.reduceLT, Nat.reduceLeDiff, Nat.reduceAdd, Nat.reduceMul, Nat.reduceSub, reduceCtorEq, Int.reduceToNat]) | (refine Br.mk ?_ ?_ <;> intro h) | (refine BrN.mk (fun h => ?_) ?_) | (refine AltVC.mk ?_ ?_)
                    refine CallVC.lendE [0, 1] [.ptr 0 6 0 0, iv .i64 ((g.rules.getD k default).right.getD m 0), iv .i64 (stA i way m), iv .i64 (way.getD m 0)] (buO g w Lz) hbt (by simp) (by rfl) (by unfold buO; (simp (disch := (first | omega | (simp only [vlen]; first | done | omega))) only [vle0, ↓vAq, vBq, ↓reduceIte, Nat.reduceBEq, Nat.reduceEqDiff, Nat.reduceLT, Nat.reduceLeDiff, Nat.reduceAdd, Nat.reduceMul, Nat.reduceSub, reduceCtorEq, Int.reduceToNat] <;> (repeat' first | rfl | apply And.intro))) ?_
                    rintro _ _ ⟨L3, rfl, rfl, hL3⟩
                    unfold buO
                    rw [hcT]
                    repeat' first | ((first | refine Br.dec ?_ ?_ | refine Br.eqi ?_ ?_) <;> intro h <;> try (exfalso; omega)) | (simp (disch := (first | omega | (simp only [vlen]; first | done | omega))) only [vah, hq0, hway, hgw, hsg, hPT2, ↓vAq, vBq, ↓reduceIte, Nat.reduceBEq, Nat.reduceEqDiff, Nat.reduceLT, Nat.reduceLeDiff, Nat.reduceAdd, Nat.reduceMul, Nat.reduceSub, reduceCtorEq, Int.reduceToNat]) | (refine Br.mk ?_ ?_ <;> intro h) | (refine BrN.mk (fun h => ?_) ?_) | (refine AltVC.mk ?_ ?_)
                    refine loopK.mk (m + 1, L3) (by simp (disch := (first | omega | (simp only [vlen]; first | done | omega))) only [↓vAq, vBq, ↓reduceIte, Nat.reduceBEq, Nat.reduceEqDiff, Nat.reduceLT, Nat.reduceLeDiff, Nat.reduceAdd, Nat.reduceMul, Nat.reduceSub, reduceCtorEq, Int.reduceToNat]) ⟨by show m + 1 ≤ (g.rules.getD k default).right.length; omega, hL3⟩ (by show (g.rules.getD k default).right.length - (m + 1) < (g.rules.getD k default).right.length - m; omega) ?_
                    simp only [eP2]
                    (simp (disch := (first | omega | (simp only [vlen]; first | done | omega))) only [Fits_u, Fits_m, Fits_nil, List.length_append, vah, ↓vAq, vBq, ↓reduceIte, Nat.reduceBEq, Nat.reduceEqDiff, Nat.reduceLT, Nat.reduceLeDiff, Nat.reduceAdd, Nat.reduceMul, Nat.reduceSub, reduceCtorEq, Int.reduceToNat] <;> (repeat' first | rfl | apply And.intro))
                    all_goals first | rfl | trace_state
                  · have hme : m = (g.rules.getD k default).right.length := by omega
                    subst hme
                    rw [List.take_length]
                    repeat' first | ((first | refine Br.dec ?_ ?_ | refine Br.eqi ?_ ?_) <;> intro h <;> try (exfalso; omega)) | (simp (disch := (first | omega | (simp only [vlen]; first | done | omega))) only [vah, hq0, hway, hgw, ↓vAq, vBq, ↓reduceIte, Nat.reduceBEq, Nat.reduceEqDiff, Nat.reduceLT, Nat.reduceLeDiff, Nat.reduceAdd, Nat.reduceMul, Nat.reduceSub, reduceCtorEq, Int.reduceToNat]) | (refine Br.mk ?_ ?_ <;> intro h) | (refine BrN.mk (fun h => ?_) ?_) | (refine AltVC.mk ?_ ?_)
                    refine LoopVC.mk (X := Nat × List Int × Nat × List BE) (fun y => [(19, iv .i64 (y.2.1.length + 1 : Nat)), (20, iv .i64 y.2.2.1), (21, iv .i64 (prT g w ((g.rules.getD k default).right.drop y.1) (stA i way y.1) (way.drop y.1))), (22, .v (.bool true)), (136, iv .i64 y.1)]) (fun y => buL g w y.2.2.2) (fun y => (g.rules.getD k default).right.length - y.1) (fun y => y.1 ≤ (g.rules.getD k default).right.length ∧ BI g w y.2.2.2 ∧ AI g w (g.rules.getD k default).right i way (stp.drop 1) y.1 y.2.1 y.2.2.1) (0, [], 0, Lz) ⟨Nat.zero_le _, hLz, AI.zero⟩ ?_ ?_
                    · unfold buL
                      simp only [List.drop_zero, show stA i way 0 = i from rfl, List.length_nil, Nat.zero_add]
                      (simp (disch := (first | omega | (simp only [vlen]; first | done | omega))) only [Fits_u, Fits_m, Fits_nil, List.length_append, vah, ↓vAq, vBq, ↓reduceIte, Nat.reduceBEq, Nat.reduceEqDiff, Nat.reduceLT, Nat.reduceLeDiff, Nat.reduceAdd, Nat.reduceMul, Nat.reduceSub, reduceCtorEq, Int.reduceToNat] <;> (repeat' first | rfl | apply And.intro))
                      all_goals first | rfl | trace_state
                    · rintro ⟨m, acc, own, Lu⟩ ⟨hmr2, hLu, hAI⟩
                      simp only at hmr2 hLu hAI ⊢
                      unfold buL
                      have hal : acc.length + 1 ≤ stp.length := by
                        obtain ⟨rest, e⟩ := hAI.pre
                        have := congrArg List.length e
                        rw [List.length_drop, List.length_append] at this
                        omega
                      have hle := hAI.le
                      by_cases hml : m < (g.rules.getD k default).right.length
                      · obtain ⟨T, P, Q, eT, eP, eQ, eP2, eQ2, hT0, hTB, hP0, hPT, hPB, hQ0, hTQ, hQB⟩ := hfac m hml
                        have hsg := hsget m hml
                        have hxm := hright _ (getD_mem (l := (g.rules.getD k default).right) (i := m) (d := 0) hml)
                        have hgm := hmono.get (k := m) (by omega)
                        rw [eQ2] at hle ⊢
                        have hdv : ((T * Q : Nat) : Int) / (T : Int) = (Q : Int) := by
                          rw [← Int.natCast_ediv, Nat.mul_div_cancel_left _ (Nat.pos_of_ne_zero hT0)]
                        have hcT : cp T = T := by unfold cp; omega
                        have hbt := bushT_spec g w hc ((g.rules.getD k default).right.getD m 0) (stA i way m) (way.getD m 0) hxm.1 hxm.2 hgm.1 (by omega) Lu hLu
                        rw [eT] at hbt
                        repeat' first | ((first | refine Br.dec ?_ ?_ | refine Br.eqi ?_ ?_) <;> intro h <;> try (exfalso; omega)) | (simp (disch := (first | omega | (simp only [vlen]; first | done | omega))) only [vah, hq0, hway, hgw, hsg, ↓vAq, vBq, ↓reduceIte, Nat.reduceBEq, Nat.reduceEqDiff, Nat.reduceLT, Nat.reduceLeDiff, Nat.reduceAdd, Nat.reduceMul, Nat.reduceSub, reduceCtorEq, Int.reduceToNat]) | (refine Br.mk ?_ ?_ <;> intro h) | (refine BrN.mk (fun h => ?_) ?_) | (refine AltVC.mk ?_ ?_)
                        refine CallVC.lendE [0, 1] [.ptr 0 6 0 0, iv .i64 ((g.rules.getD k default).right.getD m 0), iv .i64 (stA i way m), iv .i64 (way.getD m 0)] (buO g w Lu) hbt (by simp) (by rfl) (by unfold buO; (simp (disch := (first | omega | (simp only [vlen]; first | done | omega))) only [vle0, ↓vAq, vBq, ↓reduceIte, Nat.reduceBEq, Nat.reduceEqDiff, Nat.reduceLT, Nat.reduceLeDiff, Nat.reduceAdd, Nat.reduceMul, Nat.reduceSub, reduceCtorEq, Int.reduceToNat] <;> (repeat' first | rfl | apply And.intro))) ?_
                        rintro _ _ ⟨L3, rfl, rfl, hL3⟩
                        unfold buO
                        rw [hcT]
                        rcases (show (g.rules.getD k default).right.getD m 0 < g.k ∨ ¬ (g.rules.getD k default).right.getD m 0 < g.k from Decidable.em _) with hsy | hsy
                        · have hn := AI.sym hml (by omega) hAI hsy (by rw [eT]; exact hT0) hc.p
                          repeat' first | ((first | refine Br.dec ?_ ?_ | refine Br.eqi ?_ ?_) <;> intro h <;> try (exfalso; omega)) | (simp (disch := (first | omega | (simp only [vlen]; first | done | omega))) only [vah, hq0, hway, hgw, hsg, hdv, ↓vAq, vBq, ↓reduceIte, Nat.reduceBEq, Nat.reduceEqDiff, Nat.reduceLT, Nat.reduceLeDiff, Nat.reduceAdd, Nat.reduceMul, Nat.reduceSub, reduceCtorEq, Int.reduceToNat]) | (refine Br.mk ?_ ?_ <;> intro h) | (refine BrN.mk (fun h => ?_) ?_) | (refine AltVC.mk ?_ ?_)
                          refine loopK.mk (m + 1, acc, own, L3) (by simp (disch := (first | omega | (simp only [vlen]; first | done | omega))) only [↓vAq, vBq, ↓reduceIte, Nat.reduceBEq, Nat.reduceEqDiff, Nat.reduceLT, Nat.reduceLeDiff, Nat.reduceAdd, Nat.reduceMul, Nat.reduceSub, reduceCtorEq, Int.reduceToNat]) ⟨by show m + 1 ≤ (g.rules.getD k default).right.length; omega, hL3, hn⟩ (by show (g.rules.getD k default).right.length - (m + 1) < (g.rules.getD k default).right.length - m; omega) ?_
                          simp only [eQ]
                          (simp (disch := (first | omega | (simp only [vlen]; first | done | omega))) only [Fits_u, Fits_m, Fits_nil, List.length_append, vah, ↓vAq, vBq, ↓reduceIte, Nat.reduceBEq, Nat.reduceEqDiff, Nat.reduceLT, Nat.reduceLeDiff, Nat.reduceAdd, Nat.reduceMul, Nat.reduceSub, reduceCtorEq, Int.reduceToNat] <;> (repeat' first | rfl | apply And.intro))
                          all_goals first | rfl | trace_state
                        · have h1l : 0 < (g.rules.getD k default).right.length - 1 := by
                            by_cases h1 : (g.rules.getD k default).right.length = 1
                            · exfalso
                              refine hsy ((hc.p _ hm).2 _ ?_)
                              match hr : (g.rules.getD k default).right, h1 with
                              | [s], _ =>
                                rw [hr] at hml
                                have : m = 0 := by simpa using hml
                                subst this; rfl
                            · omega
                          have hsub := ih _ (stA i way m) (way.getD m 0) hsy hxm.2 hgm.1 (by omega) (hshort m (by omega) h1l) (by rw [eT]; exact hTB) (stp.drop (acc.length + 1)) (by rw [List.length_drop]; omega) L3 hL3
                          have hdd : (stp.drop 1).drop acc.length = stp.drop (acc.length + 1) := by rw [List.drop_drop]; congr 1; omega
                          repeat' first | ((first | refine Br.dec ?_ ?_ | refine Br.eqi ?_ ?_) <;> intro h <;> try (exfalso; omega)) | (simp (disch := (first | omega | (simp only [vlen]; first | done | omega))) only [vah, hq0, hway, hgw, hsg, hdv, ↓vAq, vBq, ↓reduceIte, Nat.reduceBEq, Nat.reduceEqDiff, Nat.reduceLT, Nat.reduceLeDiff, Nat.reduceAdd, Nat.reduceMul, Nat.reduceSub, reduceCtorEq, Int.reduceToNat]) | (refine Br.mk ?_ ?_ <;> intro h) | (refine BrN.mk (fun h => ?_) ?_) | (refine AltVC.mk ?_ ?_)
                          refine CallVC.lendE [0, 1] [.ptr 0 6 0 0, iv .i64 ((g.rules.getD k default).right.getD m 0 - g.k), iv .i64 (stA i way m), iv .i64 (way.getD m 0), .sl 1 (i64s (stp.drop (acc.length + 1)))] (buO g w L3) hsub (by simp) (by rfl) (by unfold buO; (simp (disch := (first | omega | (simp only [vlen]; first | done | omega))) only [vle0, ↓vAq, vBq, ↓reduceIte, Nat.reduceBEq, Nat.reduceEqDiff, Nat.reduceLT, Nat.reduceLeDiff, Nat.reduceAdd, Nat.reduceMul, Nat.reduceSub, reduceCtorEq, Int.reduceToNat] <;> (repeat' first | rfl | apply And.intro))) ?_
                          rintro _ _ ⟨L4, hres, rfl, hL4⟩
                          unfold buO
                          rcases hres with ⟨st1, K1, r, e1, hT1, rfl⟩ | ⟨hno1, rfl⟩
                          · have hlt := hT1.lt hc.p
                            rw [prT_cons, prT_nil, Nat.mul_one, eT] at hlt
                            have hn := AI.stepG hml (by omega) hAI hT1 (by
                              obtain ⟨rest, e⟩ := hAI.pre
                              have e2 := hdd
                              rw [e, List.drop_left, e1] at e2
                              exact ⟨r, by rw [e, e2, List.append_assoc]⟩) hc.p
                            rw [eQ] at hn
                            have hle2 := hn.le
                            rw [eQ] at hle2
                            have hKQ : (K1 : Int) * (Q : Int) = ((K1 * Q : Nat) : Int) := (Int.natCast_mul K1 Q).symm
                            have hsl1 : st1.length ≤ stp.length := by
                              have := congrArg List.length e1
                              rw [List.length_drop, List.length_append] at this
                              omega
                            repeat' first | ((first | refine Br.dec ?_ ?_ | refine Br.eqi ?_ ?_) <;> intro h <;> try (exfalso; omega)) | (simp (disch := (first | omega | (simp only [vlen]; first | done | omega))) only [vah, hq0, hway, hgw, hsg, hdv, hKQ, ↓vAq, vBq, ↓reduceIte, Nat.reduceBEq, Nat.reduceEqDiff, Nat.reduceLT, Nat.reduceLeDiff, Nat.reduceAdd, Nat.reduceMul, Nat.reduceSub, reduceCtorEq, Int.reduceToNat]) | (refine Br.mk ?_ ?_ <;> intro h) | (refine BrN.mk (fun h => ?_) ?_) | (refine AltVC.mk ?_ ?_)
                            refine loopK.mk (m + 1, acc ++ st1, own + K1 * Q, L4) (by simp (disch := (first | omega | (simp only [vlen]; first | done | omega))) only [↓vAq, vBq, ↓reduceIte, Nat.reduceBEq, Nat.reduceEqDiff, Nat.reduceLT, Nat.reduceLeDiff, Nat.reduceAdd, Nat.reduceMul, Nat.reduceSub, reduceCtorEq, Int.reduceToNat]) ⟨by show m + 1 ≤ (g.rules.getD k default).right.length; omega, hL4, hn⟩ (by show (g.rules.getD k default).right.length - (m + 1) < (g.rules.getD k default).right.length - m; omega) ?_
                            simp only [eQ]
                            (simp (disch := (first | omega | (simp only [vlen]; first | done | omega))) only [Fits_u, Fits_m, Fits_nil, List.length_append, vah, ↓vAq, vBq, ↓reduceIte, Nat.reduceBEq, Nat.reduceEqDiff, Nat.reduceLT, Nat.reduceLeDiff, Nat.reduceAdd, Nat.reduceMul, Nat.reduceSub, reduceCtorEq, Int.reduceToNat] <;> (repeat' first | rfl | apply And.intro))
                            all_goals first | rfl | exact ivEq (by omega) | trace_state
                          · have hnone := AI.none hml (by omega) hAI (by rw [hdd]; exact hno1)
                            repeat' first | ((first | refine Br.dec ?_ ?_ | refine Br.eqi ?_ ?_) <;> intro h <;> try (exfalso; omega)) | (simp (disch := (first | omega | (simp only [vlen]; first | done | omega))) only [vah, hq0, hway, hgw, hsg, hdv, ↓vAq, vBq, ↓reduceIte, Nat.reduceBEq, Nat.reduceEqDiff, Nat.reduceLT, Nat.reduceLeDiff, Nat.reduceAdd, Nat.reduceMul, Nat.reduceSub, reduceCtorEq, Int.reduceToNat]) | (refine Br.mk ?_ ?_ <;> intro h) | (refine BrN.mk (fun h => ?_) ?_) | (refine AltVC.mk ?_ ?_)
                            refine loopK.mk (t + 1, L4) (by simp (disch := (first | omega | (simp only [vlen]; first | done | omega))) only [↓vAq, vBq, ↓reduceIte, Nat.reduceBEq, Nat.reduceEqDiff, Nat.reduceLT, Nat.reduceLeDiff, Nat.reduceAdd, Nat.reduceMul, Nat.reduceSub, reduceCtorEq, Int.reduceToNat]) ⟨by show t + 1 ≤ W.length; omega, hL4, fun t' ht' => ?_⟩ (by show W.length - (t + 1) < W.length - t; omega) ?_
                            · have ht2 : t' < t + 1 := ht'
                              by_cases e : t' = t
                              · rw [e, hway]; exact hnone
                              · exact htn t' (by omega)
                            · simp only [hst2]
                              (simp (disch := (first | omega | (simp only [vlen]; first | done | omega))) only [Fits_u, Fits_m, Fits_nil, List.length_append, vah, ↓vAq, vBq, ↓reduceIte, Nat.reduceBEq, Nat.reduceEqDiff, Nat.reduceLT, Nat.reduceLeDiff, Nat.reduceAdd, Nat.reduceMul, Nat.reduceSub, reduceCtorEq, Int.reduceToNat] <;> (repeat' first | rfl | apply And.intro))
                              all_goals first | rfl | exact ivEq (by omega) | trace_state
                      · have hme : m = (g.rules.getD k default).right.length := by omega
                        have hfin := hAI.all hme (by omega)
                        have hTk := hdone acc own htl hfin
                        obtain ⟨rest, hrest⟩ := hAI.pre
                        have hstp : stp = ((k : Int) :: acc) ++ rest := by
                          rw [List.cons_append, ← hrest, ← hq0]
                          exact (dropC (d := 0) hsl)
                        repeat' first | ((first | refine Br.dec ?_ ?_ | refine Br.eqi ?_ ?_) <;> intro h <;> try (exfalso; omega)) | (simp (disch := (first | omega | (simp only [vlen]; first | done | omega))) only [vah, hq0, hway, hgw, ↓vAq, vBq, ↓reduceIte, Nat.reduceBEq, Nat.reduceEqDiff, Nat.reduceLT, Nat.reduceLeDiff, Nat.reduceAdd, Nat.reduceMul, Nat.reduceSub, reduceCtorEq, Int.reduceToNat]) | (refine Br.mk ?_ ?_ <;> intro h) | (refine BrN.mk (fun h => ?_) ?_) | (refine AltVC.mk ?_ ?_)
                        exact ah_fin (L := Lu) (by simp (disch := (first | omega | (simp only [vlen]; first | done | omega))) only [vah, ↓vAq, vBq, ↓reduceIte, Nat.reduceBEq, Nat.reduceEqDiff, Nat.reduceLT, Nat.reduceLeDiff, Nat.reduceAdd, Nat.reduceMul, Nat.reduceSub, reduceCtorEq, Int.reduceToNat]) (by unfold buO; simp (disch := (first | omega | (simp only [vlen]; first | done | omega))) only [vah, ↓vAq, vBq, ↓reduceIte, Nat.reduceBEq, Nat.reduceEqDiff, Nat.reduceLT, Nat.reduceLeDiff, Nat.reduceAdd, Nat.reduceMul, Nat.reduceSub, reduceCtorEq, Int.reduceToNat]) (.inl ⟨_, _, rest, hstp, hTk, by (simp (disch := (first | omega | (simp only [vlen]; first | done | omega))) only [vah, ↓vAq, vBq, ↓reduceIte, Nat.reduceBEq, Nat.reduceEqDiff, Nat.reduceLT, Nat.reduceLeDiff, Nat.reduceAdd, Nat.reduceMul, Nat.reduceSub, reduceCtorEq, Int.reduceToNat]); exact congrArg (fun v => D.tu [v, _]) (ivEq (by omega))⟩) hLu
              · repeat' first | ((first | refine Br.dec ?_ ?_ | refine Br.eqi ?_ ?_) <;> intro h <;> try (exfalso; omega)) | (simp (disch := (first | omega | (simp only [vlen]; first | done | omega))) only [vah, hq0, ↓vAq, vBq, ↓reduceIte, Nat.reduceBEq, Nat.reduceEqDiff, Nat.reduceLT, Nat.reduceLeDiff, Nat.reduceAdd, Nat.reduceMul, Nat.reduceSub, reduceCtorEq, Int.reduceToNat]) | (refine Br.mk ?_ ?_ <;> intro h) | (refine BrN.mk (fun h => ?_) ?_) | (refine AltVC.mk ?_ ?_)
                refine hno Ly hLy _ (by simp (disch := (first | omega | (simp only [vlen]; first | done | omega))) only [vah, ↓vAq, vBq, ↓reduceIte, Nat.reduceBEq, Nat.reduceEqDiff, Nat.reduceLT, Nat.reduceLeDiff, Nat.reduceAdd, Nat.reduceMul, Nat.reduceSub, reduceCtorEq, Int.reduceToNat]) (by unfold buO; simp (disch := (first | omega | (simp only [vlen]; first | done | omega))) only [vah, ↓vAq, vBq, ↓reduceIte, Nat.reduceBEq, Nat.reduceEqDiff, Nat.reduceLT, Nat.reduceLeDiff, Nat.reduceAdd, Nat.reduceMul, Nat.reduceSub, reduceCtorEq, Int.reduceToNat]) (hways fun t' h => htn t' (by omega))
          · repeat' first | ((first | refine Br.dec ?_ ?_ | refine Br.eqi ?_ ?_) <;> intro h <;> try (exfalso; omega)) | (simp (disch := (first | omega | (simp only [vlen]; first | done | omega))) only [vah, hq0, ↓vAq, vBq, ↓reduceIte, Nat.reduceBEq, Nat.reduceEqDiff, Nat.reduceLT, Nat.reduceLeDiff, Nat.reduceAdd, Nat.reduceMul, Nat.reduceSub, reduceCtorEq, Int.reduceToNat]) | (refine Br.mk ?_ ?_ <;> intro h) | (refine BrN.mk (fun h => ?_) ?_) | (refine AltVC.mk ?_ ?_)
            refine LoopVC.mk (X := Unit) (fun _ => [(12, iv .i64 (rlB g w x i j k)), (112, iv .i64 0)]) (fun _ => buL g w L2) (fun _ => 0) (fun _ => True) () trivial ?_ ?_
            · unfold buL
              (simp (disch := (first | omega | (simp only [vlen]; first | done | omega))) only [Fits_u, Fits_m, Fits_nil, List.length_append, vah, ↓vAq, vBq, ↓reduceIte, Nat.reduceBEq, Nat.reduceEqDiff, Nat.reduceLT, Nat.reduceLeDiff, Nat.reduceAdd, Nat.reduceMul, Nat.reduceSub, reduceCtorEq, Int.reduceToNat] <;> (repeat' first | rfl | apply And.intro))
              all_goals first | rfl | trace_state
            · rintro _ _
              unfold buL
              repeat' first | ((first | refine Br.dec ?_ ?_ | refine Br.eqi ?_ ?_) <;> intro h <;> try (exfalso; omega)) | (simp (disch := (first | omega | (simp only [vlen]; first | done | omega))) only [vah, hq0, ↓vAq, vBq, ↓reduceIte, Nat.reduceBEq, Nat.reduceEqDiff, Nat.reduceLT, Nat.reduceLeDiff, Nat.reduceAdd, Nat.reduceMul, Nat.reduceSub, reduceCtorEq, Int.reduceToNat]) | (refine Br.mk ?_ ?_ <;> intro h) | (refine BrN.mk (fun h => ?_) ?_) | (refine AltVC.mk ?_ ?_)
              exact hno L2 hL2 _ (by simp (disch := (first | omega | (simp only [vlen]; first | done | omega))) only [vah, ↓vAq, vBq, ↓reduceIte, Nat.reduceBEq, Nat.reduceEqDiff, Nat.reduceLT, Nat.reduceLeDiff, Nat.reduceAdd, Nat.reduceMul, Nat.reduceSub, reduceCtorEq, Int.reduceToNat]) (by unfold buO; simp (disch := (first | omega | (simp only [vlen]; first | done | omega))) only [vah, ↓vAq, vBq, ↓reduceIte, Nat.reduceBEq, Nat.reduceEqDiff, Nat.reduceLT, Nat.reduceLeDiff, Nat.reduceAdd, Nat.reduceMul, Nat.reduceSub, reduceCtorEq, Int.reduceToNat]) (hways fun t' h => by rw [hemp] at h; exact absurd h (Nat.not_lt_zero _))
    · unfold buO at hno ⊢
      repeat' first | ((first | refine Br.dec ?_ ?_ | refine Br.eqi ?_ ?_) <;> intro h <;> try (exfalso; omega)) | (simp (disch := (first | omega | (simp only [vlen]; first | done | omega))) only [vah, hq0, ↓vAq, vBq, ↓reduceIte, Nat.reduceBEq, Nat.reduceEqDiff, Nat.reduceLT, Nat.reduceLeDiff, Nat.reduceAdd, Nat.reduceMul, Nat.reduceSub, reduceCtorEq, Int.reduceToNat]) | (refine Br.mk ?_ ?_ <;> intro h) | (refine BrN.mk (fun h => ?_) ?_) | (refine AltVC.mk ?_ ?_)
      exact hno L hL _ (by simp (disch := (first | omega | (simp only [vlen]; first | done | omega))) only [vah, ↓vAq, vBq, ↓reduceIte, Nat.reduceBEq, Nat.reduceEqDiff, Nat.reduceLT, Nat.reduceLeDiff, Nat.reduceAdd, Nat.reduceMul, Nat.reduceSub, reduceCtorEq, Int.reduceToNat]) (by simp (disch := (first | omega | (simp only [vlen]; first | done | omega))) only [vah, ↓vAq, vBq, ↓reduceIte, Nat.reduceBEq, Nat.reduceEqDiff, Nat.reduceLT, Nat.reduceLeDiff, Nat.reduceAdd, Nat.reduceMul, Nat.reduceSub, reduceCtorEq, Int.reduceToNat]) (ahNo_rule hx fun q' _ hq' hRA => hlx (by have := hRA.2.2; rw [Int.toNat_natCast] at this; rw [show q = q' by omega]; exact this))
  · unfold buO at hno ⊢
    repeat' first | ((first | refine Br.dec ?_ ?_ | refine Br.eqi ?_ ?_) <;> intro h <;> try (exfalso; omega)) | (simp (disch := (first | omega | (simp only [vlen]; first | done | omega))) only [vah, ↓vAq, vBq, ↓reduceIte, Nat.reduceBEq, Nat.reduceEqDiff, Nat.reduceLT, Nat.reduceLeDiff, Nat.reduceAdd, Nat.reduceMul, Nat.reduceSub, reduceCtorEq, Int.reduceToNat]) | (refine Br.mk ?_ ?_ <;> intro h) | (refine BrN.mk (fun h => ?_) ?_) | (refine AltVC.mk ?_ ?_)
    all_goals exact hno L hL _ (by simp (disch := (first | omega | (simp only [vlen]; first | done | omega))) only [vah, ↓vAq, vBq, ↓reduceIte, Nat.reduceBEq, Nat.reduceEqDiff, Nat.reduceLT, Nat.reduceLeDiff, Nat.reduceAdd, Nat.reduceMul, Nat.reduceSub, reduceCtorEq, Int.reduceToNat]) (by simp (disch := (first | omega | (simp only [vlen]; first | done | omega))) only [vah, ↓vAq, vBq, ↓reduceIte, Nat.reduceBEq, Nat.reduceEqDiff, Nat.reduceLT, Nat.reduceLeDiff, Nat.reduceAdd, Nat.reduceMul, Nat.reduceSub, reduceCtorEq, Int.reduceToNat]) (ahNo_rule hx fun q' _ hq' hRA => hr0 (by have := hRA.1; have := hRA.2.1; omega))
theorem ahead_all (g : Grammar) (w : List Int) (hc : CC g w) : ∀ n x i j, ¬ x < g.k → x < g.k + g.n → i ≤ j → j ≤ w.length → j - i < n → trees g w x i j ≤ 1099511627776 → ahP g w x i j := by
  intro n
  induction n with
  | zero => intro x i j _ _ _ _ h; exact absurd h (Nat.not_lt_zero _)
  | succ n ih =>
    intro x i j h0 h1 hij hj h2 hT stp hs L hL
    exact ahead_step g w hc x h0 h1 i j hij hj hT (fun x' i' j' a b c d e f => ih x' i' j' a b c d (by omega) f) stp hs L hL
theorem ahead_spec (g : Grammar) (w : List Int) (hc : CC g w) (x : Int) (i j : Nat) (h0 : ¬ x < g.k) (h1 : x < g.k + g.n) (hij : i ≤ j) (hj : j ≤ w.length) (hT : trees g w x i j ≤ 1099511627776) : ahP g w x i j := ahead_all g w hc (j - i + 1) x i j h0 h1 hij hj (Nat.lt_succ_self _) hT
end Go.Proofs.Ytjekkbpdgnohcaa
