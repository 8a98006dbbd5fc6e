/-
 Texts of this claim, one behind another.
-/
import Derived.Test.YtjekkbpdgnohcaaMg18
import Derived.Test.YtjekkbpdgnohcaaMg15
import Derived.Test.YtjekkbpdgnohcaaMg13
namespace Go.Proofs.Ytjekkbpdgnohcaa
open Go.Dm
set_option linter.unusedSimpArgs false
set_option linter.unnecessarySimpa false
set_option linter.unusedVariables false
set_option linter.defProp false
theorem wyD_ne {l : List Int} {i : Nat} {es : List Nat} (h : l ≠ []) : wyD l i es = [.sl 3 (tbl stD (wyS l i es))] := by unfold wyD; rw [if_neg h]
theorem wyS_len2 : ∀ {l : List Int} {i : Nat} {es : List Nat}, es.length = l.length → (wyS l i es).length = l.length
  | [], _, _, _ => by simp [wyS]
  | _ :: _, _, [], h => by simp at h
  | _ :: l, _, e :: es, h => by simp only [wyS, List.length_cons]; rw [wyS_len2 (by simpa using h)]
theorem wyS_get : ∀ {l : List Int} {i k : Nat} {es : List Nat}, es.length = l.length → k < l.length → (wyS l i es).getD k default = (stA i es k, es.getD k 0, l.getD k 0)
  | [], _, _, _, _, h => absurd h (Nat.not_lt_zero _)
  | _ :: _, _, _, [], h, _ => by simp at h
  | x :: l, i, 0, e :: es, h, _ => by simp [wyS, stA]
  | x :: l, i, k + 1, e :: es, h, hk => by
    rw [wyS, List.getD_cons_succ, wyS_get (by simpa using h) (by simpa using hk), stA_cons]; rfl
theorem prT_split {g : Grammar} {w : List Int} : ∀ {l : List Int} {es : List Nat} {i m : Nat}, es.length = l.length → prT g w l i es = prT g w (l.take m) i es * prT g w (l.drop m) (stA i es m) (es.drop m)
  | l, es, i, 0, h => by simp [stA, prT]
  | [], [], i, m + 1, h => by simp [prT]
  | [], _ :: _, i, m + 1, h => by simp at h
  | x :: l, [], i, m + 1, h => by simp at h
  | x :: l, e :: es, i, m + 1, h => by
    rw [List.take_succ_cons, List.drop_succ_cons, List.drop_succ_cons, prT_cons, prT_cons, stA_cons, prT_split (l := l) (es := es) (m := m) (by simpa using h), Nat.mul_assoc]
theorem prT_fac {g : Grammar} {w : List Int} {l : List Int} {es : List Nat} {i m B : Nat} (hl : es.length = l.length) (hm : m < l.length) (h0 : prT g w l i es ≠ 0) (hB : prT g w l i es ≤ B) :
    ∃ T P Q, trees g w (l.getD m 0) (stA i es m) (es.getD m 0) = T ∧ prT g w (l.take m) i es = P ∧ prT g w (l.drop (m + 1)) (stA i es (m + 1)) (es.drop (m + 1)) = Q ∧ prT g w (l.take (m + 1)) i es = P * T ∧ prT g w (l.drop m) (stA i es m) (es.drop m) = T * Q ∧ T ≠ 0 ∧ T ≤ B ∧ P ≠ 0 ∧ P * T ≤ B ∧ P ≤ B ∧ Q ≠ 0 ∧ T * Q ≤ B ∧ Q ≤ B := by
  refine ⟨_, _, _, rfl, rfl, rfl, prT_take hm (by omega), ?_, ?_⟩
  · rw [dropC (d := 0) hm, dropC (d := 0) (show m < es.length by omega), prT_cons, ← stA_succ (i := i)]
  have e1 := prT_split (g := g) (w := w) (i := i) (m := m) hl
  have e2 : prT g w (l.drop m) (stA i es m) (es.drop m) = trees g w (l.getD m 0) (stA i es m) (es.getD m 0) * prT g w (l.drop (m + 1)) (stA i es (m + 1)) (es.drop (m + 1)) := by
    rw [dropC (d := 0) hm, dropC (d := 0) (show m < es.length by omega), prT_cons, ← stA_succ (i := i)]
  rw [e1, e2] at h0 hB
  generalize trees g w (l.getD m 0) (stA i es m) (es.getD m 0) = T at *
  generalize prT g w (l.take m) i es = P at *
  generalize prT g w (l.drop (m + 1)) (stA i es (m + 1)) (es.drop (m + 1)) = Q at *
  have hP : P ≠ 0 := fun e => h0 (by rw [e, Nat.zero_mul])
  have hT : T ≠ 0 := fun e => h0 (by rw [e, Nat.zero_mul, Nat.mul_zero])
  have hQ : Q ≠ 0 := fun e => h0 (by rw [e, Nat.mul_zero, Nat.mul_zero])
  have a1 : T * Q ≤ P * (T * Q) := Nat.le_mul_of_pos_left _ (Nat.pos_of_ne_zero hP)
  have a2 : T ≤ T * Q := Nat.le_mul_of_pos_right _ (Nat.pos_of_ne_zero hQ)
  have a3 : Q ≤ T * Q := Nat.le_mul_of_pos_left _ (Nat.pos_of_ne_zero hT)
  have a4 : P * T ≤ P * T * Q := Nat.le_mul_of_pos_right _ (Nat.pos_of_ne_zero hQ)
  have a5 : P ≤ P * T := Nat.le_mul_of_pos_right _ (Nat.pos_of_ne_zero hT)
  rw [Nat.mul_assoc] at a4
  exact ⟨hT, by omega, hP, by omega, by omega, hQ, by omega, by omega⟩
def ahV (g : Grammar) (w : List Int) (x : Int) (i j : Nat) (stp : List Int) (d : D) : Prop :=
  (∃ st K r, stp = st ++ r ∧ Tk g w [x] i [j] st K ∧ d = .tu [iv .i64 K, iv .i64 st.length]) ∨ (ahNo g w x i j stp ∧ d = .tu [iv .i64 (-1), iv .i64 0])
def ahR (g : Grammar) (w : List Int) (x : Int) (i j : Nat) (stp : List Int) (d : D) (o : List (Option Ob)) : Prop := ∃ L, ahV g w x i j stp d ∧ o = (buO g w L).map some ∧ BI g w L
def ahP (g : Grammar) (w : List Int) (x : Int) (i j : Nat) : Prop := ∀ stp : List Int, stp.length ≤ 1000000 → ∀ L, BI g w L → Dm.SpecH Try.prog 29 [.ptr 0 6 0 0, iv .i64 (x - g.k), iv .i64 i, iv .i64 j, .sl 1 (i64s stp)] (buO g w L) (ahR g w x i j stp)
theorem ah_fin {g : Grammar} {w : List Int} {x : Int} {i j : Nat} {stp : List Int} {s : S} {d : D} {L : List BE} (h1 : 2 ≤ s.N) (h2 : fitL s 2 0 ((buO g w L).map some)) (hv : ahV g w x i j stp (d.trim 2)) (hL : BI g w L) : FinH 2 (ahR g w x i j stp) s d :=
  finH_mk ((buO g w L).map some) (by simp [buO]) (by simpa [buO] using h1) (by simpa [buO] using h2) ⟨L, hv, rfl, hL⟩
theorem ivEq {a b : Int} (h : a = b) : D.v (.int .i64 a) = iv .i64 b := by subst h; rfl
def vah := And.intro vsp <| And.intro @wyS_len @wyS_len
set_option maxRecDepth 10000 in
set_option maxHeartbeats 4000000 in
theorem ahead_step (g : Grammar) (w : List Int) (hc : CC g w) (x : Int) (hx : ¬ x < g.k) (hx2 : x < g.k + g.n) (i j : Nat) (hij : i ≤ j) (hj : j ≤ w.length) (hT : trees g w x i j ≤ 1099511627776) (ih : ∀ x' i' j', ¬ x' < g.k → x' < g.k + g.n → i' ≤ j' → j' ≤ w.length → j' - i' < j - i → trees g w x' i' j' ≤ 1099511627776 → ahP g w x' i' j') (stp : List Int) (hstp : stp.length ≤ 1000000) (L : List BE) (hL : BI g w L) : Dm.SpecH Try.prog 29 [.ptr 0 6 0 0, iv .i64 (x - g.k), iv .i64 i, iv .i64 j, .sl 1 (i64s stp)] (buO g w L) (ahR g w x i j stp) := by
  refine specH_of_vc mixed Try.func29 c29 (by rw [show Try.f29.ntmps = _ from Try.ntmps29]; simp) ?_
  unfold m29 r29
  have hk := hc.v.k
  have hn := hc.v.n
  have hw := hc.w
  have hlen := hc.v.len
  have hno : ∀ L : List BE, BI g w L → ∀ s : S, 2 ≤ s.N → fitL s 2 0 ((buO g w L).map some) → ahNo g w x i j stp → FinH 2 (ahR g w x i j stp) s (.tu [iv .i64 (-1), iv .i64 0]) := fun L hL s h1 h2 h3 => ah_fin h1 h2 (.inr ⟨h3, by simp (disch := first | omega | (simp only [vlen]; first | done | omega)) only [vah, ↓vAq, vBq, ↓reduceIte, Nat.reduceBEq, Nat.reduceEqDiff, Nat.reduceLT, Nat.reduceLeDiff, Nat.reduceAdd, Nat.reduceMul, Nat.reduceSub, reduceCtorEq, Int.reduceToNat]⟩) hL
  by_cases hs0 : stp = []
  · subst hs0
    unfold buO at hno ⊢
    repeat' first | ((first | refine Br.dec ?_ ?_ | refine Br.eqi ?_ ?_) <;> intro h <;> try (exfalso; omega)) | (simp (disch := first | omega | (simp only [vlen]; first | done | omega)) only [vah, ↓vAq, vBq, ↓reduceIte, Nat.reduceBEq, Nat.reduceEqDiff, Nat.reduceLT, Nat.reduceLeDiff, Nat.reduceAdd, Nat.reduceMul, Nat.reduceSub, reduceCtorEq, Int.reduceToNat]) | (refine Br.mk ?_ ?_ <;> intro h) | (refine BrN.mk (fun h => ?_) ?_) | (refine AltVC.mk ?_ ?_)
    exact hno L hL _ (by simp (disch := first | omega | (simp only [vlen]; first | done | omega)) only [vah, ↓vAq, vBq, ↓reduceIte, Nat.reduceBEq, Nat.reduceEqDiff, Nat.reduceLT, Nat.reduceLeDiff, Nat.reduceAdd, Nat.reduceMul, Nat.reduceSub, reduceCtorEq, Int.reduceToNat]) (by simp (disch := first | omega | (simp only [vlen]; first | done | omega)) only [vah, ↓vAq, vBq, ↓reduceIte, Nat.reduceBEq, Nat.reduceEqDiff, Nat.reduceLT, Nat.reduceLeDiff, Nat.reduceAdd, Nat.reduceMul, Nat.reduceSub, reduceCtorEq, Int.reduceToNat]) (ahNo_nil hx)
  have hsl : 0 < stp.length := List.length_pos_iff.2 hs0
  by_cases hr0 : 0 ≤ stp.getD 0 0 ∧ stp.getD 0 0 < g.rules.length
  · obtain ⟨q, hq0⟩ : ∃ q : Nat, stp.getD 0 0 = q := ⟨(stp.getD 0 0).toNat, by omega⟩
    have hql : q < g.rules.length := by omega
    by_cases hlx : (g.rules.getD q default).left = x - g.k
    · have hRA : RuleAt g x q := ⟨by omega, by omega, by rw [Int.toNat_natCast]; exact hlx⟩
      have hm : g.rules.getD q default ∈ g.rules := getD_mem' hql
      have hlong := hc.v.long _ hm
      have hright := hc.v.right _ hm
      have hne := right_ne hc.p hql
      have hrl : 0 < (g.rules.getD q default).right.length := List.length_pos_iff.2 hne
      have hrow := rlB_row hc.p (w := w) (i := i) (j := j) hx hRA
      have hws := ways_sum (w := w) hc.p (i := i) (j := j) hne
      have hdone := fun t acc own => @ah_done g w hc.p x i j q t acc own hx hRA
      have hways := @ahNo_ways g w hc.p x i j q stp hx hq0 hRA
      unfold buO
      repeat' first | ((first | refine Br.dec ?_ ?_ | refine Br.eqi ?_ ?_) <;> intro h <;> try (exfalso; omega)) | (simp (disch := first | omega | (simp only [vlen]; first | done | omega)) only [vah, hq0, ↓vAq, vBq, ↓reduceIte, Nat.reduceBEq, Nat.reduceEqDiff, Nat.reduceLT, Nat.reduceLeDiff, Nat.reduceAdd, Nat.reduceMul, Nat.reduceSub, reduceCtorEq, Int.reduceToNat]) | (refine Br.mk ?_ ?_ <;> intro h) | (refine BrN.mk (fun h => ?_) ?_) | (refine AltVC.mk ?_ ?_)
      refine LoopVC.mk (X := Nat × List BE) (fun y => [(12, iv .i64 (rlB g w x i j y.1)), (13, iv .i64 y.1)]) (fun y => buL g w y.2) (fun y => q - y.1) (fun y => y.1 ≤ q ∧ BI g w y.2) (0, L) ⟨Nat.zero_le _, hL⟩ ?_ ?_
      · unfold buL
        (simp (disch := first | omega | (simp only [vlen]; first | done | omega)) only [Fits_u, Fits_m, Fits_nil, List.length_append, vah, ↓vAq, vBq, ↓reduceIte, Nat.reduceBEq, Nat.reduceEqDiff, Nat.reduceLT, Nat.reduceLeDiff, Nat.reduceAdd, Nat.reduceMul, Nat.reduceSub, reduceCtorEq, Int.reduceToNat] <;> (repeat' first | rfl | apply And.intro))
        all_goals first | rfl | trace_state
      · rintro ⟨k, Lx⟩ ⟨hkq, hLx⟩
        simp only at hkq hLx ⊢
        unfold buL
        have hk1 := @rlB_succ g w x i j k
        have hk2 : rlB g w x i j (k + 1) ≤ trees g w x i j := by rw [trees_name hc.p hx]; exact nsum_mono (f := ruleV g w x i j) (by omega)
        by_cases hkl : k < q
        · have hkr := hc.v.long _ (getD_mem' (l := g.rules) (i := k) (by omega))
          have hkr2 := hc.v.right _ (getD_mem' (l := g.rules) (i := k) (by omega))
          by_cases hlk : (g.rules.getD k default).left = x - g.k
          · have hru : ruleV g w x i j k = rowN g w (g.rules.getD k default).right i j := by unfold ruleV; rw [if_pos hlk]
            have hcp : cp (rowN g w (g.rules.getD k default).right i j) = rowN g w (g.rules.getD k default).right i j := by unfold cp; omega
            repeat' first | ((first | refine Br.dec ?_ ?_ | refine Br.eqi ?_ ?_) <;> intro h <;> try (exfalso; omega)) | (simp (disch := first | omega | (simp only [vlen]; first | done | omega)) only [vah, hq0, ↓vAq, vBq, ↓reduceIte, Nat.reduceBEq, Nat.reduceEqDiff, Nat.reduceLT, Nat.reduceLeDiff, Nat.reduceAdd, Nat.reduceMul, Nat.reduceSub, reduceCtorEq, Int.reduceToNat]) | (refine Br.mk ?_ ?_ <;> intro h) | (refine BrN.mk (fun h => ?_) ?_) | (refine AltVC.mk ?_ ?_)
            refine CallVC.lendE [0, 1] [.ptr 0 6 0 0, .sl 1 (i64s (g.rules.getD k default).right), iv .i64 i, iv .i64 j] (buO g w Lx) (bushR_spec g w hc _ i j (by omega) (fun m hm => hkr2 _ (getD_mem (d := 0) hm)) hij hj Lx hLx) (by simp) (by rfl) (by unfold buO; (simp (disch := first | omega | (simp only [vlen]; first | done | omega)) only [vle0, ↓vAq, vBq, ↓reduceIte, Nat.reduceBEq, Nat.reduceEqDiff, Nat.reduceLT, Nat.reduceLeDiff, Nat.reduceAdd, Nat.reduceMul, Nat.reduceSub, reduceCtorEq, Int.reduceToNat] <;> (repeat' first | rfl | apply And.intro))) ?_
            rintro _ _ ⟨L2, rfl, rfl, hL2⟩
            unfold buO
            rw [hcp, ← hru]
            repeat' first | ((first | refine Br.dec ?_ ?_ | refine Br.eqi ?_ ?_) <;> intro h <;> try (exfalso; omega)) | (simp (disch := first | omega | (simp only [vlen]; first | done | omega)) only [vah, hq0, ↓vAq, vBq, ↓reduceIte, Nat.reduceBEq, Nat.reduceEqDiff, Nat.reduceLT, Nat.reduceLeDiff, Nat.reduceAdd, Nat.reduceMul, Nat.reduceSub, reduceCtorEq, Int.reduceToNat]) | (refine Br.mk ?_ ?_ <;> intro h) | (refine BrN.mk (fun h => ?_) ?_) | (refine AltVC.mk ?_ ?_)
            refine loopK.mk (k + 1, L2) (by simp (disch := first | omega | (simp only [vlen]; first | done | omega)) only [↓vAq, vBq, ↓reduceIte, Nat.reduceBEq, Nat.reduceEqDiff, Nat.reduceLT, Nat.reduceLeDiff, Nat.reduceAdd, Nat.reduceMul, Nat.reduceSub, reduceCtorEq, Int.reduceToNat]) ⟨by show k + 1 ≤ q; omega, hL2⟩ (by show q - (k + 1) < q - k; omega) ?_
            rw [hk1]
            (simp (disch := first | omega | (simp only [vlen]; first | done | omega)) only [Fits_u, Fits_m, Fits_nil, List.length_append, vah, ↓vAq, vBq, ↓reduceIte, Nat.reduceBEq, Nat.reduceEqDiff, Nat.reduceLT, Nat.reduceLeDiff, Nat.reduceAdd, Nat.reduceMul, Nat.reduceSub, reduceCtorEq, Int.reduceToNat] <;> (repeat' first | rfl | apply And.intro))
            all_goals first | rfl | trace_state
          · have hru : ruleV g w x i j k = 0 := by unfold ruleV; rw [if_neg hlk]
            repeat' first | ((first | refine Br.dec ?_ ?_ | refine Br.eqi ?_ ?_) <;> intro h <;> try (exfalso; omega)) | (simp (disch := first | omega | (simp only [vlen]; first | done | omega)) only [vah, hq0, ↓vAq, vBq, ↓reduceIte, Nat.reduceBEq, Nat.reduceEqDiff, Nat.reduceLT, Nat.reduceLeDiff, Nat.reduceAdd, Nat.reduceMul, Nat.reduceSub, reduceCtorEq, Int.reduceToNat]) | (refine Br.mk ?_ ?_ <;> intro h) | (refine BrN.mk (fun h => ?_) ?_) | (refine AltVC.mk ?_ ?_)
            refine loopK.mk (k + 1, Lx) (by simp (disch := first | omega | (simp only [vlen]; first | done | omega)) only [↓vAq, vBq, ↓reduceIte, Nat.reduceBEq, Nat.reduceEqDiff, Nat.reduceLT, Nat.reduceLeDiff, Nat.reduceAdd, Nat.reduceMul, Nat.reduceSub, reduceCtorEq, Int.reduceToNat]) ⟨by show k + 1 ≤ q; omega, hLx⟩ (by show q - (k + 1) < q - k; omega) ?_
            rw [hk1, hru, Nat.add_zero]
            (simp (disch := first | omega | (simp only [vlen]; first | done | omega)) only [Fits_u, Fits_m, Fits_nil, List.length_append, vah, ↓vAq, vBq, ↓reduceIte, Nat.reduceBEq, Nat.reduceEqDiff, Nat.reduceLT, Nat.reduceLeDiff, Nat.reduceAdd, Nat.reduceMul, Nat.reduceSub, reduceCtorEq, Int.reduceToNat] <;> (repeat' first | rfl | apply And.intro))
            all_goals first | rfl | trace_state
        · have hkq2 : k = q := by omega
          subst hkq2
          repeat' first | ((first | refine Br.dec ?_ ?_ | refine Br.eqi ?_ ?_) <;> intro h <;> try (exfalso; omega)) | (simp (disch := first | omega | (simp only [vlen]; first | done | omega)) only [vah, hq0, ↓vAq, vBq, ↓reduceIte, Nat.reduceBEq, Nat.reduceEqDiff, Nat.reduceLT, Nat.reduceLeDiff, Nat.reduceAdd, Nat.reduceMul, Nat.reduceSub, reduceCtorEq, Int.reduceToNat]) | (refine Br.mk ?_ ?_ <;> intro h) | (refine BrN.mk (fun h => ?_) ?_) | (refine AltVC.mk ?_ ?_)
          refine CallVC.lendE [0, 1] [.ptr 0 6 0 0, .sl 1 (i64s (g.rules.getD k default).right), iv .i64 i, iv .i64 j] (buO g w Lx) (spl_all g w hc _ (by omega) hright i j hij hj Lx hLx) (by simp) (by rfl) (by unfold buO; (simp (disch := first | omega | (simp only [vlen]; first | done | omega)) only [vle0, ↓vAq, vBq, ↓reduceIte, Nat.reduceBEq, Nat.reduceEqDiff, Nat.reduceLT, Nat.reduceLeDiff, Nat.reduceAdd, Nat.reduceMul, Nat.reduceSub, reduceCtorEq, Int.reduceToNat] <;> (repeat' first | rfl | apply And.intro))) ?_
          rintro _ _ ⟨L2, hres, rfl, hL2⟩
          unfold buO
          rcases hres with rfl | ⟨rfl, hemp⟩
          · generalize hW : splN g w (g.rules.getD k default).right i j = W at hdone hways hws ⊢
            have hWl : W.length ≤ 28561 := by rw [← hW]; exact Nat.le_trans (splN_len (by omega)) (Nat.le_trans (Nat.pow_le_pow_right (by omega) hlong) (by omega))
            repeat' first | ((first | refine Br.dec ?_ ?_ | refine Br.eqi ?_ ?_) <;> intro h <;> try (exfalso; omega)) | (simp (disch := first | omega | (simp only [vlen]; first | done | omega)) only [vah, hq0, ↓vAq, vBq, ↓reduceIte, Nat.reduceBEq, Nat.reduceEqDiff, Nat.reduceLT, Nat.reduceLeDiff, Nat.reduceAdd, Nat.reduceMul, Nat.reduceSub, reduceCtorEq, Int.reduceToNat]) | (refine Br.mk ?_ ?_ <;> intro h) | (refine BrN.mk (fun h => ?_) ?_) | (refine AltVC.mk ?_ ?_)
            refine LoopVC.mk (X := Nat × List BE) (fun y => [(12, iv .i64 (rlB g w x i j k + sumL (prT g w (g.rules.getD k default).right i) (W.take y.1) : Nat)), (112, iv .i64 y.1)]) (fun y => buL g w y.2) (fun y => W.length - y.1) (fun y => y.1 ≤ W.length ∧ BI g w y.2 ∧ ∀ t, t < y.1 → ∀ st K r, stp.drop 1 = st ++ r → ¬ Tk g w (g.rules.getD k default).right i (W.getD t default) st K) (0, L2) ⟨Nat.zero_le _, hL2, fun t h => absurd h (Nat.not_lt_zero _)⟩ ?_ ?_
            · unfold buL
              simp only [List.take_zero, sumL, Nat.add_zero]
              (simp (disch := first | omega | (simp only [vlen]; first | done | omega)) only [Fits_u, Fits_m, Fits_nil, List.length_append, vah, ↓vAq, vBq, ↓reduceIte, Nat.reduceBEq, Nat.reduceEqDiff, Nat.reduceLT, Nat.reduceLeDiff, Nat.reduceAdd, Nat.reduceMul, Nat.reduceSub, reduceCtorEq, Int.reduceToNat] <;> (repeat' first | rfl | apply And.intro))
              all_goals first | rfl | trace_state
            · rintro ⟨t, Ly⟩ ⟨htW, hLy, htn⟩
              simp only at htW hLy htn ⊢
              unfold buL
              by_cases htl : t < W.length
              · have hmem : W.getD t default ∈ W := getD_mem' htl
                have hpos := @way_pos g w hc.p (g.rules.getD k default).right i j hne (W.getD t default) (by rw [hW]; exact hmem)
                have hwlen := splN_wlen (by rw [hW]; exact hmem)
                have hgw := wyD_ne (i := i) (es := W.getD t default) hne
                have hmono := cutN_mono hij hpos.1
                have hshort := cutN_short hpos.1
                have hst := sumL_take (f := prT g w (g.rules.getD k default).right i) (d := default) htl
                have hst2 := sumL_take_succ (f := prT g w (g.rules.getD k default).right i) (d := default) htl
                have hdone := hdone t
                generalize hway : W.getD t default = way at hmem hpos hwlen hgw hmono hshort hst hst2 hdone ⊢
                have hwl := @wyS_len2 (g.rules.getD k default).right i way hwlen
                have hpB : prT g w (g.rules.getD k default).right i way ≤ 1099511627776 := by omega
                have hfac := fun m hm => @prT_fac g w (g.rules.getD k default).right way i m _ hwlen hm hpos.2 hpB
                have hsget := fun m => @wyS_get (g.rules.getD k default).right i m way hwlen
                repeat' first | ((first | refine Br.dec ?_ ?_ | refine Br.eqi ?_ ?_) <;> intro h <;> try (exfalso; omega)) | (simp (disch := first | omega | (simp only [vlen]; first | done | omega)) only [vah, hq0, hway, hgw, ↓vAq, vBq, ↓reduceIte, Nat.reduceBEq, Nat.reduceEqDiff, Nat.reduceLT, Nat.reduceLeDiff, Nat.reduceAdd, Nat.reduceMul, Nat.reduceSub, reduceCtorEq, Int.reduceToNat]) | (refine Br.mk ?_ ?_ <;> intro h) | (refine BrN.mk (fun h => ?_) ?_) | (refine AltVC.mk ?_ ?_)
                refine LoopVC.mk (X := Nat × List BE) (fun y => [(16, iv .i64 (prT g w ((g.rules.getD k default).right.take y.1) i way)), (118, iv .i64 y.1)]) (fun y => buL g w y.2) (fun y => (g.rules.getD k default).right.length - y.1) (fun y => y.1 ≤ (g.rules.getD k default).right.length ∧ BI g w y.2) (0, Ly) ⟨Nat.zero_le _, hLy⟩ ?_ ?_
                · unfold buL
                  simp only [List.take_zero, prT_nil]
                  (simp (disch := first | omega | (simp only [vlen]; first | done | omega)) only [Fits_u, Fits_m, Fits_nil, List.length_append, vah, ↓vAq, vBq, ↓reduceIte, Nat.reduceBEq, Nat.reduceEqDiff, Nat.reduceLT, Nat.reduceLeDiff, Nat.reduceAdd, Nat.reduceMul, Nat.reduceSub, reduceCtorEq, Int.reduceToNat] <;> (repeat' first | rfl | apply And.intro))
                  all_goals first | rfl | trace_state
                · rintro ⟨m, Lz⟩ ⟨hmr, hLz⟩
                  simp only at hmr hLz ⊢
                  unfold buL
                  by_cases hml : m < (g.rules.getD k default).right.length
                  · obtain ⟨T, P, Q, eT, eP, eQ, eP2, eQ2, hT0, hTB, hP0, hPT, hPB, hQ0, hTQ, hQB⟩ := hfac m hml
                    have hsg := hsget m hml
                    have hxm := hright _ (getD_mem (l := (g.rules.getD k default).right) (i := m) (d := 0) hml)
                    have hgm := hmono.get (k := m) (by omega)
                    rw [eP]
                    have hPT2 : (P : Int) * (T : Int) = ((P * T : Nat) : Int) := (Int.natCast_mul P T).symm
                    have hcT : cp T = T := by unfold cp; omega
                    have hbt := bushT_spec g w hc ((g.rules.getD k default).right.getD m 0) (stA i way m) (way.getD m 0) hxm.1 hxm.2 hgm.1 (by omega) Lz hLz
                    rw [eT] at hbt
                    repeat' first | ((first | refine Br.dec ?_ ?_ | refine Br.eqi ?_ ?_) <;> intro h <;> try (exfalso; omega)) | (simp (disch := first | omega | (simp only [vlen]; first | done | omega)) only [vah, hq0, hway, hgw, hsg, ↓vAq, vBq, ↓reduceIte, Nat.reduceBEq, Nat.reduceEqDiff, Nat.reduceLT, Nat.reduceLeDiff, Nat.reduceAdd, Nat.reduceMul, Nat.reduceSub, reduceCtorEq, Int.reduceToNat]) | (refine Br.mk ?_ ?_ <;> intro h) | (refine BrN.mk (fun h => ?_) ?_) | (refine AltVC.mk ?_ ?_)
                    refine CallVC.lendE [0, 1] [.ptr 0 6 0 0, iv .i64 ((g.rules.getD k default).right.getD m 0), iv .i64 (stA i way m), iv .i64 (way.getD m 0)] (buO g w Lz) hbt (by simp) (by rfl) (by unfold buO; (simp (disch := first | omega | (simp only [vlen]; first | done | omega)) only [vle0, ↓vAq, vBq, ↓reduceIte, Nat.reduceBEq, Nat.reduceEqDiff, Nat.reduceLT, Nat.reduceLeDiff, Nat.reduceAdd, Nat.reduceMul, Nat.reduceSub, reduceCtorEq, Int.reduceToNat] <;> (repeat' first | rfl | apply And.intro))) ?_
                    rintro _ _ ⟨L3, rfl, rfl, hL3⟩
                    unfold buO
                    rw [hcT]
                    repeat' first | ((first | refine Br.dec ?_ ?_ | refine Br.eqi ?_ ?_) <;> intro h <;> try (exfalso; omega)) | (simp (disch := first | omega | (simp only [vlen]; first | done | omega)) only [vah, hq0, hway, hgw, hsg, hPT2, ↓vAq, vBq, ↓reduceIte, Nat.reduceBEq, Nat.reduceEqDiff, Nat.reduceLT, Nat.reduceLeDiff, Nat.reduceAdd, Nat.reduceMul, Nat.reduceSub, reduceCtorEq, Int.reduceToNat]) | (refine Br.mk ?_ ?_ <;> intro h) | (refine BrN.mk (fun h => ?_) ?_) | (refine AltVC.mk ?_ ?_)
                    refine loopK.mk (m + 1, L3) (by simp (disch := first | omega | (simp only [vlen]; first | done | omega)) only [↓vAq, vBq, ↓reduceIte, Nat.reduceBEq, Nat.reduceEqDiff, Nat.reduceLT, Nat.reduceLeDiff, Nat.reduceAdd, Nat.reduceMul, Nat.reduceSub, reduceCtorEq, Int.reduceToNat]) ⟨by show m + 1 ≤ (g.rules.getD k default).right.length; omega, hL3⟩ (by show (g.rules.getD k default).right.length - (m + 1) < (g.rules.getD k default).right.length - m; omega) ?_
                    simp only [eP2]
                    (simp (disch := first | omega | (simp only [vlen]; first | done | omega)) only [Fits_u, Fits_m, Fits_nil, List.length_append, vah, ↓vAq, vBq, ↓reduceIte, Nat.reduceBEq, Nat.reduceEqDiff, Nat.reduceLT, Nat.reduceLeDiff, Nat.reduceAdd, Nat.reduceMul, Nat.reduceSub, reduceCtorEq, Int.reduceToNat] <;> (repeat' first | rfl | apply And.intro))
                    all_goals first | rfl | trace_state
                  · have hme : m = (g.rules.getD k default).right.length := by omega
                    subst hme
                    rw [List.take_length]
                    repeat' first | ((first | refine Br.dec ?_ ?_ | refine Br.eqi ?_ ?_) <;> intro h <;> try (exfalso; omega)) | (simp (disch := first | omega | (simp only [vlen]; first | done | omega)) only [vah, hq0, hway, hgw, ↓vAq, vBq, ↓reduceIte, Nat.reduceBEq, Nat.reduceEqDiff, Nat.reduceLT, Nat.reduceLeDiff, Nat.reduceAdd, Nat.reduceMul, Nat.reduceSub, reduceCtorEq, Int.reduceToNat]) | (refine Br.mk ?_ ?_ <;> intro h) | (refine BrN.mk (fun h => ?_) ?_) | (refine AltVC.mk ?_ ?_)
                    refine LoopVC.mk (X := Nat × List Int × Nat × List BE) (fun y => [(19, iv .i64 (y.2.1.length + 1 : Nat)), (20, iv .i64 y.2.2.1), (21, iv .i64 (prT g w ((g.rules.getD k default).right.drop y.1) (stA i way y.1) (way.drop y.1))), (22, .v (.bool true)), (136, iv .i64 y.1)]) (fun y => buL g w y.2.2.2) (fun y => (g.rules.getD k default).right.length - y.1) (fun y => y.1 ≤ (g.rules.getD k default).right.length ∧ BI g w y.2.2.2 ∧ AI g w (g.rules.getD k default).right i way (stp.drop 1) y.1 y.2.1 y.2.2.1) (0, [], 0, Lz) ⟨Nat.zero_le _, hLz, AI.zero⟩ ?_ ?_
                    · unfold buL
                      simp only [List.drop_zero, show stA i way 0 = i from rfl, List.length_nil, Nat.zero_add]
                      (simp (disch := first | omega | (simp only [vlen]; first | done | omega)) only [Fits_u, Fits_m, Fits_nil, List.length_append, vah, ↓vAq, vBq, ↓reduceIte, Nat.reduceBEq, Nat.reduceEqDiff, Nat.reduceLT, Nat.reduceLeDiff, Nat.reduceAdd, Nat.reduceMul, Nat.reduceSub, reduceCtorEq, Int.reduceToNat] <;> (repeat' first | rfl | apply And.intro))
                      all_goals first | rfl | trace_state
                    · rintro ⟨m, acc, own, Lu⟩ ⟨hmr2, hLu, hAI⟩
                      simp only at hmr2 hLu hAI ⊢
                      unfold buL
                      have hal : acc.length + 1 ≤ stp.length := by
                        obtain ⟨rest, e⟩ := hAI.pre
                        have := congrArg List.length e
                        rw [List.length_drop, List.length_append] at this
                        omega
                      have hle := hAI.le
                      by_cases hml : m < (g.rules.getD k default).right.length
                      · obtain ⟨T, P, Q, eT, eP, eQ, eP2, eQ2, hT0, hTB, hP0, hPT, hPB, hQ0, hTQ, hQB⟩ := hfac m hml
                        have hsg := hsget m hml
                        have hxm := hright _ (getD_mem (l := (g.rules.getD k default).right) (i := m) (d := 0) hml)
                        have hgm := hmono.get (k := m) (by omega)
                        rw [eQ2] at hle ⊢
                        have hdv : ((T * Q : Nat) : Int) / (T : Int) = (Q : Int) := by
                          rw [← Int.natCast_ediv, Nat.mul_div_cancel_left _ (Nat.pos_of_ne_zero hT0)]
                        have hcT : cp T = T := by unfold cp; omega
                        have hbt := bushT_spec g w hc ((g.rules.getD k default).right.getD m 0) (stA i way m) (way.getD m 0) hxm.1 hxm.2 hgm.1 (by omega) Lu hLu
                        rw [eT] at hbt
                        repeat' first | ((first | refine Br.dec ?_ ?_ | refine Br.eqi ?_ ?_) <;> intro h <;> try (exfalso; omega)) | (simp (disch := first | omega | (simp only [vlen]; first | done | omega)) only [vah, hq0, hway, hgw, hsg, ↓vAq, vBq, ↓reduceIte, Nat.reduceBEq, Nat.reduceEqDiff, Nat.reduceLT, Nat.reduceLeDiff, Nat.reduceAdd, Nat.reduceMul, Nat.reduceSub, reduceCtorEq, Int.reduceToNat]) | (refine Br.mk ?_ ?_ <;> intro h) | (refine BrN.mk (fun h => ?_) ?_) | (refine AltVC.mk ?_ ?_)
                        refine CallVC.lendE [0, 1] [.ptr 0 6 0 0, iv .i64 ((g.rules.getD k default).right.getD m 0), iv .i64 (stA i way m), iv .i64 (way.getD m 0)] (buO g w Lu) hbt (by simp) (by rfl) (by unfold buO; (simp (disch := first | omega | (simp only [vlen]; first | done | omega)) only [vle0, ↓vAq, vBq, ↓reduceIte, Nat.reduceBEq, Nat.reduceEqDiff, Nat.reduceLT, Nat.reduceLeDiff, Nat.reduceAdd, Nat.reduceMul, Nat.reduceSub, reduceCtorEq, Int.reduceToNat] <;> (repeat' first | rfl | apply And.intro))) ?_
                        rintro _ _ ⟨L3, rfl, rfl, hL3⟩
                        unfold buO
                        rw [hcT]
                        rcases (show (g.rules.getD k default).right.getD m 0 < g.k ∨ ¬ (g.rules.getD k default).right.getD m 0 < g.k from Decidable.em _) with hsy | hsy
                        · have hn := AI.sym hml (by omega) hAI hsy (by rw [eT]; exact hT0) hc.p
                          repeat' first | ((first | refine Br.dec ?_ ?_ | refine Br.eqi ?_ ?_) <;> intro h <;> try (exfalso; omega)) | (simp (disch := first | omega | (simp only [vlen]; first | done | omega)) only [vah, hq0, hway, hgw, hsg, hdv, ↓vAq, vBq, ↓reduceIte, Nat.reduceBEq, Nat.reduceEqDiff, Nat.reduceLT, Nat.reduceLeDiff, Nat.reduceAdd, Nat.reduceMul, Nat.reduceSub, reduceCtorEq, Int.reduceToNat]) | (refine Br.mk ?_ ?_ <;> intro h) | (refine BrN.mk (fun h => ?_) ?_) | (refine AltVC.mk ?_ ?_)
                          refine loopK.mk (m + 1, acc, own, L3) (by simp (disch := first | omega | (simp only [vlen]; first | done | omega)) only [↓vAq, vBq, ↓reduceIte, Nat.reduceBEq, Nat.reduceEqDiff, Nat.reduceLT, Nat.reduceLeDiff, Nat.reduceAdd, Nat.reduceMul, Nat.reduceSub, reduceCtorEq, Int.reduceToNat]) ⟨by show m + 1 ≤ (g.rules.getD k default).right.length; omega, hL3, hn⟩ (by show (g.rules.getD k default).right.length - (m + 1) < (g.rules.getD k default).right.length - m; omega) ?_
                          simp only [eQ]
                          (simp (disch := first | omega | (simp only [vlen]; first | done | omega)) only [Fits_u, Fits_m, Fits_nil, List.length_append, vah, ↓vAq, vBq, ↓reduceIte, Nat.reduceBEq, Nat.reduceEqDiff, Nat.reduceLT, Nat.reduceLeDiff, Nat.reduceAdd, Nat.reduceMul, Nat.reduceSub, reduceCtorEq, Int.reduceToNat] <;> (repeat' first | rfl | apply And.intro))
                          all_goals first | rfl | trace_state
                        · have h1l : 0 < (g.rules.getD k default).right.length - 1 := by
                            by_cases h1 : (g.rules.getD k default).right.length = 1
                            · exfalso
                              refine hsy ((hc.p _ hm).2 _ ?_)
                              match hr : (g.rules.getD k default).right, h1 with
                              | [s], _ =>
                                rw [hr] at hml
                                have : m = 0 := by simpa using hml
                                subst this; rfl
                            · omega
                          have hsub := ih _ (stA i way m) (way.getD m 0) hsy hxm.2 hgm.1 (by omega) (hshort m (by omega) h1l) (by rw [eT]; exact hTB) (stp.drop (acc.length + 1)) (by rw [List.length_drop]; omega) L3 hL3
                          have hdd : (stp.drop 1).drop acc.length = stp.drop (acc.length + 1) := by rw [List.drop_drop]; congr 1; omega
                          repeat' first | ((first | refine Br.dec ?_ ?_ | refine Br.eqi ?_ ?_) <;> intro h <;> try (exfalso; omega)) | (simp (disch := first | omega | (simp only [vlen]; first | done | omega)) only [vah, hq0, hway, hgw, hsg, hdv, ↓vAq, vBq, ↓reduceIte, Nat.reduceBEq, Nat.reduceEqDiff, Nat.reduceLT, Nat.reduceLeDiff, Nat.reduceAdd, Nat.reduceMul, Nat.reduceSub, reduceCtorEq, Int.reduceToNat]) | (refine Br.mk ?_ ?_ <;> intro h) | (refine BrN.mk (fun h => ?_) ?_) | (refine AltVC.mk ?_ ?_)
                          refine CallVC.lendE [0, 1] [.ptr 0 6 0 0, iv .i64 ((g.rules.getD k default).right.getD m 0 - g.k), iv .i64 (stA i way m), iv .i64 (way.getD m 0), .sl 1 (i64s (stp.drop (acc.length + 1)))] (buO g w L3) hsub (by simp) (by rfl) (by unfold buO; (simp (disch := first | omega | (simp only [vlen]; first | done | omega)) only [vle0, ↓vAq, vBq, ↓reduceIte, Nat.reduceBEq, Nat.reduceEqDiff, Nat.reduceLT, Nat.reduceLeDiff, Nat.reduceAdd, Nat.reduceMul, Nat.reduceSub, reduceCtorEq, Int.reduceToNat] <;> (repeat' first | rfl | apply And.intro))) ?_
                          rintro _ _ ⟨L4, hres, rfl, hL4⟩
                          unfold buO
                          rcases hres with ⟨st1, K1, r, e1, hT1, rfl⟩ | ⟨hno1, rfl⟩
                          · have hlt := hT1.lt hc.p
                            rw [prT_cons, prT_nil, Nat.mul_one, eT] at hlt
                            have hn := AI.stepG hml (by omega) hAI hT1 (by
                              obtain ⟨rest, e⟩ := hAI.pre
                              have e2 := hdd
                              rw [e, List.drop_left, e1] at e2
                              exact ⟨r, by rw [e, e2, List.append_assoc]⟩) hc.p
                            rw [eQ] at hn
                            have hle2 := hn.le
                            rw [eQ] at hle2
                            have hKQ : (K1 : Int) * (Q : Int) = ((K1 * Q : Nat) : Int) := (Int.natCast_mul K1 Q).symm
                            have hsl1 : st1.length ≤ stp.length := by
                              have := congrArg List.length e1
                              rw [List.length_drop, List.length_append] at this
                              omega
                            repeat' first | ((first | refine Br.dec ?_ ?_ | refine Br.eqi ?_ ?_) <;> intro h <;> try (exfalso; omega)) | (simp (disch := first | omega | (simp only [vlen]; first | done | omega)) only [vah, hq0, hway, hgw, hsg, hdv, hKQ, ↓vAq, vBq, ↓reduceIte, Nat.reduceBEq, Nat.reduceEqDiff, Nat.reduceLT, Nat.reduceLeDiff, Nat.reduceAdd, Nat.reduceMul, Nat.reduceSub, reduceCtorEq, Int.reduceToNat]) | (refine Br.mk ?_ ?_ <;> intro h) | (refine BrN.mk (fun h => ?_) ?_) | (refine AltVC.mk ?_ ?_)
                            refine loopK.mk (m + 1, acc ++ st1, own + K1 * Q, L4) (by simp (disch := first | omega | (simp only [vlen]; first | done | omega)) only [↓vAq, vBq, ↓reduceIte, Nat.reduceBEq, Nat.reduceEqDiff, Nat.reduceLT, Nat.reduceLeDiff, Nat.reduceAdd, Nat.reduceMul, Nat.reduceSub, reduceCtorEq, Int.reduceToNat]) ⟨by show m + 1 ≤ (g.rules.getD k default).right.length; omega, hL4, hn⟩ (by show (g.rules.getD k default).right.length - (m + 1) < (g.rules.getD k default).right.length - m; omega) ?_
                            simp only [eQ]
                            (simp (disch := first | omega | (simp only [vlen]; first | done | omega)) only [Fits_u, Fits_m, Fits_nil, List.length_append, vah, ↓vAq, vBq, ↓reduceIte, Nat.reduceBEq, Nat.reduceEqDiff, Nat.reduceLT, Nat.reduceLeDiff, Nat.reduceAdd, Nat.reduceMul, Nat.reduceSub, reduceCtorEq, Int.reduceToNat] <;> (repeat' first | rfl | apply And.intro))
                            all_goals first | rfl | exact ivEq (by omega) | trace_state
                          · have hnone := AI.none hml (by omega) hAI (by rw [hdd]; exact hno1)
                            repeat' first | ((first | refine Br.dec ?_ ?_ | refine Br.eqi ?_ ?_) <;> intro h <;> try (exfalso; omega)) | (simp (disch := first | omega | (simp only [vlen]; first | done | omega)) only [vah, hq0, hway, hgw, hsg, hdv, ↓vAq, vBq, ↓reduceIte, Nat.reduceBEq, Nat.reduceEqDiff, Nat.reduceLT, Nat.reduceLeDiff, Nat.reduceAdd, Nat.reduceMul, Nat.reduceSub, reduceCtorEq, Int.reduceToNat]) | (refine Br.mk ?_ ?_ <;> intro h) | (refine BrN.mk (fun h => ?_) ?_) | (refine AltVC.mk ?_ ?_)
                            refine loopK.mk (t + 1, L4) (by simp (disch := first | omega | (simp only [vlen]; first | done | omega)) only [↓vAq, vBq, ↓reduceIte, Nat.reduceBEq, Nat.reduceEqDiff, Nat.reduceLT, Nat.reduceLeDiff, Nat.reduceAdd, Nat.reduceMul, Nat.reduceSub, reduceCtorEq, Int.reduceToNat]) ⟨by show t + 1 ≤ W.length; omega, hL4, fun t' ht' => ?_⟩ (by show W.length - (t + 1) < W.length - t; omega) ?_
                            · have ht2 : t' < t + 1 := ht'
                              by_cases e : t' = t
                              · rw [e, hway]; exact hnone
                              · exact htn t' (by omega)
                            · simp only [hst2]
                              (simp (disch := first | omega | (simp only [vlen]; first | done | omega)) only [Fits_u, Fits_m, Fits_nil, List.length_append, vah, ↓vAq, vBq, ↓reduceIte, Nat.reduceBEq, Nat.reduceEqDiff, Nat.reduceLT, Nat.reduceLeDiff, Nat.reduceAdd, Nat.reduceMul, Nat.reduceSub, reduceCtorEq, Int.reduceToNat] <;> (repeat' first | rfl | apply And.intro))
                              all_goals first | rfl | exact ivEq (by omega) | trace_state
                      · have hme : m = (g.rules.getD k default).right.length := by omega
                        have hfin := hAI.all hme (by omega)
                        have hTk := hdone acc own htl hfin
                        obtain ⟨rest, hrest⟩ := hAI.pre
                        have hstp : stp = ((k : Int) :: acc) ++ rest := by
                          rw [List.cons_append, ← hrest, ← hq0]
                          exact (dropC (d := 0) hsl)
                        repeat' first | ((first | refine Br.dec ?_ ?_ | refine Br.eqi ?_ ?_) <;> intro h <;> try (exfalso; omega)) | (simp (disch := first | omega | (simp only [vlen]; first | done | omega)) only [vah, hq0, hway, hgw, ↓vAq, vBq, ↓reduceIte, Nat.reduceBEq, Nat.reduceEqDiff, Nat.reduceLT, Nat.reduceLeDiff, Nat.reduceAdd, Nat.reduceMul, Nat.reduceSub, reduceCtorEq, Int.reduceToNat]) | (refine Br.mk ?_ ?_ <;> intro h) | (refine BrN.mk (fun h => ?_) ?_) | (refine AltVC.mk ?_ ?_)
                        exact ah_fin (L := Lu) (by simp (disch := first | omega | (simp only [vlen]; first | done | omega)) only [vah, ↓vAq, vBq, ↓reduceIte, Nat.reduceBEq, Nat.reduceEqDiff, Nat.reduceLT, Nat.reduceLeDiff, Nat.reduceAdd, Nat.reduceMul, Nat.reduceSub, reduceCtorEq, Int.reduceToNat]) (by unfold buO; simp (disch := first | omega | (simp only [vlen]; first | done | omega)) only [vah, ↓vAq, vBq, ↓reduceIte, Nat.reduceBEq, Nat.reduceEqDiff, Nat.reduceLT, Nat.reduceLeDiff, Nat.reduceAdd, Nat.reduceMul, Nat.reduceSub, reduceCtorEq, Int.reduceToNat]) (.inl ⟨_, _, rest, hstp, hTk, by (simp (disch := first | omega | (simp only [vlen]; first | done | omega)) only [vah, ↓vAq, vBq, ↓reduceIte, Nat.reduceBEq, Nat.reduceEqDiff, Nat.reduceLT, Nat.reduceLeDiff, Nat.reduceAdd, Nat.reduceMul, Nat.reduceSub, reduceCtorEq, Int.reduceToNat]); exact congrArg (fun v => D.tu [v, _]) (ivEq (by omega))⟩) hLu
              · repeat' first | ((first | refine Br.dec ?_ ?_ | refine Br.eqi ?_ ?_) <;> intro h <;> try (exfalso; omega)) | (simp (disch := first | omega | (simp only [vlen]; first | done | omega)) only [vah, hq0, ↓vAq, vBq, ↓reduceIte, Nat.reduceBEq, Nat.reduceEqDiff, Nat.reduceLT, Nat.reduceLeDiff, Nat.reduceAdd, Nat.reduceMul, Nat.reduceSub, reduceCtorEq, Int.reduceToNat]) | (refine Br.mk ?_ ?_ <;> intro h) | (refine BrN.mk (fun h => ?_) ?_) | (refine AltVC.mk ?_ ?_)
                refine hno Ly hLy _ (by simp (disch := first | omega | (simp only [vlen]; first | done | omega)) only [vah, ↓vAq, vBq, ↓reduceIte, Nat.reduceBEq, Nat.reduceEqDiff, Nat.reduceLT, Nat.reduceLeDiff, Nat.reduceAdd, Nat.reduceMul, Nat.reduceSub, reduceCtorEq, Int.reduceToNat]) (by unfold buO; simp (disch := first | omega | (simp only [vlen]; first | done | omega)) only [vah, ↓vAq, vBq, ↓reduceIte, Nat.reduceBEq, Nat.reduceEqDiff, Nat.reduceLT, Nat.reduceLeDiff, Nat.reduceAdd, Nat.reduceMul, Nat.reduceSub, reduceCtorEq, Int.reduceToNat]) (hways fun t' h => htn t' (by omega))
          · repeat' first | ((first | refine Br.dec ?_ ?_ | refine Br.eqi ?_ ?_) <;> intro h <;> try (exfalso; omega)) | (simp (disch := first | omega | (simp only [vlen]; first | done | omega)) only [vah, hq0, ↓vAq, vBq, ↓reduceIte, Nat.reduceBEq, Nat.reduceEqDiff, Nat.reduceLT, Nat.reduceLeDiff, Nat.reduceAdd, Nat.reduceMul, Nat.reduceSub, reduceCtorEq, Int.reduceToNat]) | (refine Br.mk ?_ ?_ <;> intro h) | (refine BrN.mk (fun h => ?_) ?_) | (refine AltVC.mk ?_ ?_)
            refine LoopVC.mk (X := Unit) (fun _ => [(12, iv .i64 (rlB g w x i j k)), (112, iv .i64 0)]) (fun _ => buL g w L2) (fun _ => 0) (fun _ => True) () trivial ?_ ?_
            · unfold buL
              (simp (disch := first | omega | (simp only [vlen]; first | done | omega)) only [Fits_u, Fits_m, Fits_nil, List.length_append, vah, ↓vAq, vBq, ↓reduceIte, Nat.reduceBEq, Nat.reduceEqDiff, Nat.reduceLT, Nat.reduceLeDiff, Nat.reduceAdd, Nat.reduceMul, Nat.reduceSub, reduceCtorEq, Int.reduceToNat] <;> (repeat' first | rfl | apply And.intro))
              all_goals first | rfl | trace_state
            · rintro _ _
              unfold buL
              repeat' first | ((first | refine Br.dec ?_ ?_ | refine Br.eqi ?_ ?_) <;> intro h <;> try (exfalso; omega)) | (simp (disch := first | omega | (simp only [vlen]; first | done | omega)) only [vah, hq0, ↓vAq, vBq, ↓reduceIte, Nat.reduceBEq, Nat.reduceEqDiff, Nat.reduceLT, Nat.reduceLeDiff, Nat.reduceAdd, Nat.reduceMul, Nat.reduceSub, reduceCtorEq, Int.reduceToNat]) | (refine Br.mk ?_ ?_ <;> intro h) | (refine BrN.mk (fun h => ?_) ?_) | (refine AltVC.mk ?_ ?_)
              exact hno L2 hL2 _ (by simp (disch := first | omega | (simp only [vlen]; first | done | omega)) only [vah, ↓vAq, vBq, ↓reduceIte, Nat.reduceBEq, Nat.reduceEqDiff, Nat.reduceLT, Nat.reduceLeDiff, Nat.reduceAdd, Nat.reduceMul, Nat.reduceSub, reduceCtorEq, Int.reduceToNat]) (by unfold buO; simp (disch := first | omega | (simp only [vlen]; first | done | omega)) only [vah, ↓vAq, vBq, ↓reduceIte, Nat.reduceBEq, Nat.reduceEqDiff, Nat.reduceLT, Nat.reduceLeDiff, Nat.reduceAdd, Nat.reduceMul, Nat.reduceSub, reduceCtorEq, Int.reduceToNat]) (hways fun t' h => by rw [hemp] at h; exact absurd h (Nat.not_lt_zero _))
    · unfold buO at hno ⊢
      repeat' first | ((first | refine Br.dec ?_ ?_ | refine Br.eqi ?_ ?_) <;> intro h <;> try (exfalso; omega)) | (simp (disch := first | omega | (simp only [vlen]; first | done | omega)) only [vah, hq0, ↓vAq, vBq, ↓reduceIte, Nat.reduceBEq, Nat.reduceEqDiff, Nat.reduceLT, Nat.reduceLeDiff, Nat.reduceAdd, Nat.reduceMul, Nat.reduceSub, reduceCtorEq, Int.reduceToNat]) | (refine Br.mk ?_ ?_ <;> intro h) | (refine BrN.mk (fun h => ?_) ?_) | (refine AltVC.mk ?_ ?_)
      exact hno L hL _ (by simp (disch := first | omega | (simp only [vlen]; first | done | omega)) only [vah, ↓vAq, vBq, ↓reduceIte, Nat.reduceBEq, Nat.reduceEqDiff, Nat.reduceLT, Nat.reduceLeDiff, Nat.reduceAdd, Nat.reduceMul, Nat.reduceSub, reduceCtorEq, Int.reduceToNat]) (by simp (disch := first | omega | (simp only [vlen]; first | done | omega)) only [vah, ↓vAq, vBq, ↓reduceIte, Nat.reduceBEq, Nat.reduceEqDiff, Nat.reduceLT, Nat.reduceLeDiff, Nat.reduceAdd, Nat.reduceMul, Nat.reduceSub, reduceCtorEq, Int.reduceToNat]) (ahNo_rule hx fun q' _ hq' hRA => hlx (by have := hRA.2.2; rw [Int.toNat_natCast] at this; rw [show q = q' by omega]; exact this))
  · unfold buO at hno ⊢
    repeat' first | ((first | refine Br.dec ?_ ?_ | refine Br.eqi ?_ ?_) <;> intro h <;> try (exfalso; omega)) | (simp (disch := first | omega | (simp only [vlen]; first | done | omega)) only [vah, ↓vAq, vBq, ↓reduceIte, Nat.reduceBEq, Nat.reduceEqDiff, Nat.reduceLT, Nat.reduceLeDiff, Nat.reduceAdd, Nat.reduceMul, Nat.reduceSub, reduceCtorEq, Int.reduceToNat]) | (refine Br.mk ?_ ?_ <;> intro h) | (refine BrN.mk (fun h => ?_) ?_) | (refine AltVC.mk ?_ ?_)
    all_goals exact hno L hL _ (by simp (disch := first | omega | (simp only [vlen]; first | done | omega)) only [vah, ↓vAq, vBq, ↓reduceIte, Nat.reduceBEq, Nat.reduceEqDiff, Nat.reduceLT, Nat.reduceLeDiff, Nat.reduceAdd, Nat.reduceMul, Nat.reduceSub, reduceCtorEq, Int.reduceToNat]) (by simp (disch := first | omega | (simp only [vlen]; first | done | omega)) only [vah, ↓vAq, vBq, ↓reduceIte, Nat.reduceBEq, Nat.reduceEqDiff, Nat.reduceLT, Nat.reduceLeDiff, Nat.reduceAdd, Nat.reduceMul, Nat.reduceSub, reduceCtorEq, Int.reduceToNat]) (ahNo_rule hx fun q' _ hq' hRA => hr0 (by have := hRA.1; have := hRA.2.1; omega))
theorem ahead_all (g : Grammar) (w : List Int) (hc : CC g w) : ∀ n x i j, ¬ x < g.k → x < g.k + g.n → i ≤ j → j ≤ w.length → j - i < n → trees g w x i j ≤ 1099511627776 → ahP g w x i j := by
  intro n
  induction n with
  | zero => intro x i j _ _ _ _ h; exact absurd h (Nat.not_lt_zero _)
  | succ n ih =>
    intro x i j h0 h1 hij hj h2 hT stp hs L hL
    exact ahead_step g w hc x h0 h1 i j hij hj hT (fun x' i' j' a b c d e f => ih x' i' j' a b c d (by omega) f) stp hs L hL
theorem ahead_spec (g : Grammar) (w : List Int) (hc : CC g w) (x : Int) (i j : Nat) (h0 : ¬ x < g.k) (h1 : x < g.k + g.n) (hij : i ≤ j) (hj : j ≤ w.length) (hT : trees g w x i j ≤ 1099511627776) : ahP g w x i j := ahead_all g w hc (j - i + 1) x i j h0 h1 hij hj (Nat.lt_succ_self _) hT
end Go.Proofs.Ytjekkbpdgnohcaa

namespace Go.Proofs.Ytjekkbpdgnohcaa
open Go.Dm
set_option linter.unusedSimpArgs false
set_option linter.unnecessarySimpa false
set_option linter.unusedVariables false
set_option linter.defProp false
def trC (g : Grammar) (w : List Int) : Int := if tcode g w = 0 then (if 1099511627776 < trN g w then 1 else 0) else tcode g w
end Go.Proofs.Ytjekkbpdgnohcaa

namespace Go.Proofs.Ytjekkbpdgnohcaa
open Go.Dm
set_option linter.unusedSimpArgs false
set_option linter.unnecessarySimpa false
set_option linter.unusedVariables false
set_option linter.defProp false
theorem cc_ok {g : Grammar} {w : List Int} (h : trC g w = 0) : CC g w ∧ tcode g w = 0 ∧ trN g w ≤ 1099511627776 := by
  unfold trC at h
  by_cases ht : tcode g w = 0
  · rw [if_pos ht] at h
    refine ⟨(cc_of ht).1, ht, ?_⟩
    by_cases hb : 1099511627776 < trN g w
    · rw [if_pos hb] at h; omega
    · omega
  · rw [if_neg ht] at h; exact absurd h ht
set_option maxRecDepth 10000 in
set_option maxHeartbeats 4000000 in
theorem pickCode_spec (g : Grammar) (hg : g.ok) (w : List Int) (hw : w.length ≤ 9223372036854775807) : Dm.Spec Try.prog 13 [.ag (graD g), .sl 1 (i64s w)] (· = iv .i64 (trC g w)) := by
  refine spec_of_vc mixed Try.func13 c13 (by rw [show Try.f13.ntmps = _ from Try.ntmps13]; simp) ?_
  unfold m13 r13
  have hq := treesCheck_spec g hg w hw
  by_cases ht : tcode g w = 0
  · have hc := (cc_of ht).1
    have hk := hc.v.k
    have hn := hc.v.n
    have hst := hc.v.start
    have hw12 := hc.w
    have hB := bushT_spec g w hc (g.k + g.start) 0 w.length (by omega) (by omega) (Nat.zero_le _) (Nat.le_refl _) [] BI.nil
    rw [ht] at hq
    have hcpi : ((cp (trees g w (g.k + g.start) 0 w.length) : Nat) : Int) = (cp (trN g w) : Nat) := rfl
    repeat' first | ((first | refine Br.dec ?_ ?_ | refine Br.eqi ?_ ?_) <;> intro h <;> try (exfalso; omega)) | (simp (disch := first | omega | (simp only [vlen]; first | done | omega)) only [vbe, ↓vAq, vBq, ↓reduceIte, Nat.reduceBEq, Nat.reduceEqDiff, Nat.reduceLT, Nat.reduceLeDiff, Nat.reduceAdd, Nat.reduceMul, Nat.reduceSub, reduceCtorEq, Int.reduceToNat]) | (refine Br.mk ?_ ?_ <;> intro h) | (refine BrN.mk (fun h => ?_) ?_) | (refine AltVC.mk ?_ ?_)
    refine CallVC.eq hq ?_
    repeat' first | ((first | refine Br.dec ?_ ?_ | refine Br.eqi ?_ ?_) <;> intro h <;> try (exfalso; omega)) | (simp (disch := first | omega | (simp only [vlen]; first | done | omega)) only [vbe, ↓vAq, vBq, ↓reduceIte, Nat.reduceBEq, Nat.reduceEqDiff, Nat.reduceLT, Nat.reduceLeDiff, Nat.reduceAdd, Nat.reduceMul, Nat.reduceSub, reduceCtorEq, Int.reduceToNat]) | (refine Br.mk ?_ ?_ <;> intro h) | (refine BrN.mk (fun h => ?_) ?_) | (refine AltVC.mk ?_ ?_)
    refine CallP.lend [.ag (graD g), .sl 1 (i64s w)] (grow_bspec g w) (by simp (disch := first | omega | (simp only [vlen]; first | done | omega)) only [vbe, ↓vAq, vBq, ↓reduceIte, Nat.reduceBEq, Nat.reduceEqDiff, Nat.reduceLT, Nat.reduceLeDiff, Nat.reduceAdd, Nat.reduceMul, Nat.reduceSub, reduceCtorEq, Int.reduceToNat]) ?_
    rintro _ _ ⟨rfl, rfl⟩
    repeat' first | ((first | refine Br.dec ?_ ?_ | refine Br.eqi ?_ ?_) <;> intro h <;> try (exfalso; omega)) | (simp (disch := first | omega | (simp only [vlen]; first | done | omega)) only [vbe, ↓vAq, vBq, ↓reduceIte, Nat.reduceBEq, Nat.reduceEqDiff, Nat.reduceLT, Nat.reduceLeDiff, Nat.reduceAdd, Nat.reduceMul, Nat.reduceSub, reduceCtorEq, Int.reduceToNat]) | (refine Br.mk ?_ ?_ <;> intro h) | (refine BrN.mk (fun h => ?_) ?_) | (refine AltVC.mk ?_ ?_)
    refine CallVC.lendE [3, 2] [.ptr 0 6 0 0, iv .i64 (g.k + g.start), iv .i64 (0 : Nat), iv .i64 w.length] (buO g w []) hB (by simp) (by rfl) (by unfold buO; (simp (disch := first | omega | (simp only [vlen]; first | done | omega)) only [vle0, ↓vAq, vBq, ↓reduceIte, Nat.reduceBEq, Nat.reduceEqDiff, Nat.reduceLT, Nat.reduceLeDiff, Nat.reduceAdd, Nat.reduceMul, Nat.reduceSub, reduceCtorEq, Int.reduceToNat] <;> (repeat' first | rfl | apply And.intro))) ?_
    rintro _ _ ⟨L2, rfl, rfl, hL2⟩
    unfold buO
    rw [hcpi]
    by_cases hbig : 1099511627776 < trN g w
    · have hcp : (cp (trN g w) : Int) = 1099511627777 := by unfold cp; omega
      have e : trC g w = 1 := by unfold trC; rw [if_pos ht, if_pos hbig]
      rw [hcp]
      repeat' first | ((first | refine Br.dec ?_ ?_ | refine Br.eqi ?_ ?_) <;> intro h <;> try (exfalso; omega)) | (simp (disch := first | omega | (simp only [vlen]; first | done | omega)) only [vbe, ↓vAq, vBq, ↓reduceIte, Nat.reduceBEq, Nat.reduceEqDiff, Nat.reduceLT, Nat.reduceLeDiff, Nat.reduceAdd, Nat.reduceMul, Nat.reduceSub, reduceCtorEq, Int.reduceToNat]) | (refine Br.mk ?_ ?_ <;> intro h) | (refine BrN.mk (fun h => ?_) ?_) | (refine AltVC.mk ?_ ?_)
      exact fin_mk (by rw [e])
    · have hcp : (cp (trN g w) : Int) = (trN g w : Int) := by unfold cp; omega
      have e : trC g w = 0 := by unfold trC; rw [if_pos ht, if_neg hbig]
      rw [hcp]
      repeat' first | ((first | refine Br.dec ?_ ?_ | refine Br.eqi ?_ ?_) <;> intro h <;> try (exfalso; omega)) | (simp (disch := first | omega | (simp only [vlen]; first | done | omega)) only [vbe, ↓vAq, vBq, ↓reduceIte, Nat.reduceBEq, Nat.reduceEqDiff, Nat.reduceLT, Nat.reduceLeDiff, Nat.reduceAdd, Nat.reduceMul, Nat.reduceSub, reduceCtorEq, Int.reduceToNat]) | (refine Br.mk ?_ ?_ <;> intro h) | (refine BrN.mk (fun h => ?_) ?_) | (refine AltVC.mk ?_ ?_)
      exact fin_mk (by rw [e])
  · have e : trC g w = tcode g w := by unfold trC; rw [if_neg ht]
    repeat' first | ((first | refine Br.dec ?_ ?_ | refine Br.eqi ?_ ?_) <;> intro h <;> try (exfalso; omega)) | (simp (disch := first | omega | (simp only [vlen]; first | done | omega)) only [vbe, ↓vAq, vBq, ↓reduceIte, Nat.reduceBEq, Nat.reduceEqDiff, Nat.reduceLT, Nat.reduceLeDiff, Nat.reduceAdd, Nat.reduceMul, Nat.reduceSub, reduceCtorEq, Int.reduceToNat]) | (refine Br.mk ?_ ?_ <;> intro h) | (refine BrN.mk (fun h => ?_) ?_) | (refine AltVC.mk ?_ ?_)
    refine CallVC.eq hq ?_
    repeat' first | ((first | refine Br.dec ?_ ?_ | refine Br.eqi ?_ ?_) <;> intro h <;> try (exfalso; omega)) | (simp (disch := first | omega | (simp only [vlen]; first | done | omega)) only [vbe, ↓vAq, vBq, ↓reduceIte, Nat.reduceBEq, Nat.reduceEqDiff, Nat.reduceLT, Nat.reduceLeDiff, Nat.reduceAdd, Nat.reduceMul, Nat.reduceSub, reduceCtorEq, Int.reduceToNat]) | (refine Br.mk ?_ ?_ <;> intro h) | (refine BrN.mk (fun h => ?_) ?_) | (refine AltVC.mk ?_ ?_)
    exact fin_mk (by rw [e])
def plR (g : Grammar) (w : List Int) (stp : List Int) (d : D) : Prop :=
  (∃ K, Tk g w [g.k + g.start] 0 [w.length] stp K ∧ d = iv .i64 (K : Nat)) ∨ ((∀ K, ¬ Tk g w [g.k + g.start] 0 [w.length] stp K) ∧ d = iv .i64 (-1))
set_option maxRecDepth 10000 in
set_option maxHeartbeats 4000000 in
theorem placeOf_spec (g : Grammar) (w : List Int) (ht : trC g w = 0) (stp : List Int) (hs : stp.length ≤ 1000000) : Dm.Spec Try.prog 16 [.ag (graD g), .sl 1 (i64s w), .sl 1 (i64s stp)] (fun d => plR g w stp d) := by
  refine spec_of_vc mixed Try.func16 c16 (by rw [show Try.f16.ntmps = _ from Try.ntmps16]; simp) ?_
  unfold m16 r16
  obtain ⟨hc, h0, hT⟩ := cc_ok ht
  have hk := hc.v.k
  have hn := hc.v.n
  have hst := hc.v.start
  have hw := hc.w
  have hA := ahead_spec g w hc (g.k + g.start) 0 w.length (by omega) (by omega) (Nat.zero_le _) (Nat.le_refl _) hT stp hs [] BI.nil
  rw [show g.k + g.start - g.k = g.start by omega] at hA
  repeat' first | ((first | refine Br.dec ?_ ?_ | refine Br.eqi ?_ ?_) <;> intro h <;> try (exfalso; omega)) | (simp (disch := first | omega | (simp only [vlen]; first | done | omega)) only [vah, ↓vAq, vBq, ↓reduceIte, Nat.reduceBEq, Nat.reduceEqDiff, Nat.reduceLT, Nat.reduceLeDiff, Nat.reduceAdd, Nat.reduceMul, Nat.reduceSub, reduceCtorEq, Int.reduceToNat]) | (refine Br.mk ?_ ?_ <;> intro h) | (refine BrN.mk (fun h => ?_) ?_) | (refine AltVC.mk ?_ ?_)
  refine CallP.lend [.ag (graD g), .sl 1 (i64s w)] (grow_bspec g w) (by simp (disch := first | omega | (simp only [vlen]; first | done | omega)) only [vbe, ↓vAq, vBq, ↓reduceIte, Nat.reduceBEq, Nat.reduceEqDiff, Nat.reduceLT, Nat.reduceLeDiff, Nat.reduceAdd, Nat.reduceMul, Nat.reduceSub, reduceCtorEq, Int.reduceToNat]) ?_
  rintro _ _ ⟨rfl, rfl⟩
  repeat' first | ((first | refine Br.dec ?_ ?_ | refine Br.eqi ?_ ?_) <;> intro h <;> try (exfalso; omega)) | (simp (disch := first | omega | (simp only [vlen]; first | done | omega)) only [vah, ↓vAq, vBq, ↓reduceIte, Nat.reduceBEq, Nat.reduceEqDiff, Nat.reduceLT, Nat.reduceLeDiff, Nat.reduceAdd, Nat.reduceMul, Nat.reduceSub, reduceCtorEq, Int.reduceToNat]) | (refine Br.mk ?_ ?_ <;> intro h) | (refine BrN.mk (fun h => ?_) ?_) | (refine AltVC.mk ?_ ?_)
  refine CallVC.lendE [3, 2] [.ptr 0 6 0 0, iv .i64 g.start, iv .i64 (0 : Nat), iv .i64 w.length, .sl 1 (i64s stp)] (buO g w []) hA (by simp) (by rfl) (by unfold buO; (simp (disch := first | omega | (simp only [vlen]; first | done | omega)) only [vle0, ↓vAq, vBq, ↓reduceIte, Nat.reduceBEq, Nat.reduceEqDiff, Nat.reduceLT, Nat.reduceLeDiff, Nat.reduceAdd, Nat.reduceMul, Nat.reduceSub, reduceCtorEq, Int.reduceToNat] <;> (repeat' first | rfl | apply And.intro))) ?_
  rintro _ _ ⟨L2, hres, rfl, hL2⟩
  unfold buO
  rcases hres with ⟨st1, K1, r, e1, hT1, rfl⟩ | ⟨hno1, rfl⟩
  · have hsl1 : st1.length + r.length = stp.length := by rw [e1, List.length_append]
    by_cases hr : st1.length = stp.length
    · have hr0 : r = [] := List.eq_nil_of_length_eq_zero (by omega)
      rw [hr0, List.append_nil] at e1
      subst e1
      repeat' first | ((first | refine Br.dec ?_ ?_ | refine Br.eqi ?_ ?_) <;> intro h <;> try (exfalso; omega)) | (simp (disch := first | omega | (simp only [vlen]; first | done | omega)) only [vah, ↓vAq, vBq, ↓reduceIte, Nat.reduceBEq, Nat.reduceEqDiff, Nat.reduceLT, Nat.reduceLeDiff, Nat.reduceAdd, Nat.reduceMul, Nat.reduceSub, reduceCtorEq, Int.reduceToNat]) | (refine Br.mk ?_ ?_ <;> intro h) | (refine BrN.mk (fun h => ?_) ?_) | (refine AltVC.mk ?_ ?_)
      exact fin_mk (.inl ⟨K1, hT1, rfl⟩)
    · repeat' first | ((first | refine Br.dec ?_ ?_ | refine Br.eqi ?_ ?_) <;> intro h <;> try (exfalso; omega)) | (simp (disch := first | omega | (simp only [vlen]; first | done | omega)) only [vah, ↓vAq, vBq, ↓reduceIte, Nat.reduceBEq, Nat.reduceEqDiff, Nat.reduceLT, Nat.reduceLeDiff, Nat.reduceAdd, Nat.reduceMul, Nat.reduceSub, reduceCtorEq, Int.reduceToNat]) | (refine Br.mk ?_ ?_ <;> intro h) | (refine BrN.mk (fun h => ?_) ?_) | (refine AltVC.mk ?_ ?_)
      refine fin_mk (.inr ⟨fun K hK => ?_, rfl⟩)
      have := hT1.det hK (r := r) (r' := []) (by rw [List.append_nil]; exact e1.symm)
      exact hr (by rw [this.1])
  · have hno2 : ∀ K, ¬ Tk g w [g.k + g.start] 0 [w.length] stp K := fun K hK => hno1 stp K [] (by rw [List.append_nil]) hK
    repeat' first | ((first | refine Br.dec ?_ ?_ | refine Br.eqi ?_ ?_) <;> intro h <;> try (exfalso; omega)) | (simp (disch := first | omega | (simp only [vlen]; first | done | omega)) only [vah, ↓vAq, vBq, ↓reduceIte, Nat.reduceBEq, Nat.reduceEqDiff, Nat.reduceLT, Nat.reduceLeDiff, Nat.reduceAdd, Nat.reduceMul, Nat.reduceSub, reduceCtorEq, Int.reduceToNat]) | (refine Br.mk ?_ ?_ <;> intro h) | (refine BrN.mk (fun h => ?_) ?_) | (refine AltVC.mk ?_ ?_)
    all_goals exact fin_mk (.inr ⟨hno2, rfl⟩)
end Go.Proofs.Ytjekkbpdgnohcaa

namespace Go.Proofs.Ytjekkbpdgnohcaa
open Go.Dm
set_option linter.unusedSimpArgs false
set_option linter.unnecessarySimpa false
set_option linter.unusedVariables false
set_option linter.defProp false
inductive Gr (g : Grammar) : List Int → List Int → List (List D) → List Int → List Int → Prop
  | nil {st : List Int} : Gr g [] st [] [] st
  | sym {x : Int} {s st w r : List Int} {ks : List (List D)} (hx : x < g.k) (h : Gr g s st ks w r) : Gr g (x :: s) st ([iv .i64 (-1), .nl, .sl 1 (i64s [x])] :: ks) (x :: w) r
  | name {x : Int} {q : Nat} {s st m w1 w2 r : List Int} {k1 k2 : List (List D)} (hx : ¬ x < g.k) (hq : RuleAt g x q) (h1 : Gr g (g.rules.getD q default).right st k1 w1 m) (h2 : Gr g s m k2 w2 r) : Gr g (x :: s) ((q : Int) :: st) ([iv .i64 q, .sl 3 k1, .sl 1 (i64s w1)] :: k2) (w1 ++ w2) r
theorem Gr.det {g : Grammar} {s st w r : List Int} {ks : List (List D)} (h : Gr g s st ks w r) : ∀ {ks' : List (List D)} {w' r' : List Int}, Gr g s st ks' w' r' → ks = ks' ∧ w = w' ∧ r = r' := by
  induction h with
  | nil => intro ks' w' r' h'; cases h'; exact ⟨rfl, rfl, rfl⟩
  | sym hx h ih =>
    intro ks' w' r' h'
    cases h' with
    | sym _ h2 => obtain ⟨e1, e2, e3⟩ := ih h2; exact ⟨by rw [e1], by rw [e2], e3⟩
    | name hn => exact absurd hx hn
  | @name x q s st m w1 w2 r k1 k2 hx hq h1 h2 ih1 ih2 =>
    intro ks' w' r' h'
    generalize hS : (q : Int) :: st = S at h'
    cases h' with
    | sym hn => exact absurd hn hx
    | @name _ q' _ st' m' w1' w2' _ k1' k2' _ hq' h1' h2' =>
      simp only [List.cons.injEq, Int.natCast_inj] at hS
      obtain ⟨rfl, rfl⟩ := hS
      obtain ⟨e1, e2, e3⟩ := ih1 h1'
      subst e3
      obtain ⟨f1, f2, f3⟩ := ih2 h2'
      exact ⟨by rw [e1, e2, f1], by rw [e2, f2], f3⟩
theorem Gr.len {g : Grammar} {s st w r : List Int} {ks : List (List D)} (h : Gr g s st ks w r) : ks.length = s.length := by
  induction h with
  | nil => rfl
  | sym _ _ ih => simp [ih]
  | name _ _ _ _ _ ih2 => simp [ih2]
theorem Gr.app {g : Grammar} {s st w m : List Int} {ks : List (List D)} (h : Gr g s st ks w m) : ∀ {s2 k2 w2 r}, Gr g s2 m k2 w2 r → Gr g (s ++ s2) st (ks ++ k2) (w ++ w2) r := by
  induction h with
  | nil => intro _ _ _ _ h2; exact h2
  | sym hx h ih => intro _ _ _ _ h2; exact .sym hx (ih h2)
  | name hx hq h1 h2 ih1 ih2 =>
    intro _ _ _ _ h3
    rw [List.append_assoc]
    exact .name hx hq h1 (ih2 h3)
theorem Gr.short {g : Grammar} {s st w r : List Int} {ks : List (List D)} (h : Gr g s st ks w r) : r.length ≤ st.length := by
  induction h with
  | nil => exact Nat.le_refl _
  | sym _ _ ih => exact ih
  | name _ _ _ _ ih1 ih2 => rw [List.length_cons]; omega
theorem Gr.wlen {g : Grammar} (hl : ∀ q, q < g.rules.length → (g.rules.getD q default).right.length ≤ 4) {s st w r : List Int} {ks : List (List D)} (h : Gr g s st ks w r) : w.length + 4 * r.length ≤ s.length + 4 * st.length := by
  induction h with
  | nil => simp
  | sym _ _ ih => simp only [List.length_cons]; omega
  | name _ hq _ _ ih1 ih2 =>
    have := hl _ (rule_lt hq)
    simp only [List.length_cons, List.length_append]; omega
inductive Tg (g : Grammar) (w : List Int) : List Int → Nat → List Nat → List Int → Nat → List (List D) → Prop
  | nil (i : Nat) : Tg g w [] i [] [] 0 []
  | sym {x : Int} {l : List Int} {i : Nat} {es : List Nat} {st : List Int} {K : Nat} {ks : List (List D)} (hx : x < g.k) (hw : w.getD i 0 = x) (h : Tg g w l (i + 1) es st K ks) : Tg g w (x :: l) i ((i + 1) :: es) st K ([iv .i64 (-1), .nl, .sl 1 (i64s [x])] :: ks)
  | name {x : Int} {l : List Int} {i e : Nat} {es : List Nat} {q c : Nat} {s1 s2 w1 : List Int} {K1 K2 : Nat} {k1 k2 : List (List D)} (hx : ¬ x < g.k) (hq : RuleAt g x q) (hc : c < (cutN ((g.rules.getD q default).right.length - 1) i e).length) (hw : i + w1.length = e)
      (h1 : Tg g w (g.rules.getD q default).right i ((cutN ((g.rules.getD q default).right.length - 1) i e).getD c []) s1 K1 k1) (h2 : Tg g w l e es s2 K2 k2) :
      Tg g w (x :: l) i (e :: es) ((q : Int) :: s1 ++ s2) ((rlB g w x i e q + sumL (prT g w (g.rules.getD q default).right i) ((cutN ((g.rules.getD q default).right.length - 1) i e).take c) + K1) * prT g w l e es + K2) ([iv .i64 q, .sl 3 k1, .sl 1 (i64s w1)] :: k2)
theorem Tg.tk {g : Grammar} {w : List Int} {l : List Int} {i : Nat} {es : List Nat} {st : List Int} {K : Nat} {ks : List (List D)} (h : Tg g w l i es st K ks) : Tk g w l i es st K := by
  induction h with
  | nil => exact .nil _
  | sym hx hw _ ih => exact .sym hx hw ih
  | name hx hq hc _ _ _ ih1 ih2 => exact .name hx hq hc ih1 ih2
theorem Tg.len {g : Grammar} {w : List Int} {l : List Int} {i : Nat} {es : List Nat} {st : List Int} {K : Nat} {ks : List (List D)} (h : Tg g w l i es st K ks) : es.length = l.length ∧ ks.length = l.length := by
  induction h with
  | nil => exact ⟨rfl, rfl⟩
  | sym _ _ _ ih => exact ⟨by simp [ih.1], by simp [ih.2]⟩
  | name _ _ _ _ _ _ _ ih => exact ⟨by simp [ih.1], by simp [ih.2]⟩
def SI : Nat → List Nat → Prop
  | _, [] => True
  | i, e :: es => i < e ∧ SI e es
theorem SI.le : ∀ {es : List Nat} {i : Nat}, SI i es → i + es.length ≤ stA i es es.length
  | [], i, _ => by simp [stA]
  | e :: es, i, h => by
    have := h.2.le
    rw [List.length_cons, stA_cons]
    have := h.1
    omega
theorem cutN_mem : ∀ {n i j : Nat} {es : List Nat}, es.length = n + 1 → SI i es → stA i es es.length = j → es ∈ cutN n i j
  | 0, i, j, [e], _, _, h => by
    have : e = j := h
    subst this
    simp [cutN]
  | n + 1, i, j, e :: es, hl, hs, h => by
    rw [List.length_cons, stA_cons] at h
    have h1 := hs.2.le
    have hl' : es.length = n + 1 := by simpa using hl
    have h2 := hs.1
    simp only [cutN, List.mem_flatMap, List.mem_map, List.mem_range]
    exact ⟨e - (i + 1), by omega, es, by rw [show i + 1 + (e - (i + 1)) = e by omega]; exact cutN_mem hl' hs.2 h, by rw [show i + 1 + (e - (i + 1)) = e by omega]⟩
  | 0, _, _, [], hl, _, _ => by simp at hl
  | 0, _, _, _ :: _ :: _, hl, _, _ => by simp at hl
  | n + 1, _, _, [], hl, _, _ => by simp at hl
theorem sl_app {w a b : List Int} {i : Nat} (h : (w.drop i).take (a ++ b).length = a ++ b) : (w.drop i).take a.length = a ∧ (w.drop (i + a.length)).take b.length = b := by
  rw [List.length_append] at h
  have h2 : w.drop i = a ++ (b ++ (w.drop i).drop (a.length + b.length)) := by
    conv => lhs; rw [← List.take_append_drop (a.length + b.length) (w.drop i), h]
    rw [List.append_assoc]
  constructor
  · rw [h2, List.take_left]
  · rw [← List.drop_drop, h2, List.drop_left, List.take_left]
theorem Gr.tg {g : Grammar} {w : List Int} (hp : Proper g) {l st wd r : List Int} {ks : List (List D)} (h : Gr g l st ks wd r) : ∀ i, (w.drop i).take wd.length = wd → ∃ es st1 K, st = st1 ++ r ∧ Tg g w l i es st1 K ks ∧ stA i es es.length = i + wd.length ∧ SI i es := by
  induction h with
  | nil => intro i _; exact ⟨[], [], 0, rfl, .nil i, rfl, trivial⟩
  | @sym x s st wd r ks hx h ih =>
    intro i hw
    obtain ⟨h1, h2⟩ := sl_app (a := [x]) (b := wd) (i := i) hw
    obtain ⟨es, st1, K, e1, e2, e3, e4⟩ := ih (i + 1) h2
    have hwi : w.getD i 0 = x := by
      have := congrArg (fun l : List Int => l.getD 0 0) h1
      simp only [List.length_singleton, List.getD_cons_zero] at this
      rw [← this]
      simp [List.getD]
    refine ⟨(i + 1) :: es, st1, K, e1, .sym hx hwi e2, ?_, by omega, e4⟩
    rw [List.length_cons, stA_cons, e3, List.length_cons]; omega
  | @name x q s st m w1 w2 r k1 k2 hx hq h1 h2 ih1 ih2 =>
    intro i hw
    obtain ⟨a1, a2⟩ := sl_app hw
    obtain ⟨es1, s1, K1, b1, b2, b3, b4⟩ := ih1 i a1
    obtain ⟨es2, s2, K2, c1, c2, c3, c4⟩ := ih2 _ a2
    have hl := b2.len.1
    have hne := List.length_pos_iff.2 (right_ne hp (rule_lt hq))
    have hm := cutN_mem (n := (g.rules.getD q default).right.length - 1) (by omega) b4 b3
    obtain ⟨c, hc, he⟩ := List.getElem_of_mem hm
    have he2 : (cutN ((g.rules.getD q default).right.length - 1) i (i + w1.length)).getD c [] = es1 := by rw [← he]; exact getD_idx hc
    refine ⟨(i + w1.length) :: es2, (q : Int) :: s1 ++ s2, _, by rw [b1, c1]; simp, .name hx hq hc rfl (by rw [he2]; exact b2) c2, ?_, ?_, c4⟩
    · rw [List.length_cons, stA_cons, c3, List.length_append]; omega
    · have := b4.le
      rw [b3] at this
      omega
theorem Tk.gr {g : Grammar} {w : List Int} {l : List Int} {i : Nat} {es : List Nat} {st : List Int} {K : Nat} (h : Tk g w l i es st K) : stA i es es.length ≤ w.length → i ≤ stA i es es.length ∧ ∀ r, ∃ ks, Gr g l (st ++ r) ks ((w.drop i).take (stA i es es.length - i)) r := by
  induction h with
  | nil i => intro _; exact ⟨Nat.le_refl _, fun r => ⟨[], by simp [stA]; exact .nil⟩⟩
  | @sym x l i es st K hx hw h ih =>
    intro hle
    rw [List.length_cons, stA_cons] at hle ⊢
    obtain ⟨h1, h2⟩ := ih hle
    refine ⟨by omega, fun r => ?_⟩
    obtain ⟨ks, hk⟩ := h2 r
    refine ⟨[iv .i64 (-1), .nl, .sl 1 (i64s [x])] :: ks, ?_⟩
    have e : (w.drop i).take (stA (i + 1) es es.length - i) = x :: (w.drop (i + 1)).take (stA (i + 1) es es.length - (i + 1)) := by
      rw [dropC (d := 0) (show i < w.length by omega), hw, show stA (i + 1) es es.length - i = (stA (i + 1) es es.length - (i + 1)) + 1 by omega, List.take_succ_cons]
    rw [e]
    exact .sym hx hk
  | @name x l i e es q c s1 s2 K1 K2 hx hq hc h1 h2 ih1 ih2 =>
    intro hle
    rw [List.length_cons, stA_cons] at hle ⊢
    obtain ⟨a1, a2⟩ := ih2 hle
    rw [last_stA (cutN_last (getD_cut hc))] at ih1
    obtain ⟨b1, b2⟩ := ih1 (by omega)
    refine ⟨by omega, fun r => ?_⟩
    obtain ⟨k2, hk2⟩ := a2 r
    obtain ⟨k1, hk1⟩ := b2 (s2 ++ r)
    refine ⟨[iv .i64 q, .sl 3 k1, .sl 1 (i64s ((w.drop i).take (e - i)))] :: k2, ?_⟩
    have ew : (w.drop i).take (stA e es es.length - i) = (w.drop i).take (e - i) ++ (w.drop e).take (stA e es es.length - e) := by
      rw [show stA e es es.length - i = (e - i) + (stA e es es.length - e) by omega, List.take_add, List.drop_drop, show i + (e - i) = e by omega]
    rw [ew, List.cons_append, List.cons_append, List.append_assoc]
    exact .name hx hq hk1 hk2
theorem tg_uncons {g : Grammar} {w : List Int} {x : Int} {l : List Int} {i : Nat} {es : List Nat} {st : List Int} {K : Nat} {ks : List (List D)} (h : Tg g w (x :: l) i es st K ks) : ∃ e es' s1 s2 n K2 k1 k2, es = e :: es' ∧ st = s1 ++ s2 ∧ ks = k1 :: k2 ∧ K = n * prT g w l e es' + K2 ∧ Tg g w [x] i [e] s1 n [k1] ∧ Tg g w l e es' s2 K2 k2 := by
  cases h with
  | @sym _ _ _ es st _ ks hx hw h => exact ⟨_, _, [], st, 0, K, _, _, rfl, rfl, rfl, by omega, .sym hx hw (.nil _), h⟩
  | @name _ _ _ e es q c s1 s2 w1 K1 K2 k1 k2 hx hq hc hw h1 h2 =>
    exact ⟨_, _, _, s2, _, K2, _, _, rfl, rfl, rfl, rfl, by have := Tg.name hx hq hc hw h1 (.nil e); rwa [List.append_nil, prT_nil, Nat.mul_one, Nat.add_zero] at this, h2⟩
theorem tg_row {g : Grammar} {w : List Int} {x : Int} {i e : Nat} {st : List Int} {K : Nat} {row : List D} (h : Tg g w [x] i [e] st K [row]) : ∃ q kk wd, row = [iv .i64 q, kk, .sl 1 (i64s wd)] ∧ i + wd.length = e ∧ (kk = .nl ∨ ∃ es, kk = .sl 3 es) := by
  cases h with
  | sym hx hw h => exact ⟨-1, .nl, [x], rfl, rfl, .inl rfl⟩
  | @name _ _ _ _ _ q c s1 s2 w1 K1 K2 k1 k2 hx hq hc hw h1 h2 => exact ⟨q, _, w1, rfl, hw, .inr ⟨_, rfl⟩⟩
theorem tg_at {g : Grammar} {w : List Int} : ∀ {l : List Int} {i : Nat} {es : List Nat} {st : List Int} {K : Nat} {ks : List (List D)}, Tg g w l i es st K ks → ∀ m, m < l.length → ∃ s1 n, Tg g w [l.getD m 0] (stA i es m) [es.getD m 0] s1 n [ks.getD m []]
  | [], _, _, _, _, _, _, m, hm => absurd hm (Nat.not_lt_zero _)
  | x :: l, i, es, st, K, ks, h, m, hm => by
    obtain ⟨e, es', s1, s2, n, K2, k1, k2, rfl, rfl, rfl, _, h1, h2⟩ := tg_uncons h
    cases m with
    | zero => exact ⟨s1, n, h1⟩
    | succ m => rw [stA_cons]; exact tg_at h2 m (by simpa using hm)
theorem Gr.split {g : Grammar} : ∀ {s1 s2 st w r : List Int} {ks : List (List D)}, Gr g (s1 ++ s2) st ks w r → ∃ k1 w1 m k2 w2, Gr g s1 st k1 w1 m ∧ Gr g s2 m k2 w2 r
  | [], s2, st, w, r, ks, h => ⟨[], [], st, ks, w, .nil, h⟩
  | x :: s1, s2, st, w, r, ks, h => by
    cases h with
    | sym hx h => obtain ⟨k1, w1, m, k2, w2, h1, h2⟩ := Gr.split h; exact ⟨_, _, m, k2, w2, .sym hx h1, h2⟩
    | name hx hq h0 h => obtain ⟨k1, w1, m, k2, w2, h1, h2⟩ := Gr.split h; exact ⟨_, _, m, k2, w2, .name hx hq h0 h1, h2⟩
theorem gr_sub {g : Grammar} {c : List Int} {i : Nat} {st w r w1 m : List Int} {k1 ks : List (List D)} (hi : i < c.length) (h1 : Gr g (c.take i) st k1 w1 m) (h : Gr g c st ks w r) : ∃ k2 w2 r2, Gr g [c.getD i 0] m k2 w2 r2 := by
  rw [← List.take_append_drop i c] at h
  obtain ⟨_, _, _, _, _, a1, a2⟩ := h.split
  obtain ⟨_, _, rfl⟩ := h1.det a1
  rw [dropC (d := 0) hi] at a2
  obtain ⟨k, w', r', _, _, b1, _⟩ := Gr.split (s1 := [c.getD i 0]) a2
  exact ⟨k, w', r', b1⟩
abbrev trZ : List D := [iv .i64 0, .nl, .nl]
def gwO (g : Grammar) (q : Int) (ks : List (List D)) (w : List Int) : List (Nat × Ob) := [(0, ⟨4, [graD g], true, false, .fix⟩), (1, ⟨3, [trZ], true, false, .fix⟩), (3, ⟨3, [[iv .i64 q, .own false 3 ks, .own false 1 (i64s w)]], true, true, .fix⟩)]
set_option maxRecDepth 10000 in
set_option maxHeartbeats 4000000 in
theorem grow_spec (g : Grammar) (hg : Valid g) (x : Int) (hx : 0 ≤ x ∧ x < g.k + g.n) (st : List Int) (hs : st.length ≤ 60) : Dm.Spec Try.prog 30 [.ag (graD g), iv .i64 x, .sl 1 (i64s st)] (fun d => (∃ q K w r, d = .tu [.ag [iv .i64 q, K, .sl 1 (i64s w)], .sl 1 (i64s r), .v (.bool true)] ∧ (K = .nl ∨ ∃ es, K = .sl 3 es) ∧ Gr g [x] st [[iv .i64 q, K, .sl 1 (i64s w)]] w r) ∨ (d = .tu [.ag trZ, .sl 1 [], .v (.bool false)] ∧ ∀ ks w r, ¬ Gr g [x] st ks w r)) := by
  refine spec_of_vc mixed Try.func30 c30 (by rw [show Try.f30.ntmps = _ from Try.ntmps30]; simp) ?_
  unfold m30 r30
  have hk := hg.k
  have hn := hg.n
  have hlen := hg.len
  by_cases hxk : x < g.k
  · repeat' first | ((first | refine Br.dec ?_ ?_ | refine Br.eqi ?_ ?_) <;> intro h <;> try (exfalso; omega)) | (simp (disch := first | omega | (simp only [vlen]; first | done | omega)) only [↓vAq, vBq, ↓reduceIte, Nat.reduceBEq, Nat.reduceEqDiff, Nat.reduceLT, Nat.reduceLeDiff, Nat.reduceAdd, Nat.reduceMul, Nat.reduceSub, reduceCtorEq, Int.reduceToNat]) | (refine Br.mk ?_ ?_ <;> intro h) | (refine BrN.mk (fun h => ?_) ?_) | (refine AltVC.mk ?_ ?_)
    exact fin_mk (.inl ⟨-1, .nl, [x], st, rfl, .inl rfl, .sym hxk .nil⟩)
  · cases hst : st with
    | nil =>
      repeat' first | ((first | refine Br.dec ?_ ?_ | refine Br.eqi ?_ ?_) <;> intro h <;> try (exfalso; omega)) | (simp (disch := first | omega | (simp only [vlen]; first | done | omega)) only [↓vAq, vBq, ↓reduceIte, Nat.reduceBEq, Nat.reduceEqDiff, Nat.reduceLT, Nat.reduceLeDiff, Nat.reduceAdd, Nat.reduceMul, Nat.reduceSub, reduceCtorEq, Int.reduceToNat]) | (refine Br.mk ?_ ?_ <;> intro h) | (refine BrN.mk (fun h => ?_) ?_) | (refine AltVC.mk ?_ ?_)
      exact fin_mk (.inr ⟨rfl, fun ks w r h => by cases h with | sym h1 _ => exact hxk h1⟩)
    | cons q st' =>
      have hst2 : st.length = st'.length + 1 := by rw [hst]; rfl
      rw [hst, List.length_cons] at hs
      have hq0 : (i64s (q :: st')).getD 0 [] = [iv .i64 q] := rfl
      have hno : ¬ RuleAt g x q → ∀ ks w r, ¬ Gr g [x] (q :: st') ks w r := fun h ks w r hp => by
        cases hp with
        | sym h1 _ => exact hxk h1
        | name _ h1 _ => exact h h1
      have hl : (q :: st').length = st'.length + 1 := rfl
      by_cases hq1 : q < 0
      · repeat' first | ((first | refine Br.dec ?_ ?_ | refine Br.eqi ?_ ?_) <;> intro h <;> try (exfalso; omega)) | (simp (disch := first | omega | (simp only [vlen]; first | done | omega)) only [hl, ↓vAq, vBq, ↓reduceIte, Nat.reduceBEq, Nat.reduceEqDiff, Nat.reduceLT, Nat.reduceLeDiff, Nat.reduceAdd, Nat.reduceMul, Nat.reduceSub, reduceCtorEq, Int.reduceToNat]) | (refine Br.mk ?_ ?_ <;> intro h) | (refine BrN.mk (fun h => ?_) ?_) | (refine AltVC.mk ?_ ?_)
        exact fin_mk (.inr ⟨rfl, hno fun h => by have := h.1; omega⟩)
      · by_cases hq2 : (g.rules.length : Int) ≤ q
        · repeat' first | ((first | refine Br.dec ?_ ?_ | refine Br.eqi ?_ ?_) <;> intro h <;> try (exfalso; omega)) | (simp (disch := first | omega | (simp only [vlen]; first | done | omega)) only [hl, ↓vAq, vBq, ↓reduceIte, Nat.reduceBEq, Nat.reduceEqDiff, Nat.reduceLT, Nat.reduceLeDiff, Nat.reduceAdd, Nat.reduceMul, Nat.reduceSub, reduceCtorEq, Int.reduceToNat]) | (refine Br.mk ?_ ?_ <;> intro h) | (refine BrN.mk (fun h => ?_) ?_) | (refine AltVC.mk ?_ ?_)
          exact fin_mk (.inr ⟨rfl, hno fun h => by have := h.2.1; omega⟩)
        · obtain ⟨p, rfl⟩ : ∃ p : Nat, q = p := ⟨q.toNat, by omega⟩
          have hm : g.rules.getD p default ∈ g.rules := getD_mem' (by omega)
          have hleft := hg.left _ hm
          have hlong := hg.long _ hm
          have hright := hg.right _ hm
          by_cases hq3 : (g.rules.getD p default).left = x - g.k
          · have hR : RuleAt g x p := ⟨by omega, by omega, by rw [Int.toNat_natCast]; exact hq3⟩
            have hlenw := fun {s0 t0 w0 r0 : List Int} {k0 : List (List D)} (h : Gr g s0 t0 k0 w0 r0) => And.intro (Gr.wlen (fun q hq => hg.long _ (getD_mem' (l := g.rules) (i := q) hq)) h) h.short
            repeat' first | ((first | refine Br.dec ?_ ?_ | refine Br.eqi ?_ ?_) <;> intro h <;> try (exfalso; omega)) | (simp (disch := first | omega | (simp only [vlen]; first | done | omega)) only [hl, ↓vAq, vBq, ↓reduceIte, Nat.reduceBEq, Nat.reduceEqDiff, Nat.reduceLT, Nat.reduceLeDiff, Nat.reduceAdd, Nat.reduceMul, Nat.reduceSub, reduceCtorEq, Int.reduceToNat]) | (refine Br.mk ?_ ?_ <;> intro h) | (refine BrN.mk (fun h => ?_) ?_) | (refine AltVC.mk ?_ ?_)
            refine LoopVC.nlo 3 0 1 3 ?_
            repeat' first | ((first | refine Br.dec ?_ ?_ | refine Br.eqi ?_ ?_) <;> intro h <;> try (exfalso; omega)) | (simp (disch := first | omega | (simp only [vlen]; first | done | omega)) only [hl, ↓vAq, vBq, ↓reduceIte, Nat.reduceBEq, Nat.reduceEqDiff, Nat.reduceLT, Nat.reduceLeDiff, Nat.reduceAdd, Nat.reduceMul, Nat.reduceSub, reduceCtorEq, Int.reduceToNat]) | (refine Br.mk ?_ ?_ <;> intro h) | (refine BrN.mk (fun h => ?_) ?_) | (refine AltVC.mk ?_ ?_)
            refine LoopVC.nlo 3 0 2 1 ?_
            repeat' first | ((first | refine Br.dec ?_ ?_ | refine Br.eqi ?_ ?_) <;> intro h <;> try (exfalso; omega)) | (simp (disch := first | omega | (simp only [vlen]; first | done | omega)) only [hl, ↓vAq, vBq, ↓reduceIte, Nat.reduceBEq, Nat.reduceEqDiff, Nat.reduceLT, Nat.reduceLeDiff, Nat.reduceAdd, Nat.reduceMul, Nat.reduceSub, reduceCtorEq, Int.reduceToNat]) | (refine Br.mk ?_ ?_ <;> intro h) | (refine BrN.mk (fun h => ?_) ?_) | (refine AltVC.mk ?_ ?_)
            refine LoopVC.mk (X := Nat × List Int × List (List D) × List Int) (fun y => [(2, .sl 1 (i64s y.2.1)), (71, iv .i64 y.1)]) (fun y => gwO g p y.2.2.1 y.2.2.2) (fun y => (g.rules.getD p default).right.length - y.1) (fun y => y.1 ≤ (g.rules.getD p default).right.length ∧ Gr g ((g.rules.getD p default).right.take y.1) st' y.2.2.1 y.2.2.2 y.2.1 ∧ (y.2.2.1.all fun e => e.all D.clo') = true ∧ y.2.2.1.length = y.1) (0, st', [], []) ⟨Nat.zero_le _, .nil, rfl, rfl⟩ ?_ ?_
            · unfold gwO
              (simp (disch := first | omega | (simp only [vlen]; first | done | omega)) only [Fits_u, Fits_m, Fits_nil, List.length_append, ↓vAq, vBq, ↓reduceIte, Nat.reduceBEq, Nat.reduceEqDiff, Nat.reduceLT, Nat.reduceLeDiff, Nat.reduceAdd, Nat.reduceMul, Nat.reduceSub, reduceCtorEq, Int.reduceToNat] <;> (repeat' first | rfl | apply And.intro))
              all_goals trace_state
            · rintro ⟨i, rest, ks, w⟩ ⟨h1, h2, h3, h4⟩
              unfold gwO
              simp only at h1 h2 h3 h4 ⊢
              by_cases hi : i < (g.rules.getD p default).right.length
              · have hxi := hright _ (getD_mem' (l := (g.rules.getD p default).right) (i := i) hi)
                have hl2 := hlenw h2
                rw [List.length_take] at hl2
                have hrec := grow_spec g hg ((g.rules.getD p default).right.getD i default) hxi rest (by omega)
                repeat' first | ((first | refine Br.dec ?_ ?_ | refine Br.eqi ?_ ?_) <;> intro h <;> try (exfalso; omega)) | (simp (disch := first | omega | (simp only [vlen]; first | done | omega)) only [hl, ↓vAq, vBq, ↓reduceIte, Nat.reduceBEq, Nat.reduceEqDiff, Nat.reduceLT, Nat.reduceLeDiff, Nat.reduceAdd, Nat.reduceMul, Nat.reduceSub, reduceCtorEq, Int.reduceToNat]) | (refine Br.mk ?_ ?_ <;> intro h) | (refine BrN.mk (fun h => ?_) ?_) | (refine AltVC.mk ?_ ?_)
                refine CallVC.mk hrec ?_
                rintro _ (⟨q', K, w', r', rfl, hK, hp⟩ | ⟨rfl, hn'⟩)
                · have hl3 := hlenw hp
                  rw [List.length_singleton] at hl3
                  have hnext : ((ks ++ [[iv .i64 q', K, .sl 1 (i64s w')]]).all fun e => e.all D.clo') = true → (ks ++ [[iv .i64 q', K, .sl 1 (i64s w')]]).length = i + 1 → i + 1 ≤ (g.rules.getD p default).right.length ∧ Gr g ((g.rules.getD p default).right.take (i + 1)) st' (ks ++ [[iv .i64 q', K, .sl 1 (i64s w')]]) (w ++ w') r' ∧ ((ks ++ [[iv .i64 q', K, .sl 1 (i64s w')]]).all fun e => e.all D.clo') = true ∧ (ks ++ [[iv .i64 q', K, .sl 1 (i64s w')]]).length = i + 1 := fun a1 a2 => ⟨by omega, by rw [take_succ_getD hi default]; exact h2.app hp, a1, a2⟩
                  rcases hK with rfl | ⟨es, rfl⟩
                  · have hks : ((ks ++ [[iv .i64 q', .nl, .sl 1 (i64s w')]]).all fun e => e.all D.clo') = true := by rw [List.all_append, h3]; simp [clo'_v, clo'_nl, clo'_sl]
                    repeat' first | ((first | refine Br.dec ?_ ?_ | refine Br.eqi ?_ ?_) <;> intro h <;> try (exfalso; omega)) | (simp (disch := first | omega | (simp only [vlen]; first | done | omega)) only [hl, ↓vAq, vBq, ↓reduceIte, Nat.reduceBEq, Nat.reduceEqDiff, Nat.reduceLT, Nat.reduceLeDiff, Nat.reduceAdd, Nat.reduceMul, Nat.reduceSub, reduceCtorEq, Int.reduceToNat]) | (refine Br.mk ?_ ?_ <;> intro h) | (refine BrN.mk (fun h => ?_) ?_) | (refine AltVC.mk ?_ ?_)
                    refine loopK.fold 5 3 0 1 false ?_
                    repeat' first | ((first | refine Br.dec ?_ ?_ | refine Br.eqi ?_ ?_) <;> intro h <;> try (exfalso; omega)) | (simp (disch := first | omega | (simp only [vlen]; first | done | omega)) only [hl, hks, ↓vAq, vBq, ↓reduceIte, Nat.reduceBEq, Nat.reduceEqDiff, Nat.reduceLT, Nat.reduceLeDiff, Nat.reduceAdd, Nat.reduceMul, Nat.reduceSub, reduceCtorEq, Int.reduceToNat]) | (refine Br.mk ?_ ?_ <;> intro h) | (refine BrN.mk (fun h => ?_) ?_) | (refine AltVC.mk ?_ ?_)
                    refine loopK.fold 7 3 0 2 true ?_
                    repeat' first | ((first | refine Br.dec ?_ ?_ | refine Br.eqi ?_ ?_) <;> intro h <;> try (exfalso; omega)) | (simp (disch := first | omega | (simp only [vlen]; first | done | omega)) only [hl, hks, ↓vAq, vBq, ↓reduceIte, Nat.reduceBEq, Nat.reduceEqDiff, Nat.reduceLT, Nat.reduceLeDiff, Nat.reduceAdd, Nat.reduceMul, Nat.reduceSub, reduceCtorEq, Int.reduceToNat]) | (refine Br.mk ?_ ?_ <;> intro h) | (refine BrN.mk (fun h => ?_) ?_) | (refine AltVC.mk ?_ ?_)
                    refine loopK.mk (i + 1, r', ks ++ [[iv .i64 q', .nl, .sl 1 (i64s w')]], w ++ w') (by simp (disch := first | omega | (simp only [vlen]; first | done | omega)) only [↓vAq, vBq, ↓reduceIte, Nat.reduceBEq, Nat.reduceEqDiff, Nat.reduceLT, Nat.reduceLeDiff, Nat.reduceAdd, Nat.reduceMul, Nat.reduceSub, reduceCtorEq, Int.reduceToNat]) (hnext (by rw [List.all_append, h3]; simp [clo'_v, clo'_nl, clo'_sl]) (by rw [List.length_append, h4]; rfl)) (by show (g.rules.getD p default).right.length - (i + 1) < (g.rules.getD p default).right.length - i; omega) ?_
                    (simp (disch := first | omega | (simp only [vlen]; first | done | omega)) only [Fits_u, Fits_m, Fits_nil, List.length_append, ↓vAq, vBq, ↓reduceIte, Nat.reduceBEq, Nat.reduceEqDiff, Nat.reduceLT, Nat.reduceLeDiff, Nat.reduceAdd, Nat.reduceMul, Nat.reduceSub, reduceCtorEq, Int.reduceToNat] <;> (repeat' first | rfl | apply And.intro))
                  · have hks : ((ks ++ [[iv .i64 q', .sl 3 es, .sl 1 (i64s w')]]).all fun e => e.all D.clo') = true := by rw [List.all_append, h3]; simp [clo'_v, clo'_nl, clo'_sl]
                    repeat' first | ((first | refine Br.dec ?_ ?_ | refine Br.eqi ?_ ?_) <;> intro h <;> try (exfalso; omega)) | (simp (disch := first | omega | (simp only [vlen]; first | done | omega)) only [hl, ↓vAq, vBq, ↓reduceIte, Nat.reduceBEq, Nat.reduceEqDiff, Nat.reduceLT, Nat.reduceLeDiff, Nat.reduceAdd, Nat.reduceMul, Nat.reduceSub, reduceCtorEq, Int.reduceToNat]) | (refine Br.mk ?_ ?_ <;> intro h) | (refine BrN.mk (fun h => ?_) ?_) | (refine AltVC.mk ?_ ?_)
                    refine loopK.fold 5 3 0 1 false ?_
                    repeat' first | ((first | refine Br.dec ?_ ?_ | refine Br.eqi ?_ ?_) <;> intro h <;> try (exfalso; omega)) | (simp (disch := first | omega | (simp only [vlen]; first | done | omega)) only [hl, hks, ↓vAq, vBq, ↓reduceIte, Nat.reduceBEq, Nat.reduceEqDiff, Nat.reduceLT, Nat.reduceLeDiff, Nat.reduceAdd, Nat.reduceMul, Nat.reduceSub, reduceCtorEq, Int.reduceToNat]) | (refine Br.mk ?_ ?_ <;> intro h) | (refine BrN.mk (fun h => ?_) ?_) | (refine AltVC.mk ?_ ?_)
                    refine loopK.fold 7 3 0 2 true ?_
                    repeat' first | ((first | refine Br.dec ?_ ?_ | refine Br.eqi ?_ ?_) <;> intro h <;> try (exfalso; omega)) | (simp (disch := first | omega | (simp only [vlen]; first | done | omega)) only [hl, hks, ↓vAq, vBq, ↓reduceIte, Nat.reduceBEq, Nat.reduceEqDiff, Nat.reduceLT, Nat.reduceLeDiff, Nat.reduceAdd, Nat.reduceMul, Nat.reduceSub, reduceCtorEq, Int.reduceToNat]) | (refine Br.mk ?_ ?_ <;> intro h) | (refine BrN.mk (fun h => ?_) ?_) | (refine AltVC.mk ?_ ?_)
                    refine loopK.mk (i + 1, r', ks ++ [[iv .i64 q', .sl 3 es, .sl 1 (i64s w')]], w ++ w') (by simp (disch := first | omega | (simp only [vlen]; first | done | omega)) only [↓vAq, vBq, ↓reduceIte, Nat.reduceBEq, Nat.reduceEqDiff, Nat.reduceLT, Nat.reduceLeDiff, Nat.reduceAdd, Nat.reduceMul, Nat.reduceSub, reduceCtorEq, Int.reduceToNat]) (hnext (by rw [List.all_append, h3]; simp [clo'_v, clo'_nl, clo'_sl]) (by rw [List.length_append, h4]; rfl)) (by show (g.rules.getD p default).right.length - (i + 1) < (g.rules.getD p default).right.length - i; omega) ?_
                    (simp (disch := first | omega | (simp only [vlen]; first | done | omega)) only [Fits_u, Fits_m, Fits_nil, List.length_append, ↓vAq, vBq, ↓reduceIte, Nat.reduceBEq, Nat.reduceEqDiff, Nat.reduceLT, Nat.reduceLeDiff, Nat.reduceAdd, Nat.reduceMul, Nat.reduceSub, reduceCtorEq, Int.reduceToNat] <;> (repeat' first | rfl | apply And.intro))
                · repeat' first | ((first | refine Br.dec ?_ ?_ | refine Br.eqi ?_ ?_) <;> intro h <;> try (exfalso; omega)) | (simp (disch := first | omega | (simp only [vlen]; first | done | omega)) only [hl, ↓vAq, vBq, ↓reduceIte, Nat.reduceBEq, Nat.reduceEqDiff, Nat.reduceLT, Nat.reduceLeDiff, Nat.reduceAdd, Nat.reduceMul, Nat.reduceSub, reduceCtorEq, Int.reduceToNat]) | (refine Br.mk ?_ ?_ <;> intro h) | (refine BrN.mk (fun h => ?_) ?_) | (refine AltVC.mk ?_ ?_)
                  refine fin_mk (.inr ⟨rfl, fun ks1 w1 r1 hp => ?_⟩)
                  cases hp with
                  | sym h5 _ => exact hxk h5
                  | name _ _ h5 =>
                    obtain ⟨k2, w2, r2, h6⟩ := gr_sub hi h2 h5
                    exact hn' _ _ _ h6
              · repeat' first | ((first | refine Br.dec ?_ ?_ | refine Br.eqi ?_ ?_) <;> intro h <;> try (exfalso; omega)) | (simp (disch := first | omega | (simp only [vlen]; first | done | omega)) only [hl, ↓vAq, vBq, ↓reduceIte, Nat.reduceBEq, Nat.reduceEqDiff, Nat.reduceLT, Nat.reduceLeDiff, Nat.reduceAdd, Nat.reduceMul, Nat.reduceSub, reduceCtorEq, Int.reduceToNat]) | (refine Br.mk ?_ ?_ <;> intro h) | (refine BrN.mk (fun h => ?_) ?_) | (refine AltVC.mk ?_ ?_)
                refine GhoV.frz 3 ?_
                repeat' first | ((first | refine Br.dec ?_ ?_ | refine Br.eqi ?_ ?_) <;> intro h <;> try (exfalso; omega)) | (simp (disch := first | omega | (simp only [vlen]; first | done | omega)) only [hl, ↓vAq, vBq, ↓reduceIte, Nat.reduceBEq, Nat.reduceEqDiff, Nat.reduceLT, Nat.reduceLeDiff, Nat.reduceAdd, Nat.reduceMul, Nat.reduceSub, reduceCtorEq, Int.reduceToNat]) | (refine Br.mk ?_ ?_ <;> intro h) | (refine BrN.mk (fun h => ?_) ?_) | (refine AltVC.mk ?_ ?_)
                refine GhoV.go ?_
                repeat' first | ((first | refine Br.dec ?_ ?_ | refine Br.eqi ?_ ?_) <;> intro h <;> try (exfalso; omega)) | (simp (disch := first | omega | (simp only [vlen]; first | done | omega)) only [hl, ↓vAq, vBq, ↓reduceIte, Nat.reduceBEq, Nat.reduceEqDiff, Nat.reduceLT, Nat.reduceLeDiff, Nat.reduceAdd, Nat.reduceMul, Nat.reduceSub, reduceCtorEq, Int.reduceToNat]) | (refine Br.mk ?_ ?_ <;> intro h) | (refine BrN.mk (fun h => ?_) ?_) | (refine AltVC.mk ?_ ?_)
                have e : i = (g.rules.getD p default).right.length := by omega
                rw [e, List.take_length] at h2
                refine fin_mk (.inl ⟨p, .sl 3 ks, w, rest, rfl, .inr ⟨ks, rfl⟩, ?_⟩)
                have := Gr.name (s := []) hxk hR h2 .nil
                rwa [List.append_nil] at this
          · repeat' first | ((first | refine Br.dec ?_ ?_ | refine Br.eqi ?_ ?_) <;> intro h <;> try (exfalso; omega)) | (simp (disch := first | omega | (simp only [vlen]; first | done | omega)) only [hl, ↓vAq, vBq, ↓reduceIte, Nat.reduceBEq, Nat.reduceEqDiff, Nat.reduceLT, Nat.reduceLeDiff, Nat.reduceAdd, Nat.reduceMul, Nat.reduceSub, reduceCtorEq, Int.reduceToNat]) | (refine Br.mk ?_ ?_ <;> intro h) | (refine BrN.mk (fun h => ?_) ?_) | (refine AltVC.mk ?_ ?_)
            exact fin_mk (.inr ⟨rfl, hno fun h => hq3 (by have := h.2.2; rwa [Int.toNat_natCast] at this)⟩)
termination_by st.length
decreasing_by all_goals first | omega | (simp only [List.length_cons]; omega) | (simp_wf; omega)
set_option maxRecDepth 10000 in
set_option maxHeartbeats 4000000 in
theorem equalI_spec (a b : List Int) (ha : a.length ≤ 1000000) (hb : b.length ≤ 1000000) : Dm.Spec Try.prog 31 [.sl 1 (i64s a), .sl 1 (i64s b)] (· = .v (.bool (decide (a = b)))) := by
  refine spec_of_vc mixed Try.func31 c31 (by rw [show Try.f31.ntmps = _ from Try.ntmps31]; simp) ?_
  unfold m31 r31
  repeat' first | ((first | refine Br.dec ?_ ?_ | refine Br.eqi ?_ ?_) <;> intro h <;> try (exfalso; omega)) | (simp (disch := first | omega | (simp only [vlen]; first | done | omega)) only [vmy, ↓vAq, vBq, ↓reduceIte, Nat.reduceBEq, Nat.reduceEqDiff, Nat.reduceLT, Nat.reduceLeDiff, Nat.reduceAdd, Nat.reduceMul, Nat.reduceSub, reduceCtorEq, Int.reduceToNat]) | (refine Br.mk ?_ ?_ <;> intro h) | (refine BrN.mk (fun h => ?_) ?_) | (refine AltVC.mk ?_ ?_)
  · refine LoopVC.mk (X := Nat) (fun i => [(13, iv .i64 i)]) (fun _ => []) (fun i => a.length - i) (fun i => i ≤ a.length ∧ ∀ j, j < i → a.getD j 0 = b.getD j 0) 0 ⟨by omega, by omega⟩ ?_ ?_
    · (simp (disch := first | omega | (simp only [vlen]; first | done | omega)) only [Fits_u, Fits_m, Fits_nil, List.length_append, vmy, ↓vAq, vBq, ↓reduceIte, Nat.reduceBEq, Nat.reduceEqDiff, Nat.reduceLT, Nat.reduceLeDiff, Nat.reduceAdd, Nat.reduceMul, Nat.reduceSub, reduceCtorEq, Int.reduceToNat] <;> (repeat' first | rfl | apply And.intro))
    · rintro i ⟨h1, h2⟩
      repeat' first | ((first | refine Br.dec ?_ ?_ | refine Br.eqi ?_ ?_) <;> intro h <;> try (exfalso; omega)) | (simp (disch := first | omega | (simp only [vlen]; first | done | omega)) only [vmy, ↓vAq, vBq, ↓reduceIte, Nat.reduceBEq, Nat.reduceEqDiff, Nat.reduceLT, Nat.reduceLeDiff, Nat.reduceAdd, Nat.reduceMul, Nat.reduceSub, reduceCtorEq, Int.reduceToNat]) | (refine Br.mk ?_ ?_ <;> intro h) | (refine BrN.mk (fun h => ?_) ?_) | (refine AltVC.mk ?_ ?_)
      · have e : a.getD i 0 = b.getD i 0 := by omega
        refine loopK.mk (i + 1) (by simp (disch := first | omega | (simp only [vlen]; first | done | omega)) only [↓vAq, vBq, ↓reduceIte, Nat.reduceBEq, Nat.reduceEqDiff, Nat.reduceLT, Nat.reduceLeDiff, Nat.reduceAdd, Nat.reduceMul, Nat.reduceSub, reduceCtorEq, Int.reduceToNat]) ⟨by omega, fun j hj => ?_⟩ (by omega) (by (simp (disch := first | omega | (simp only [vlen]; first | done | omega)) only [Fits_u, Fits_m, Fits_nil, List.length_append, vmy, ↓vAq, vBq, ↓reduceIte, Nat.reduceBEq, Nat.reduceEqDiff, Nat.reduceLT, Nat.reduceLeDiff, Nat.reduceAdd, Nat.reduceMul, Nat.reduceSub, reduceCtorEq, Int.reduceToNat] <;> (repeat' first | rfl | apply And.intro)))
        by_cases e2 : j = i
        · subst e2; exact e
        · exact h2 j (by omega)
      · exact fin_mk (vbEq (decide_eq_false (fun e => by subst e; omega)).symm)
      · refine fin_mk (vbEq (decide_eq_true ?_).symm)
        apply List.ext_getElem (by omega)
        intro j h3 h4
        have := h2 j (by omega)
        simpa [List.getD, h3, h4] using this
  · exact fin_mk (vbEq (by rw [decide_eq_false (fun e => by subst e; omega)]))
end Go.Proofs.Ytjekkbpdgnohcaa
