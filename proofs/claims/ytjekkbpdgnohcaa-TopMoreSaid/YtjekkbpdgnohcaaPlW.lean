/-
  pick.place: at which place a tree stands.
-/
import Derived.Test.YtjekkbpdgnohcaaMg17
namespace Go.Proofs.Ytjekkbpdgnohcaa
open Go.Dm
set_option linter.unusedSimpArgs false
set_option linter.unnecessarySimpa false
set_option linter.unusedVariables false
set_option linter.defProp false
def pcR (g : Grammar) (w : List Int) (K : Nat) (d : D) (o : List (Option Ob)) : Prop := ∃ L, d = iv .i64 K ∧ o = (coO g w L).map some ∧ MI g w L
def pcP (g : Grammar) (w : List Int) (x : Int) (i j : Nat) : Prop := ∀ st K row, Tg g w [x] i [j] st K [row] → ∀ L, MI g w L → Dm.SpecH Try.prog 32 [.ptr 0 6 0 0, .ag row, .ag [iv .i64 i, iv .i64 j]] (coO g w L) (pcR g w K)
theorem pc_fin {g : Grammar} {w : List Int} {s : S} {n : Nat} {L : List KE} {d : D} (h1 : 2 ≤ s.N) (h2 : fitL s 2 0 ((coO g w L).map some)) (hv : d.trim 2 = iv .i64 n) (hL : MI g w L) : FinH 2 (pcR g w n) s d :=
  finH_mk ((coO g w L).map some) (by simp [coO]) (by simpa [coO] using h1) (by simpa [coO] using h2) ⟨L, hv, rfl, hL⟩
set_option maxRecDepth 10000 in
set_option maxHeartbeats 4000000 in
theorem placeS_spec (g : Grammar) (w : List Int) (hc : CC g w) (x : Int) (i j : Nat) (l : List Int) (L : List KE) (hL : MI g w L) : Dm.SpecH Try.prog 32 [.ptr 0 6 0 0, .ag [iv .i64 (-1), .nl, .sl 1 (i64s l)], .ag [iv .i64 i, iv .i64 j]] (coO g w L) (pcR g w 0) := by
  refine specH_of_vc mixed Try.func32 c32 (by rw [show Try.f32.ntmps = _ from Try.ntmps32]; simp) ?_
  unfold m32 r32
  unfold coO
  repeat' first | ((first | refine Br.dec ?_ ?_ | refine Br.eqi ?_ ?_) <;> intro h <;> try (exfalso; omega)) | (simp (disch := first | omega | (simp only [vlen]; first | done | omega)) only [vmy, ↓vAq, vBq, ↓reduceIte, Nat.reduceBEq, Nat.reduceEqDiff, Nat.reduceLT, Nat.reduceLeDiff, Nat.reduceAdd, Nat.reduceMul, Nat.reduceSub, reduceCtorEq, Int.reduceToNat]) | (refine Br.mk ?_ ?_ <;> intro h) | (refine BrN.mk (fun h => ?_) ?_) | (refine AltVC.mk ?_ ?_)
  exact pc_fin (L := L) (by simp (disch := first | omega | (simp only [vlen]; first | done | omega)) only [vmy, ↓vAq, vBq, ↓reduceIte, Nat.reduceBEq, Nat.reduceEqDiff, Nat.reduceLT, Nat.reduceLeDiff, Nat.reduceAdd, Nat.reduceMul, Nat.reduceSub, reduceCtorEq, Int.reduceToNat]) (by unfold coO; simp (disch := first | omega | (simp only [vlen]; first | done | omega)) only [vmy, ↓vAq, vBq, ↓reduceIte, Nat.reduceBEq, Nat.reduceEqDiff, Nat.reduceLT, Nat.reduceLeDiff, Nat.reduceAdd, Nat.reduceMul, Nat.reduceSub, reduceCtorEq, Int.reduceToNat]) (by simp (disch := first | omega | (simp only [vlen]; first | done | omega)) only [vmy, ↓vAq, vBq, ↓reduceIte, Nat.reduceBEq, Nat.reduceEqDiff, Nat.reduceLT, Nat.reduceLeDiff, Nat.reduceAdd, Nat.reduceMul, Nat.reduceSub, reduceCtorEq, Int.reduceToNat]) hL
theorem nI_inj : ∀ {a b : List Nat}, nI a = nI b → a = b
  | [], [], _ => rfl
  | [], _ :: _, h => by simp [nI] at h
  | _ :: _, [], h => by simp [nI] at h
  | x :: a, y :: b, h => by
    simp only [nI, List.map_cons, List.cons.injEq] at h
    rw [show x = y by omega, nI_inj h.2]
def pwL (g : Grammar) (w : List Int) (L : List KE) (i j q : Nat) (s1 : List Int) (k1 : List (List D)) (w1 : List Int) (own : List Nat) : List (Nat × Ob) := [(0, ⟨6, [[iv .i64 g.k, iv .i64 g.n, iv .i64 g.start, .sl 2 (tbl rulD g.rules), .sl 1 (i64s w), .mp 1]], false, false, .fix⟩), (1, ⟨5, tbl keD L, true, false, .map [.i64, .i64, .i64, .i64] true false⟩),
  (2, ⟨1, [[.ptr 0 6 0 0]], false, false, .fix⟩), (3, ⟨3, [[iv .i64 q, .sl 3 k1, .sl 1 (i64s w1)]], true, false, .fix⟩), (4, ⟨2, [[iv .i64 i, iv .i64 j]], true, false, .fix⟩), (5, ⟨2, [[iv .i64 (g.rules.getD q default).left, .sl 1 (i64s (g.rules.getD q default).right)]], true, false, .fix⟩), (6, ⟨1, [[.own false 1 (i64s (nI own))]], true, true, .fix⟩)]
def pvL (g : Grammar) (w : List Int) (L : List KE) (i j q : Nat) (k1 : List (List D)) (w1 : List Int) (n : Nat) : List (Nat × Ob) := [(0, ⟨6, [[iv .i64 g.k, iv .i64 g.n, iv .i64 g.start, .sl 2 (tbl rulD g.rules), .sl 1 (i64s w), .mp 1]], false, false, .fix⟩), (1, ⟨5, tbl keD L, true, false, .map [.i64, .i64, .i64, .i64] true false⟩),
  (2, ⟨1, [[.ptr 0 6 0 0]], false, false, .fix⟩), (3, ⟨3, [[iv .i64 q, .sl 3 k1, .sl 1 (i64s w1)]], true, false, .fix⟩), (4, ⟨2, [[iv .i64 i, iv .i64 j]], true, false, .fix⟩), (5, ⟨2, [[iv .i64 (g.rules.getD q default).left, .sl 1 (i64s (g.rules.getD q default).right)]], true, false, .fix⟩), (7, ⟨1, [[iv .i64 n]], true, false, .fix⟩)]
set_option maxRecDepth 10000 in
set_option maxHeartbeats 4000000 in
theorem placeN_spec (g : Grammar) (w : List Int) (hc : CC g w) (x : Int) (hx : ¬ x < g.k) (hx2 : x < g.k + g.n) (i j : Nat) (hij : i ≤ j) (hj : j ≤ w.length) (hT : trees g w x i j ≤ 1099511627776) (ih : ∀ x' i' j', 0 ≤ x' → x' < g.k + g.n → i' ≤ j' → j' ≤ w.length → (x' < g.k ∨ j' - i' < j - i) → trees g w x' i' j' ≤ 1099511627776 → pcP g w x' i' j')
    (q c : Nat) (s1 w1 : List Int) (K1 : Nat) (k1 : List (List D)) (hRA : RuleAt g x q) (hcl : c < (cutN ((g.rules.getD q default).right.length - 1) i j).length) (h1 : Tg g w (g.rules.getD q default).right i ((cutN ((g.rules.getD q default).right.length - 1) i j).getD c []) s1 K1 k1) (L : List KE) (hL : MI g w L) : Dm.SpecH Try.prog 32 [.ptr 0 6 0 0, .ag [iv .i64 q, .sl 3 k1, .sl 1 (i64s w1)], .ag [iv .i64 i, iv .i64 j]] (coO g w L) (pcR g w (rlB g w x i j q + sumL (prT g w (g.rules.getD q default).right i) ((cutN ((g.rules.getD q default).right.length - 1) i j).take c) + K1)) := by
  refine specH_of_vc mixed Try.func32 c32 (by rw [show Try.f32.ntmps = _ from Try.ntmps32]; simp) ?_
  unfold m32 r32
  have hk := hc.v.k
  have hn := hc.v.n
  have hw := hc.w
  have hlen := hc.v.len
  have hql := rule_lt hRA
  have hm : g.rules.getD q default ∈ g.rules := getD_mem' hql
  have hlong := hc.v.long _ hm
  have hright := hc.v.right _ hm
  have hleft := hc.v.left _ hm
  have hlx : (g.rules.getD q default).left = x - g.k := by have := hRA.2.2; rwa [Int.toNat_natCast] at this
  have hne := right_ne hc.p hql
  have hrl : 0 < (g.rules.getD q default).right.length := List.length_pos_iff.2 hne
  have hrow := rlB_row hc.p (w := w) (i := i) (j := j) hx hRA
  have hcs := cut_sum (g := g) (w := w) _ i j hne
  have hmem := getD_cut hcl
  have hmono := cutN_mono hij hmem
  have hol := cutN_len hmem
  have hshort := cutN_short hmem
  have hkl := h1.len
  have hat := tg_at h1
  have hrow2 := sumL_take (f := prT g w (g.rules.getD q default).right i) (d := []) hcl
  have hlt := h1.tk.lt hc.p
  generalize hown : (cutN ((g.rules.getD q default).right.length - 1) i j).getD c [] = own at *
  have hkw : ∀ m, m < k1.length → ∃ q' kk wd, k1.getD m [] = [iv .i64 q', kk, .sl 1 (i64s wd)] ∧ stA i own m + wd.length = own.getD m 0 ∧ (kk = .nl ∨ ∃ es, kk = .sl 3 es) := fun m hm => by
    obtain ⟨_, _, h⟩ := hat m (by omega)
    exact tg_row h
  unfold coO
  repeat' first | ((first | refine Br.dec ?_ ?_ | refine Br.eqi ?_ ?_) <;> intro h <;> try (exfalso; omega)) | (simp (disch := first | omega | (simp only [vlen]; first | done | omega)) only [vmy, ↓vAq, vBq, ↓reduceIte, Nat.reduceBEq, Nat.reduceEqDiff, Nat.reduceLT, Nat.reduceLeDiff, Nat.reduceAdd, Nat.reduceMul, Nat.reduceSub, reduceCtorEq, Int.reduceToNat]) | (refine Br.mk ?_ ?_ <;> intro h) | (refine BrN.mk (fun h => ?_) ?_) | (refine AltVC.mk ?_ ?_)
  refine LoopVC.nlo 6 0 0 1 ?_
  repeat' first | ((first | refine Br.dec ?_ ?_ | refine Br.eqi ?_ ?_) <;> intro h <;> try (exfalso; omega)) | (simp (disch := first | omega | (simp only [vlen]; first | done | omega)) only [vmy, ↓vAq, vBq, ↓reduceIte, Nat.reduceBEq, Nat.reduceEqDiff, Nat.reduceLT, Nat.reduceLeDiff, Nat.reduceAdd, Nat.reduceMul, Nat.reduceSub, reduceCtorEq, Int.reduceToNat]) | (refine Br.mk ?_ ?_ <;> intro h) | (refine BrN.mk (fun h => ?_) ?_) | (refine AltVC.mk ?_ ?_)
  refine LoopVC.mk (X := Nat) (fun m => [(9, iv .i64 (stA i own m)), (35, iv .i64 m)]) (fun m => pwL g w L i j q s1 k1 w1 (own.take m)) (fun m => k1.length - m) (fun m => m ≤ k1.length) 0 (Nat.zero_le _) ?_ ?_
  · unfold pwL
    simp only [List.take_zero, show stA i own 0 = i from rfl]
    (simp (disch := first | omega | (simp only [vlen]; first | done | omega)) only [Fits_u, Fits_m, Fits_nil, List.length_append, vmy, ↓vAq, vBq, ↓reduceIte, Nat.reduceBEq, Nat.reduceEqDiff, Nat.reduceLT, Nat.reduceLeDiff, Nat.reduceAdd, Nat.reduceMul, Nat.reduceSub, reduceCtorEq, Int.reduceToNat] <;> (repeat' first | rfl | apply And.intro))
    all_goals first | rfl | trace_state
  · intro m hmk
    unfold pwL
    have htl : (own.take m).length = m := by rw [List.length_take]; omega
    by_cases hml : m < k1.length
    · obtain ⟨q', kk, wd, hr, hwd, hkk⟩ := hkw m hml
      have hgm := hmono.get (k := m) (by omega)
      have hnx : List.take (List.take m own).length (nI (List.take m own)) ++ [(stA i own m : Int) + wd.length] = nI (own.take (m + 1)) := by
        rw [List.take_of_length_le (by rw [nI_len]; exact Nat.le_refl _), take_succ_getD (show m < own.length by omega) 0]
        simp only [nI, List.map_append, List.map_cons, List.map_nil]
        rw [show (stA i own m : Int) + wd.length = ((own.getD m 0 : Nat) : Int) by omega]
      have hnl : (nI (own.take (m + 1))).length = m + 1 := by rw [nI_len, List.length_take]; omega
      have hst : stA i own (m + 1) = own.getD m 0 := stA_succ
      have hst2 : (stA i own m : Int) + wd.length = ((own.getD m 0 : Nat) : Int) := by omega
      rcases hkk with rfl | ⟨es, rfl⟩
      · repeat' first | ((first | refine Br.dec ?_ ?_ | refine Br.eqi ?_ ?_) <;> intro h <;> try (exfalso; omega)) | (simp (disch := first | omega | (simp only [vlen]; first | done | omega)) only [vmy, hr, hnx, hnl, ↓vAq, vBq, ↓reduceIte, Nat.reduceBEq, Nat.reduceEqDiff, Nat.reduceLT, Nat.reduceLeDiff, Nat.reduceAdd, Nat.reduceMul, Nat.reduceSub, reduceCtorEq, Int.reduceToNat]) | (refine Br.mk ?_ ?_ <;> intro h) | (refine BrN.mk (fun h => ?_) ?_) | (refine AltVC.mk ?_ ?_)
        refine loopK.fold 8 6 0 0 true ?_
        repeat' first | ((first | refine Br.dec ?_ ?_ | refine Br.eqi ?_ ?_) <;> intro h <;> try (exfalso; omega)) | (simp (disch := first | omega | (simp only [vlen]; first | done | omega)) only [vmy, hr, hnx, hnl, ↓vAq, vBq, ↓reduceIte, Nat.reduceBEq, Nat.reduceEqDiff, Nat.reduceLT, Nat.reduceLeDiff, Nat.reduceAdd, Nat.reduceMul, Nat.reduceSub, reduceCtorEq, Int.reduceToNat]) | (refine Br.mk ?_ ?_ <;> intro h) | (refine BrN.mk (fun h => ?_) ?_) | (refine AltVC.mk ?_ ?_)
        refine loopK.mk (m + 1) (by simp (disch := first | omega | (simp only [vlen]; first | done | omega)) only [↓vAq, vBq, ↓reduceIte, Nat.reduceBEq, Nat.reduceEqDiff, Nat.reduceLT, Nat.reduceLeDiff, Nat.reduceAdd, Nat.reduceMul, Nat.reduceSub, reduceCtorEq, Int.reduceToNat]) (by omega) (by omega) ?_
        simp only [hst]
        (simp (disch := first | omega | (simp only [vlen]; first | done | omega)) only [Fits_u, Fits_m, Fits_nil, List.length_append, vmy, hst2, ↓vAq, vBq, ↓reduceIte, Nat.reduceBEq, Nat.reduceEqDiff, Nat.reduceLT, Nat.reduceLeDiff, Nat.reduceAdd, Nat.reduceMul, Nat.reduceSub, reduceCtorEq, Int.reduceToNat] <;> (repeat' first | rfl | apply And.intro))
        all_goals first | rfl | trace_state
      · repeat' first | ((first | refine Br.dec ?_ ?_ | refine Br.eqi ?_ ?_) <;> intro h <;> try (exfalso; omega)) | (simp (disch := first | omega | (simp only [vlen]; first | done | omega)) only [vmy, hr, hnx, hnl, ↓vAq, vBq, ↓reduceIte, Nat.reduceBEq, Nat.reduceEqDiff, Nat.reduceLT, Nat.reduceLeDiff, Nat.reduceAdd, Nat.reduceMul, Nat.reduceSub, reduceCtorEq, Int.reduceToNat]) | (refine Br.mk ?_ ?_ <;> intro h) | (refine BrN.mk (fun h => ?_) ?_) | (refine AltVC.mk ?_ ?_)
        refine loopK.fold 8 6 0 0 true ?_
        repeat' first | ((first | refine Br.dec ?_ ?_ | refine Br.eqi ?_ ?_) <;> intro h <;> try (exfalso; omega)) | (simp (disch := first | omega | (simp only [vlen]; first | done | omega)) only [vmy, hr, hnx, hnl, ↓vAq, vBq, ↓reduceIte, Nat.reduceBEq, Nat.reduceEqDiff, Nat.reduceLT, Nat.reduceLeDiff, Nat.reduceAdd, Nat.reduceMul, Nat.reduceSub, reduceCtorEq, Int.reduceToNat]) | (refine Br.mk ?_ ?_ <;> intro h) | (refine BrN.mk (fun h => ?_) ?_) | (refine AltVC.mk ?_ ?_)
        refine loopK.mk (m + 1) (by simp (disch := first | omega | (simp only [vlen]; first | done | omega)) only [↓vAq, vBq, ↓reduceIte, Nat.reduceBEq, Nat.reduceEqDiff, Nat.reduceLT, Nat.reduceLeDiff, Nat.reduceAdd, Nat.reduceMul, Nat.reduceSub, reduceCtorEq, Int.reduceToNat]) (by omega) (by omega) ?_
        simp only [hst]
        (simp (disch := first | omega | (simp only [vlen]; first | done | omega)) only [Fits_u, Fits_m, Fits_nil, List.length_append, vmy, hst2, ↓vAq, vBq, ↓reduceIte, Nat.reduceBEq, Nat.reduceEqDiff, Nat.reduceLT, Nat.reduceLeDiff, Nat.reduceAdd, Nat.reduceMul, Nat.reduceSub, reduceCtorEq, Int.reduceToNat] <;> (repeat' first | rfl | apply And.intro))
        all_goals first | rfl | trace_state
    · have hme : own.take m = own := List.take_of_length_le (by omega)
      rw [hme]
      repeat' first | ((first | refine Br.dec ?_ ?_ | refine Br.eqi ?_ ?_) <;> intro h <;> try (exfalso; omega)) | (simp (disch := first | omega | (simp only [vlen]; first | done | omega)) only [vmy, ↓vAq, vBq, ↓reduceIte, Nat.reduceBEq, Nat.reduceEqDiff, Nat.reduceLT, Nat.reduceLeDiff, Nat.reduceAdd, Nat.reduceMul, Nat.reduceSub, reduceCtorEq, Int.reduceToNat]) | (refine Br.mk ?_ ?_ <;> intro h) | (refine BrN.mk (fun h => ?_) ?_) | (refine AltVC.mk ?_ ?_)
      refine LoopVC.mk (X := Nat × List KE) (fun y => [(51, iv .i64 y.1)]) (fun y => pwL g w y.2 i j q s1 k1 w1 own ++ [(7, ⟨1, [[iv .i64 (rlB g w x i j y.1)]], true, false, .fix⟩)]) (fun y => q - y.1) (fun y => y.1 ≤ q ∧ MI g w y.2) (0, L) ⟨Nat.zero_le _, hL⟩ ?_ ?_
      · unfold pwL
        (simp (disch := first | omega | (simp only [vlen]; first | done | omega)) only [Fits_u, Fits_m, Fits_nil, List.length_append, vmy, ↓vAq, vBq, ↓reduceIte, Nat.reduceBEq, Nat.reduceEqDiff, Nat.reduceLT, Nat.reduceLeDiff, Nat.reduceAdd, Nat.reduceMul, Nat.reduceSub, reduceCtorEq, Int.reduceToNat] <;> (repeat' first | rfl | apply And.intro))
        all_goals first | rfl | trace_state
      · rintro ⟨k, Lx⟩ ⟨hkq, hLx⟩
        simp only at hkq hLx ⊢
        unfold pwL
        have hk1 := @rlB_succ g w x i j k
        have hk2 : rlB g w x i j (k + 1) ≤ trees g w x i j := by rw [trees_name hc.p hx]; exact nsum_mono (f := ruleV g w x i j) (by omega)
        by_cases hkl2 : k < q
        · have hkr2 := List.length_pos_iff.2 (right_ne hc.p (show k < g.rules.length by omega))
          by_cases hlk : (g.rules.getD k default).left = x - g.k
          · have hru : ruleV g w x i j k = rowN g w (g.rules.getD k default).right i j := by unfold ruleV; rw [if_pos hlk]
            have hcp : cp (rowN g w (g.rules.getD k default).right i j) = rowN g w (g.rules.getD k default).right i j := by unfold cp; omega
            have hrw := rowC_spec g w hc k 0 i j (by omega) hkr2 hij hj Lx hLx
            rw [List.drop_zero] at hrw
            repeat' first | ((first | refine Br.dec ?_ ?_ | refine Br.eqi ?_ ?_) <;> intro h <;> try (exfalso; omega)) | (simp (disch := first | omega | (simp only [vlen]; first | done | omega)) only [vmy, ↓vAq, vBq, ↓reduceIte, Nat.reduceBEq, Nat.reduceEqDiff, Nat.reduceLT, Nat.reduceLeDiff, Nat.reduceAdd, Nat.reduceMul, Nat.reduceSub, reduceCtorEq, Int.reduceToNat]) | (refine Br.mk ?_ ?_ <;> intro h) | (refine BrN.mk (fun h => ?_) ?_) | (refine AltVC.mk ?_ ?_)
            refine DrawVC.t ?_
            repeat' first | ((first | refine Br.dec ?_ ?_ | refine Br.eqi ?_ ?_) <;> intro h <;> try (exfalso; omega)) | (simp (disch := first | omega | (simp only [vlen]; first | done | omega)) only [vmy, ↓vAq, vBq, ↓reduceIte, Nat.reduceBEq, Nat.reduceEqDiff, Nat.reduceLT, Nat.reduceLeDiff, Nat.reduceAdd, Nat.reduceMul, Nat.reduceSub, reduceCtorEq, Int.reduceToNat]) | (refine Br.mk ?_ ?_ <;> intro h) | (refine BrN.mk (fun h => ?_) ?_) | (refine AltVC.mk ?_ ?_)
            all_goals refine CallVC.lendE [0, 1] [.ptr 0 6 0 0, iv .i64 k, iv .i64 (0 : Nat), .ag [iv .i64 i, iv .i64 j]] (coO g w Lx) hrw (by simp) (by rfl) (by unfold coO; (simp (disch := first | omega | (simp only [vlen]; first | done | omega)) only [vle0, ↓vAq, vBq, ↓reduceIte, Nat.reduceBEq, Nat.reduceEqDiff, Nat.reduceLT, Nat.reduceLeDiff, Nat.reduceAdd, Nat.reduceMul, Nat.reduceSub, reduceCtorEq, Int.reduceToNat] <;> (repeat' first | rfl | apply And.intro))) ?_
            all_goals rintro _ _ ⟨L2, rfl, rfl, hL2⟩
            all_goals unfold coO
            all_goals rw [hcp, ← hru]
            all_goals (repeat' first | ((first | refine Br.dec ?_ ?_ | refine Br.eqi ?_ ?_) <;> intro h <;> try (exfalso; omega)) | (simp (disch := first | omega | (simp only [vlen]; first | done | omega)) only [vmy, ↓vAq, vBq, ↓reduceIte, Nat.reduceBEq, Nat.reduceEqDiff, Nat.reduceLT, Nat.reduceLeDiff, Nat.reduceAdd, Nat.reduceMul, Nat.reduceSub, reduceCtorEq, Int.reduceToNat]) | (refine Br.mk ?_ ?_ <;> intro h) | (refine BrN.mk (fun h => ?_) ?_) | (refine AltVC.mk ?_ ?_))
            all_goals refine loopK.mk (k + 1, L2) (by simp (disch := first | omega | (simp only [vlen]; first | done | omega)) only [↓vAq, vBq, ↓reduceIte, Nat.reduceBEq, Nat.reduceEqDiff, Nat.reduceLT, Nat.reduceLeDiff, Nat.reduceAdd, Nat.reduceMul, Nat.reduceSub, reduceCtorEq, Int.reduceToNat]) ⟨by show k + 1 ≤ q; omega, hL2⟩ (by show q - (k + 1) < q - k; omega) ?_
            all_goals rw [hk1]
            all_goals ((simp (disch := first | omega | (simp only [vlen]; first | done | omega)) only [Fits_u, Fits_m, Fits_nil, List.length_append, vmy, ↓vAq, vBq, ↓reduceIte, Nat.reduceBEq, Nat.reduceEqDiff, Nat.reduceLT, Nat.reduceLeDiff, Nat.reduceAdd, Nat.reduceMul, Nat.reduceSub, reduceCtorEq, Int.reduceToNat] <;> (repeat' first | rfl | apply And.intro)))
            all_goals first | rfl | trace_state
          · have hru : ruleV g w x i j k = 0 := by unfold ruleV; rw [if_neg hlk]
            repeat' first | ((first | refine Br.dec ?_ ?_ | refine Br.eqi ?_ ?_) <;> intro h <;> try (exfalso; omega)) | (simp (disch := first | omega | (simp only [vlen]; first | done | omega)) only [vmy, ↓vAq, vBq, ↓reduceIte, Nat.reduceBEq, Nat.reduceEqDiff, Nat.reduceLT, Nat.reduceLeDiff, Nat.reduceAdd, Nat.reduceMul, Nat.reduceSub, reduceCtorEq, Int.reduceToNat]) | (refine Br.mk ?_ ?_ <;> intro h) | (refine BrN.mk (fun h => ?_) ?_) | (refine AltVC.mk ?_ ?_)
            refine loopK.mk (k + 1, Lx) (by simp (disch := first | omega | (simp only [vlen]; first | done | omega)) only [↓vAq, vBq, ↓reduceIte, Nat.reduceBEq, Nat.reduceEqDiff, Nat.reduceLT, Nat.reduceLeDiff, Nat.reduceAdd, Nat.reduceMul, Nat.reduceSub, reduceCtorEq, Int.reduceToNat]) ⟨by show k + 1 ≤ q; omega, hLx⟩ (by show q - (k + 1) < q - k; omega) ?_
            rw [hk1, hru, Nat.add_zero]
            (simp (disch := first | omega | (simp only [vlen]; first | done | omega)) only [Fits_u, Fits_m, Fits_nil, List.length_append, vmy, ↓vAq, vBq, ↓reduceIte, Nat.reduceBEq, Nat.reduceEqDiff, Nat.reduceLT, Nat.reduceLeDiff, Nat.reduceAdd, Nat.reduceMul, Nat.reduceSub, reduceCtorEq, Int.reduceToNat] <;> (repeat' first | rfl | apply And.intro))
            all_goals first | rfl | trace_state
        · have hkq2 : k = q := by omega
          subst hkq2
          repeat' first | ((first | refine Br.dec ?_ ?_ | refine Br.eqi ?_ ?_) <;> intro h <;> try (exfalso; omega)) | (simp (disch := first | omega | (simp only [vlen]; first | done | omega)) only [vmy, ↓vAq, vBq, ↓reduceIte, Nat.reduceBEq, Nat.reduceEqDiff, Nat.reduceLT, Nat.reduceLeDiff, Nat.reduceAdd, Nat.reduceMul, Nat.reduceSub, reduceCtorEq, Int.reduceToNat]) | (refine Br.mk ?_ ?_ <;> intro h) | (refine BrN.mk (fun h => ?_) ?_) | (refine AltVC.mk ?_ ?_)
          refine CallVC.frz 6 ?_
          repeat' first | ((first | refine Br.dec ?_ ?_ | refine Br.eqi ?_ ?_) <;> intro h <;> try (exfalso; omega)) | (simp (disch := first | omega | (simp only [vlen]; first | done | omega)) only [vmy, ↓vAq, vBq, ↓reduceIte, Nat.reduceBEq, Nat.reduceEqDiff, Nat.reduceLT, Nat.reduceLeDiff, Nat.reduceAdd, Nat.reduceMul, Nat.reduceSub, reduceCtorEq, Int.reduceToNat]) | (refine Br.mk ?_ ?_ <;> intro h) | (refine BrN.mk (fun h => ?_) ?_) | (refine AltVC.mk ?_ ?_)
          refine CallVC.eq (cutsC_spec _ i j) ?_
          repeat' first | ((first | refine Br.dec ?_ ?_ | refine Br.eqi ?_ ?_) <;> intro h <;> try (exfalso; omega)) | (simp (disch := first | omega | (simp only [vlen]; first | done | omega)) only [vmy, ↓vAq, vBq, ↓reduceIte, Nat.reduceBEq, Nat.reduceEqDiff, Nat.reduceLT, Nat.reduceLeDiff, Nat.reduceAdd, Nat.reduceMul, Nat.reduceSub, reduceCtorEq, Int.reduceToNat]) | (refine Br.mk ?_ ?_ <;> intro h) | (refine BrN.mk (fun h => ?_) ?_) | (refine AltVC.mk ?_ ?_)
          refine RfVC.mk (cutRows ((g.rules.getD k default).right.length - 1) i j) (fun _ => []) (fun y : List KE × Nat => pvL g w y.1 i j k k1 w1 y.2) (fun m y => MI g w y.1 ∧ m ≤ c ∧ y.2 = rlB g w x i j k + sumL (prT g w (g.rules.getD k default).right i) ((cutN ((g.rules.getD k default).right.length - 1) i j).take m)) (Lx, rlB g w x i j k) ?_ ?_ ⟨hLx, Nat.zero_le _, by simp only [List.take_zero, sumL]; omega⟩ ?_ (fun _ => rfl) ?_ ?_
          · repeat' first | ((first | refine Br.dec ?_ ?_ | refine Br.eqi ?_ ?_) <;> intro h <;> try (exfalso; omega)) | (simp (disch := first | omega | (simp only [vlen]; first | done | omega)) only [vmy, ↓vAq, vBq, ↓reduceIte, Nat.reduceBEq, Nat.reduceEqDiff, Nat.reduceLT, Nat.reduceLeDiff, Nat.reduceAdd, Nat.reduceMul, Nat.reduceSub, reduceCtorEq, Int.reduceToNat]) | (refine Br.mk ?_ ?_ <;> intro h) | (refine BrN.mk (fun h => ?_) ?_) | (refine AltVC.mk ?_ ?_)
            have := cuts_it ((g.rules.getD k default).right.length - 1) i j (by omega) (by omega) (by omega)
            rw [show (g.rules.getD k default).right.length - 1 + 1 = (g.rules.getD k default).right.length by omega] at this
            exact IterD.mk (by simp only [List.all_cons, List.all_nil, Bool.and_true]; unfold D.cl; rw [alls_leaf rfl, alls_leaf rfl]; rfl) this
          · intro row hrow'
            obtain ⟨c, _, rfl⟩ := List.mem_map.1 hrow'
            rfl
          · unfold pvL
            (simp (disch := first | omega | (simp only [vlen]; first | done | omega)) only [Fits_u, Fits_m, Fits_nil, List.length_append, vmy, ↓vAq, vBq, ↓reduceIte, Nat.reduceBEq, Nat.reduceEqDiff, Nat.reduceLT, Nat.reduceLeDiff, Nat.reduceAdd, Nat.reduceMul, Nat.reduceSub, reduceCtorEq, Int.reduceToNat] <;> (repeat' first | rfl | apply And.intro))
            all_goals first | rfl | trace_state
          · rintro m ⟨Ly, n'⟩ hml ⟨hLy, hmc, hn'⟩
            rw [cutRows_len] at hml
            simp only at hLy hmc hn' ⊢
            rw [cutRows_get hml]
            unfold pvL
            have hcm := getD_cut hml
            have hcl2 := cutN_len hcm
            have heq := equalI_spec (nI ((cutN ((g.rules.getD k default).right.length - 1) i j).getD m [])) (nI own) (by rw [nI_len]; omega) (by rw [nI_len]; omega)
            by_cases hme : m = c
            · subst hme
              rw [hown] at heq ⊢
              rw [decide_eq_true rfl] at heq
              repeat' first | ((first | refine Br.dec ?_ ?_ | refine Br.eqi ?_ ?_) <;> intro h <;> try (exfalso; omega)) | (simp (disch := first | omega | (simp only [vlen]; first | done | omega)) only [vmy, ↓vAq, vBq, ↓reduceIte, Nat.reduceBEq, Nat.reduceEqDiff, Nat.reduceLT, Nat.reduceLeDiff, Nat.reduceAdd, Nat.reduceMul, Nat.reduceSub, reduceCtorEq, Int.reduceToNat]) | (refine Br.mk ?_ ?_ <;> intro h) | (refine BrN.mk (fun h => ?_) ?_) | (refine AltVC.mk ?_ ?_)
              refine CallVC.eq heq ?_
              repeat' first | ((first | refine Br.dec ?_ ?_ | refine Br.eqi ?_ ?_) <;> intro h <;> try (exfalso; omega)) | (simp (disch := first | omega | (simp only [vlen]; first | done | omega)) only [vmy, ↓vAq, vBq, ↓reduceIte, Nat.reduceBEq, Nat.reduceEqDiff, Nat.reduceLT, Nat.reduceLeDiff, Nat.reduceAdd, Nat.reduceMul, Nat.reduceSub, reduceCtorEq, Int.reduceToNat]) | (refine Br.mk ?_ ?_ <;> intro h) | (refine BrN.mk (fun h => ?_) ?_) | (refine AltVC.mk ?_ ?_)
              have hown1 : ∀ e, e ∈ own → e ≤ 1000 := fun e he => by
                obtain ⟨k, hk, rfl⟩ := List.getElem_of_mem he
                have := (hmono.get hk).2
                rw [List.getD_eq_getElem?_getD, List.getElem?_eq_getElem hk] at this
                exact Nat.le_trans this (by omega)
              refine CallVC.eq (ranges_spec i own (by omega) (by omega) hown1) ?_
              repeat' first | ((first | refine Br.dec ?_ ?_ | refine Br.eqi ?_ ?_) <;> intro h <;> try (exfalso; omega)) | (simp (disch := first | omega | (simp only [vlen]; first | done | omega)) only [vmy, ↓vAq, vBq, ↓reduceIte, Nat.reduceBEq, Nat.reduceEqDiff, Nat.reduceLT, Nat.reduceLeDiff, Nat.reduceAdd, Nat.reduceMul, Nat.reduceSub, reduceCtorEq, Int.reduceToNat]) | (refine Br.mk ?_ ?_ <;> intro h) | (refine BrN.mk (fun h => ?_) ?_) | (refine AltVC.mk ?_ ?_)
              refine LoopVC.mk (X := Nat × Nat × List KE) (fun y => [(99, iv .i64 y.1)]) (fun y => pvL g w y.2.2 i j k k1 w1 y.2.1) (fun y => k1.length - y.1) (fun y => y.1 ≤ k1.length ∧ MI g w y.2.2 ∧ ∃ st2 K2, Tg g w ((g.rules.getD k default).right.drop y.1) (stA i own y.1) (own.drop y.1) st2 K2 (k1.drop y.1) ∧ y.2.1 + K2 = n' + K1) (0, n', Ly) ⟨Nat.zero_le _, hLy, s1, K1, h1, rfl⟩ ?_ ?_
              · unfold pvL
                (simp (disch := first | omega | (simp only [vlen]; first | done | omega)) only [Fits_u, Fits_m, Fits_nil, List.length_append, vmy, ↓vAq, vBq, ↓reduceIte, Nat.reduceBEq, Nat.reduceEqDiff, Nat.reduceLT, Nat.reduceLeDiff, Nat.reduceAdd, Nat.reduceMul, Nat.reduceSub, reduceCtorEq, Int.reduceToNat] <;> (repeat' first | rfl | apply And.intro))
                all_goals first | rfl | trace_state
              · rintro ⟨u, n2, Lz⟩ ⟨huk, hLz, st2, K2, hTg, hn2⟩
                simp only at huk hLz hTg hn2 ⊢
                unfold pvL
                by_cases hul : u < k1.length
                · have hur : u < (g.rules.getD k default).right.length := by omega
                  have huo : u < own.length := by omega
                  rw [dropC (d := 0) hur, dropC (d := 0) huo, dropC (d := []) hul] at hTg
                  obtain ⟨e, es', s1', s2', nn, K2', k1', k2', he, rfl, hkk, hK, hT1, hT2⟩ := tg_uncons hTg
                  simp only [List.cons.injEq] at he hkk
                  obtain ⟨rfl, rfl⟩ := he
                  obtain ⟨rfl, rfl⟩ := hkk
                  have hltn := hT1.tk.lt hc.p
                  rw [prT_cons, prT_nil, Nat.mul_one] at hltn
                  have hlt2 := hTg.tk.lt hc.p
                  obtain ⟨q', kk, wd, hrr, hwd, hkd⟩ := tg_row hT1
                  have hsA : stA i own (u + 1) = own.getD u 0 := stA_succ
                  have hgm := hmono.get huo
                  have hmd := hmono.drop (k := u + 1) (by omega)
                  have hxm := hright _ (getD_mem (l := (g.rules.getD k default).right) (i := u) (d := 0) hur)
                  have htk : List.take own.length (rgs i own) = rgs i own := List.take_of_length_le (by rw [rgs_len]; exact Nat.le_refl _)
                  have hrd := @rgs_drop own i (u + 1) (by omega)
                  have hrg := @rgs_get own i u huo
                  have hp0 : prT g w (g.rules.getD k default).right i own ≠ 0 := by omega
                  obtain ⟨T, P, Q, eT, eP, eQ, eP2, eQ2, hT0, hTB, hP0, hPT, hPB, hQ0, hTQ, hQB⟩ := prT_fac (B := 1099511627776) (by omega) hur hp0 (by omega)
                  rw [← hsA] at hT2 hK
                  rw [eQ] at hK
                  rw [eT] at hltn
                  have hcQ : cp Q = Q := by unfold cp; omega
                  have hmany := fun L' hL' => many_spec g w hc ((g.rules.getD k default).right.drop (u + 1)) (stA i own (u + 1)) j (own.drop (u + 1)) (by rw [List.length_drop, List.length_drop]; omega) (by rw [List.length_drop]; omega) (fun y hy => hright y (List.mem_of_mem_drop hy)) hmd hj L' hL'
                  rw [eQ] at hmany
                  have hsm : (g.rules.getD k default).right.getD u 0 < g.k ∨ own.getD u 0 - stA i own u < j - i := by
                    by_cases h1 : (g.rules.getD k default).right.length = 1
                    · left
                      have h2 := hc.p _ hm
                      refine h2.2 _ ?_
                      match hr : (g.rules.getD k default).right, h1 with
                      | [s], _ =>
                        rw [hr] at hur
                        have : u = 0 := by simpa using hur
                        subst this; rfl
                    · right
                      exact hshort u huo (by omega)
                  have hpl := ih _ (stA i own u) (own.getD u 0) hxm.1 hxm.2 hgm.1 (by omega) hsm (by rw [eT]; exact hTB) _ _ _ hT1
                  have hnQ : (nn : Int) * (Q : Int) = ((nn * Q : Nat) : Int) := (Int.natCast_mul nn Q).symm
                  rw [hrr] at hpl
                  have hrl2 : (rgs i own).length = own.length := rgs_len
                  rcases hkd with rfl | ⟨ess, rfl⟩
                  · repeat' first | ((first | refine Br.dec ?_ ?_ | refine Br.eqi ?_ ?_) <;> intro h <;> try (exfalso; omega)) | (simp (disch := first | omega | (simp only [vlen]; first | done | omega)) only [vmy, hrr, hrg, htk, hrd, ↓vAq, vBq, ↓reduceIte, Nat.reduceBEq, Nat.reduceEqDiff, Nat.reduceLT, Nat.reduceLeDiff, Nat.reduceAdd, Nat.reduceMul, Nat.reduceSub, reduceCtorEq, Int.reduceToNat]) | (refine Br.mk ?_ ?_ <;> intro h) | (refine BrN.mk (fun h => ?_) ?_) | (refine AltVC.mk ?_ ?_)
                    refine DrawVC.ct (X := List KE) (fun _ => []) (fun L' => pvL g w L' i j k k1 w1 (n2 + nn * Q)) (fun L' => MI g w L') 9 (by simp (disch := first | omega | (simp only [vlen]; first | done | omega)) only [↓vAq, vBq, ↓reduceIte, Nat.reduceBEq, Nat.reduceEqDiff, Nat.reduceLT, Nat.reduceLeDiff, Nat.reduceAdd, Nat.reduceMul, Nat.reduceSub, reduceCtorEq, Int.reduceToNat]) ?_ ?_
                    · repeat' first | ((first | refine Br.dec ?_ ?_ | refine Br.eqi ?_ ?_) <;> intro h <;> try (exfalso; omega)) | (simp (disch := first | omega | (simp only [vlen]; first | done | omega)) only [vmy, hrr, hrg, htk, hrd, ↓vAq, vBq, ↓reduceIte, Nat.reduceBEq, Nat.reduceEqDiff, Nat.reduceLT, Nat.reduceLeDiff, Nat.reduceAdd, Nat.reduceMul, Nat.reduceSub, reduceCtorEq, Int.reduceToNat]) | (refine Br.mk ?_ ?_ <;> intro h) | (refine BrN.mk (fun h => ?_) ?_) | (refine AltVC.mk ?_ ?_)
                      all_goals first
                        | (refine CallVC.lendE [0, 1] [.ptr 0 6 0 0, .ag [iv .i64 q', .nl, .sl 1 (i64s wd)], .ag [iv .i64 (stA i own u), iv .i64 (own.getD u 0)]] (coO g w Lz) (hpl Lz hLz) (by simp) (by rfl) (by unfold coO; (simp (disch := first | omega | (simp only [vlen]; first | done | omega)) only [vle0, ↓vAq, vBq, ↓reduceIte, Nat.reduceBEq, Nat.reduceEqDiff, Nat.reduceLT, Nat.reduceLeDiff, Nat.reduceAdd, Nat.reduceMul, Nat.reduceSub, reduceCtorEq, Int.reduceToNat] <;> (repeat' first | rfl | apply And.intro))) ?_
                           rintro _ _ ⟨L3, rfl, rfl, hL3⟩
                           unfold coO
                           (repeat' first | ((first | refine Br.dec ?_ ?_ | refine Br.eqi ?_ ?_) <;> intro h <;> try (exfalso; omega)) | (simp (disch := first | omega | (simp only [vlen]; first | done | omega)) only [vmy, hrr, hrg, htk, hrd, hnQ, ↓vAq, vBq, ↓reduceIte, Nat.reduceBEq, Nat.reduceEqDiff, Nat.reduceLT, Nat.reduceLeDiff, Nat.reduceAdd, Nat.reduceMul, Nat.reduceSub, reduceCtorEq, Int.reduceToNat]) | (refine Br.mk ?_ ?_ <;> intro h) | (refine BrN.mk (fun h => ?_) ?_) | (refine AltVC.mk ?_ ?_))
                           all_goals refine CallVC.lendE [0, 1] [.ptr 0 6 0 0, .sl 1 (i64s ((g.rules.getD k default).right.drop (u + 1))), .sl 2 (tbl rgD (rgs (stA i own (u + 1)) (own.drop (u + 1))))] (coO g w L3) (hmany L3 hL3) (by simp) (by rfl) (by unfold coO; (simp (disch := first | omega | (simp only [vlen]; first | done | omega)) only [vle0, ↓vAq, vBq, ↓reduceIte, Nat.reduceBEq, Nat.reduceEqDiff, Nat.reduceLT, Nat.reduceLeDiff, Nat.reduceAdd, Nat.reduceMul, Nat.reduceSub, reduceCtorEq, Int.reduceToNat] <;> (repeat' first | rfl | apply And.intro))) ?_
                           all_goals rintro _ _ ⟨L4, rfl, rfl, hL4⟩
                           all_goals unfold coO
                           all_goals rw [hcQ]
                           all_goals (repeat' first | ((first | refine Br.dec ?_ ?_ | refine Br.eqi ?_ ?_) <;> intro h <;> try (exfalso; omega)) | (simp (disch := first | omega | (simp only [vlen]; first | done | omega)) only [vmy, hrr, hrg, htk, hrd, hnQ, ↓vAq, vBq, ↓reduceIte, Nat.reduceBEq, Nat.reduceEqDiff, Nat.reduceLT, Nat.reduceLeDiff, Nat.reduceAdd, Nat.reduceMul, Nat.reduceSub, reduceCtorEq, Int.reduceToNat]) | (refine Br.mk ?_ ?_ <;> intro h) | (refine BrN.mk (fun h => ?_) ?_) | (refine AltVC.mk ?_ ?_))
                           all_goals refine cutK.mk L4 (by simp (disch := first | omega | (simp only [vlen]; first | done | omega)) only [↓vAq, vBq, ↓reduceIte, Nat.reduceBEq, Nat.reduceEqDiff, Nat.reduceLT, Nat.reduceLeDiff, Nat.reduceAdd, Nat.reduceMul, Nat.reduceSub, reduceCtorEq, Int.reduceToNat]) hL4 ?_
                           all_goals unfold pvL
                           all_goals ((simp (disch := first | omega | (simp only [vlen]; first | done | omega)) only [Fits_u, Fits_m, Fits_nil, List.length_append, vmy, ↓vAq, vBq, ↓reduceIte, Nat.reduceBEq, Nat.reduceEqDiff, Nat.reduceLT, Nat.reduceLeDiff, Nat.reduceAdd, Nat.reduceMul, Nat.reduceSub, reduceCtorEq, Int.reduceToNat] <;> (repeat' first | rfl | apply And.intro)))
                           all_goals first | rfl | exact ivEq (by omega)
                           done)
                        | (refine CallVC.lendE [0, 1] [.ptr 0 6 0 0, .sl 1 (i64s ((g.rules.getD k default).right.drop (u + 1))), .sl 2 (tbl rgD (rgs (stA i own (u + 1)) (own.drop (u + 1))))] (coO g w Lz) (hmany Lz hLz) (by simp) (by rfl) (by unfold coO; (simp (disch := first | omega | (simp only [vlen]; first | done | omega)) only [vle0, ↓vAq, vBq, ↓reduceIte, Nat.reduceBEq, Nat.reduceEqDiff, Nat.reduceLT, Nat.reduceLeDiff, Nat.reduceAdd, Nat.reduceMul, Nat.reduceSub, reduceCtorEq, Int.reduceToNat] <;> (repeat' first | rfl | apply And.intro))) ?_
                           rintro _ _ ⟨L3, rfl, rfl, hL3⟩
                           unfold coO
                           rw [hcQ]
                           (repeat' first | ((first | refine Br.dec ?_ ?_ | refine Br.eqi ?_ ?_) <;> intro h <;> try (exfalso; omega)) | (simp (disch := first | omega | (simp only [vlen]; first | done | omega)) only [vmy, hrr, hrg, htk, hrd, hnQ, ↓vAq, vBq, ↓reduceIte, Nat.reduceBEq, Nat.reduceEqDiff, Nat.reduceLT, Nat.reduceLeDiff, Nat.reduceAdd, Nat.reduceMul, Nat.reduceSub, reduceCtorEq, Int.reduceToNat]) | (refine Br.mk ?_ ?_ <;> intro h) | (refine BrN.mk (fun h => ?_) ?_) | (refine AltVC.mk ?_ ?_))
                           all_goals refine CallVC.lendE [0, 1] [.ptr 0 6 0 0, .ag [iv .i64 q', .nl, .sl 1 (i64s wd)], .ag [iv .i64 (stA i own u), iv .i64 (own.getD u 0)]] (coO g w L3) (hpl L3 hL3) (by simp) (by rfl) (by unfold coO; (simp (disch := first | omega | (simp only [vlen]; first | done | omega)) only [vle0, ↓vAq, vBq, ↓reduceIte, Nat.reduceBEq, Nat.reduceEqDiff, Nat.reduceLT, Nat.reduceLeDiff, Nat.reduceAdd, Nat.reduceMul, Nat.reduceSub, reduceCtorEq, Int.reduceToNat] <;> (repeat' first | rfl | apply And.intro))) ?_
                           all_goals rintro _ _ ⟨L4, rfl, rfl, hL4⟩
                           all_goals unfold coO
                           all_goals (repeat' first | ((first | refine Br.dec ?_ ?_ | refine Br.eqi ?_ ?_) <;> intro h <;> try (exfalso; omega)) | (simp (disch := first | omega | (simp only [vlen]; first | done | omega)) only [vmy, hrr, hrg, htk, hrd, hnQ, ↓vAq, vBq, ↓reduceIte, Nat.reduceBEq, Nat.reduceEqDiff, Nat.reduceLT, Nat.reduceLeDiff, Nat.reduceAdd, Nat.reduceMul, Nat.reduceSub, reduceCtorEq, Int.reduceToNat]) | (refine Br.mk ?_ ?_ <;> intro h) | (refine BrN.mk (fun h => ?_) ?_) | (refine AltVC.mk ?_ ?_))
                           all_goals refine cutK.mk L4 (by simp (disch := first | omega | (simp only [vlen]; first | done | omega)) only [↓vAq, vBq, ↓reduceIte, Nat.reduceBEq, Nat.reduceEqDiff, Nat.reduceLT, Nat.reduceLeDiff, Nat.reduceAdd, Nat.reduceMul, Nat.reduceSub, reduceCtorEq, Int.reduceToNat]) hL4 ?_
                           all_goals unfold pvL
                           all_goals ((simp (disch := first | omega | (simp only [vlen]; first | done | omega)) only [Fits_u, Fits_m, Fits_nil, List.length_append, vmy, ↓vAq, vBq, ↓reduceIte, Nat.reduceBEq, Nat.reduceEqDiff, Nat.reduceLT, Nat.reduceLeDiff, Nat.reduceAdd, Nat.reduceMul, Nat.reduceSub, reduceCtorEq, Int.reduceToNat] <;> (repeat' first | rfl | apply And.intro)))
                           all_goals first | rfl | exact ivEq (by omega)
                           done)
                        | trace_state
                    · intro L5 hL5
                      unfold pvL
                      repeat' first | ((first | refine Br.dec ?_ ?_ | refine Br.eqi ?_ ?_) <;> intro h <;> try (exfalso; omega)) | (simp (disch := first | omega | (simp only [vlen]; first | done | omega)) only [vmy, ↓vAq, vBq, ↓reduceIte, Nat.reduceBEq, Nat.reduceEqDiff, Nat.reduceLT, Nat.reduceLeDiff, Nat.reduceAdd, Nat.reduceMul, Nat.reduceSub, reduceCtorEq, Int.reduceToNat]) | (refine Br.mk ?_ ?_ <;> intro h) | (refine BrN.mk (fun h => ?_) ?_) | (refine AltVC.mk ?_ ?_)
                      refine loopK.mk (u + 1, n2 + nn * Q, L5) (by simp (disch := first | omega | (simp only [vlen]; first | done | omega)) only [↓vAq, vBq, ↓reduceIte, Nat.reduceBEq, Nat.reduceEqDiff, Nat.reduceLT, Nat.reduceLeDiff, Nat.reduceAdd, Nat.reduceMul, Nat.reduceSub, reduceCtorEq, Int.reduceToNat]) ⟨by show u + 1 ≤ k1.length; omega, hL5, s2', K2', hT2, by show n2 + nn * Q + K2' = _; omega⟩ (by show k1.length - (u + 1) < k1.length - u; omega) ?_
                      (simp (disch := first | omega | (simp only [vlen]; first | done | omega)) only [Fits_u, Fits_m, Fits_nil, List.length_append, vmy, ↓vAq, vBq, ↓reduceIte, Nat.reduceBEq, Nat.reduceEqDiff, Nat.reduceLT, Nat.reduceLeDiff, Nat.reduceAdd, Nat.reduceMul, Nat.reduceSub, reduceCtorEq, Int.reduceToNat] <;> (repeat' first | rfl | apply And.intro))
                      all_goals first | rfl | trace_state
                  · repeat' first | ((first | refine Br.dec ?_ ?_ | refine Br.eqi ?_ ?_) <;> intro h <;> try (exfalso; omega)) | (simp (disch := first | omega | (simp only [vlen]; first | done | omega)) only [vmy, hrr, hrg, htk, hrd, ↓vAq, vBq, ↓reduceIte, Nat.reduceBEq, Nat.reduceEqDiff, Nat.reduceLT, Nat.reduceLeDiff, Nat.reduceAdd, Nat.reduceMul, Nat.reduceSub, reduceCtorEq, Int.reduceToNat]) | (refine Br.mk ?_ ?_ <;> intro h) | (refine BrN.mk (fun h => ?_) ?_) | (refine AltVC.mk ?_ ?_)
                    refine DrawVC.ct (X := List KE) (fun _ => []) (fun L' => pvL g w L' i j k k1 w1 (n2 + nn * Q)) (fun L' => MI g w L') 9 (by simp (disch := first | omega | (simp only [vlen]; first | done | omega)) only [↓vAq, vBq, ↓reduceIte, Nat.reduceBEq, Nat.reduceEqDiff, Nat.reduceLT, Nat.reduceLeDiff, Nat.reduceAdd, Nat.reduceMul, Nat.reduceSub, reduceCtorEq, Int.reduceToNat]) ?_ ?_
                    · repeat' first | ((first | refine Br.dec ?_ ?_ | refine Br.eqi ?_ ?_) <;> intro h <;> try (exfalso; omega)) | (simp (disch := first | omega | (simp only [vlen]; first | done | omega)) only [vmy, hrr, hrg, htk, hrd, ↓vAq, vBq, ↓reduceIte, Nat.reduceBEq, Nat.reduceEqDiff, Nat.reduceLT, Nat.reduceLeDiff, Nat.reduceAdd, Nat.reduceMul, Nat.reduceSub, reduceCtorEq, Int.reduceToNat]) | (refine Br.mk ?_ ?_ <;> intro h) | (refine BrN.mk (fun h => ?_) ?_) | (refine AltVC.mk ?_ ?_)
                      all_goals first
                        | (refine CallVC.lendE [0, 1] [.ptr 0 6 0 0, .ag [iv .i64 q', .sl 3 ess, .sl 1 (i64s wd)], .ag [iv .i64 (stA i own u), iv .i64 (own.getD u 0)]] (coO g w Lz) (hpl Lz hLz) (by simp) (by rfl) (by unfold coO; (simp (disch := first | omega | (simp only [vlen]; first | done | omega)) only [vle0, ↓vAq, vBq, ↓reduceIte, Nat.reduceBEq, Nat.reduceEqDiff, Nat.reduceLT, Nat.reduceLeDiff, Nat.reduceAdd, Nat.reduceMul, Nat.reduceSub, reduceCtorEq, Int.reduceToNat] <;> (repeat' first | rfl | apply And.intro))) ?_
                           rintro _ _ ⟨L3, rfl, rfl, hL3⟩
                           unfold coO
                           (repeat' first | ((first | refine Br.dec ?_ ?_ | refine Br.eqi ?_ ?_) <;> intro h <;> try (exfalso; omega)) | (simp (disch := first | omega | (simp only [vlen]; first | done | omega)) only [vmy, hrr, hrg, htk, hrd, hnQ, ↓vAq, vBq, ↓reduceIte, Nat.reduceBEq, Nat.reduceEqDiff, Nat.reduceLT, Nat.reduceLeDiff, Nat.reduceAdd, Nat.reduceMul, Nat.reduceSub, reduceCtorEq, Int.reduceToNat]) | (refine Br.mk ?_ ?_ <;> intro h) | (refine BrN.mk (fun h => ?_) ?_) | (refine AltVC.mk ?_ ?_))
                           all_goals refine CallVC.lendE [0, 1] [.ptr 0 6 0 0, .sl 1 (i64s ((g.rules.getD k default).right.drop (u + 1))), .sl 2 (tbl rgD (rgs (stA i own (u + 1)) (own.drop (u + 1))))] (coO g w L3) (hmany L3 hL3) (by simp) (by rfl) (by unfold coO; (simp (disch := first | omega | (simp only [vlen]; first | done | omega)) only [vle0, ↓vAq, vBq, ↓reduceIte, Nat.reduceBEq, Nat.reduceEqDiff, Nat.reduceLT, Nat.reduceLeDiff, Nat.reduceAdd, Nat.reduceMul, Nat.reduceSub, reduceCtorEq, Int.reduceToNat] <;> (repeat' first | rfl | apply And.intro))) ?_
                           all_goals rintro _ _ ⟨L4, rfl, rfl, hL4⟩
                           all_goals unfold coO
                           all_goals rw [hcQ]
                           all_goals (repeat' first | ((first | refine Br.dec ?_ ?_ | refine Br.eqi ?_ ?_) <;> intro h <;> try (exfalso; omega)) | (simp (disch := first | omega | (simp only [vlen]; first | done | omega)) only [vmy, hrr, hrg, htk, hrd, hnQ, ↓vAq, vBq, ↓reduceIte, Nat.reduceBEq, Nat.reduceEqDiff, Nat.reduceLT, Nat.reduceLeDiff, Nat.reduceAdd, Nat.reduceMul, Nat.reduceSub, reduceCtorEq, Int.reduceToNat]) | (refine Br.mk ?_ ?_ <;> intro h) | (refine BrN.mk (fun h => ?_) ?_) | (refine AltVC.mk ?_ ?_))
                           all_goals refine cutK.mk L4 (by simp (disch := first | omega | (simp only [vlen]; first | done | omega)) only [↓vAq, vBq, ↓reduceIte, Nat.reduceBEq, Nat.reduceEqDiff, Nat.reduceLT, Nat.reduceLeDiff, Nat.reduceAdd, Nat.reduceMul, Nat.reduceSub, reduceCtorEq, Int.reduceToNat]) hL4 ?_
                           all_goals unfold pvL
                           all_goals ((simp (disch := first | omega | (simp only [vlen]; first | done | omega)) only [Fits_u, Fits_m, Fits_nil, List.length_append, vmy, ↓vAq, vBq, ↓reduceIte, Nat.reduceBEq, Nat.reduceEqDiff, Nat.reduceLT, Nat.reduceLeDiff, Nat.reduceAdd, Nat.reduceMul, Nat.reduceSub, reduceCtorEq, Int.reduceToNat] <;> (repeat' first | rfl | apply And.intro)))
                           all_goals first | rfl | exact ivEq (by omega)
                           done)
                        | (refine CallVC.lendE [0, 1] [.ptr 0 6 0 0, .sl 1 (i64s ((g.rules.getD k default).right.drop (u + 1))), .sl 2 (tbl rgD (rgs (stA i own (u + 1)) (own.drop (u + 1))))] (coO g w Lz) (hmany Lz hLz) (by simp) (by rfl) (by unfold coO; (simp (disch := first | omega | (simp only [vlen]; first | done | omega)) only [vle0, ↓vAq, vBq, ↓reduceIte, Nat.reduceBEq, Nat.reduceEqDiff, Nat.reduceLT, Nat.reduceLeDiff, Nat.reduceAdd, Nat.reduceMul, Nat.reduceSub, reduceCtorEq, Int.reduceToNat] <;> (repeat' first | rfl | apply And.intro))) ?_
                           rintro _ _ ⟨L3, rfl, rfl, hL3⟩
                           unfold coO
                           rw [hcQ]
                           (repeat' first | ((first | refine Br.dec ?_ ?_ | refine Br.eqi ?_ ?_) <;> intro h <;> try (exfalso; omega)) | (simp (disch := first | omega | (simp only [vlen]; first | done | omega)) only [vmy, hrr, hrg, htk, hrd, hnQ, ↓vAq, vBq, ↓reduceIte, Nat.reduceBEq, Nat.reduceEqDiff, Nat.reduceLT, Nat.reduceLeDiff, Nat.reduceAdd, Nat.reduceMul, Nat.reduceSub, reduceCtorEq, Int.reduceToNat]) | (refine Br.mk ?_ ?_ <;> intro h) | (refine BrN.mk (fun h => ?_) ?_) | (refine AltVC.mk ?_ ?_))
                           all_goals refine CallVC.lendE [0, 1] [.ptr 0 6 0 0, .ag [iv .i64 q', .sl 3 ess, .sl 1 (i64s wd)], .ag [iv .i64 (stA i own u), iv .i64 (own.getD u 0)]] (coO g w L3) (hpl L3 hL3) (by simp) (by rfl) (by unfold coO; (simp (disch := first | omega | (simp only [vlen]; first | done | omega)) only [vle0, ↓vAq, vBq, ↓reduceIte, Nat.reduceBEq, Nat.reduceEqDiff, Nat.reduceLT, Nat.reduceLeDiff, Nat.reduceAdd, Nat.reduceMul, Nat.reduceSub, reduceCtorEq, Int.reduceToNat] <;> (repeat' first | rfl | apply And.intro))) ?_
                           all_goals rintro _ _ ⟨L4, rfl, rfl, hL4⟩
                           all_goals unfold coO
                           all_goals (repeat' first | ((first | refine Br.dec ?_ ?_ | refine Br.eqi ?_ ?_) <;> intro h <;> try (exfalso; omega)) | (simp (disch := first | omega | (simp only [vlen]; first | done | omega)) only [vmy, hrr, hrg, htk, hrd, hnQ, ↓vAq, vBq, ↓reduceIte, Nat.reduceBEq, Nat.reduceEqDiff, Nat.reduceLT, Nat.reduceLeDiff, Nat.reduceAdd, Nat.reduceMul, Nat.reduceSub, reduceCtorEq, Int.reduceToNat]) | (refine Br.mk ?_ ?_ <;> intro h) | (refine BrN.mk (fun h => ?_) ?_) | (refine AltVC.mk ?_ ?_))
                           all_goals refine cutK.mk L4 (by simp (disch := first | omega | (simp only [vlen]; first | done | omega)) only [↓vAq, vBq, ↓reduceIte, Nat.reduceBEq, Nat.reduceEqDiff, Nat.reduceLT, Nat.reduceLeDiff, Nat.reduceAdd, Nat.reduceMul, Nat.reduceSub, reduceCtorEq, Int.reduceToNat]) hL4 ?_
                           all_goals unfold pvL
                           all_goals ((simp (disch := first | omega | (simp only [vlen]; first | done | omega)) only [Fits_u, Fits_m, Fits_nil, List.length_append, vmy, ↓vAq, vBq, ↓reduceIte, Nat.reduceBEq, Nat.reduceEqDiff, Nat.reduceLT, Nat.reduceLeDiff, Nat.reduceAdd, Nat.reduceMul, Nat.reduceSub, reduceCtorEq, Int.reduceToNat] <;> (repeat' first | rfl | apply And.intro)))
                           all_goals first | rfl | exact ivEq (by omega)
                           done)
                        | trace_state
                    · intro L5 hL5
                      unfold pvL
                      repeat' first | ((first | refine Br.dec ?_ ?_ | refine Br.eqi ?_ ?_) <;> intro h <;> try (exfalso; omega)) | (simp (disch := first | omega | (simp only [vlen]; first | done | omega)) only [vmy, ↓vAq, vBq, ↓reduceIte, Nat.reduceBEq, Nat.reduceEqDiff, Nat.reduceLT, Nat.reduceLeDiff, Nat.reduceAdd, Nat.reduceMul, Nat.reduceSub, reduceCtorEq, Int.reduceToNat]) | (refine Br.mk ?_ ?_ <;> intro h) | (refine BrN.mk (fun h => ?_) ?_) | (refine AltVC.mk ?_ ?_)
                      refine loopK.mk (u + 1, n2 + nn * Q, L5) (by simp (disch := first | omega | (simp only [vlen]; first | done | omega)) only [↓vAq, vBq, ↓reduceIte, Nat.reduceBEq, Nat.reduceEqDiff, Nat.reduceLT, Nat.reduceLeDiff, Nat.reduceAdd, Nat.reduceMul, Nat.reduceSub, reduceCtorEq, Int.reduceToNat]) ⟨by show u + 1 ≤ k1.length; omega, hL5, s2', K2', hT2, by show n2 + nn * Q + K2' = _; omega⟩ (by show k1.length - (u + 1) < k1.length - u; omega) ?_
                      (simp (disch := first | omega | (simp only [vlen]; first | done | omega)) only [Fits_u, Fits_m, Fits_nil, List.length_append, vmy, ↓vAq, vBq, ↓reduceIte, Nat.reduceBEq, Nat.reduceEqDiff, Nat.reduceLT, Nat.reduceLeDiff, Nat.reduceAdd, Nat.reduceMul, Nat.reduceSub, reduceCtorEq, Int.reduceToNat] <;> (repeat' first | rfl | apply And.intro))
                      all_goals first | rfl | trace_state
                · have hue : u = k1.length := by omega
                  rw [List.drop_of_length_le (by omega), List.drop_of_length_le (by omega), List.drop_of_length_le (by omega)] at hTg
                  cases hTg
                  repeat' first | ((first | refine Br.dec ?_ ?_ | refine Br.eqi ?_ ?_) <;> intro h <;> try (exfalso; omega)) | (simp (disch := first | omega | (simp only [vlen]; first | done | omega)) only [vmy, ↓vAq, vBq, ↓reduceIte, Nat.reduceBEq, Nat.reduceEqDiff, Nat.reduceLT, Nat.reduceLeDiff, Nat.reduceAdd, Nat.reduceMul, Nat.reduceSub, reduceCtorEq, Int.reduceToNat]) | (refine Br.mk ?_ ?_ <;> intro h) | (refine BrN.mk (fun h => ?_) ?_) | (refine AltVC.mk ?_ ?_)
                  exact pc_fin (L := Lz) (by simp (disch := first | omega | (simp only [vlen]; first | done | omega)) only [vmy, ↓vAq, vBq, ↓reduceIte, Nat.reduceBEq, Nat.reduceEqDiff, Nat.reduceLT, Nat.reduceLeDiff, Nat.reduceAdd, Nat.reduceMul, Nat.reduceSub, reduceCtorEq, Int.reduceToNat]) (by unfold coO; simp (disch := first | omega | (simp only [vlen]; first | done | omega)) only [vmy, ↓vAq, vBq, ↓reduceIte, Nat.reduceBEq, Nat.reduceEqDiff, Nat.reduceLT, Nat.reduceLeDiff, Nat.reduceAdd, Nat.reduceMul, Nat.reduceSub, reduceCtorEq, Int.reduceToNat]) (by (simp (disch := first | omega | (simp only [vlen]; first | done | omega)) only [vmy, ↓vAq, vBq, ↓reduceIte, Nat.reduceBEq, Nat.reduceEqDiff, Nat.reduceLT, Nat.reduceLeDiff, Nat.reduceAdd, Nat.reduceMul, Nat.reduceSub, reduceCtorEq, Int.reduceToNat]); exact ivEq (by omega)) hLz
            · have hmc2 : m < c := by omega
              have hps := sumL_take_succ (f := prT g w (g.rules.getD k default).right i) (d := []) hml
              have hpl := sumL_take (f := prT g w (g.rules.getD k default).right i) (d := []) hml
              have hmono2 := cutN_mono hij hcm
              rw [decide_eq_false (fun e => hme (cutN_inj hml hcl (by rw [hown]; exact nI_inj e)))] at heq
              generalize hcu : (cutN ((g.rules.getD k default).right.length - 1) i j).getD m [] = cu at *
              have hcp : cp (prT g w (g.rules.getD k default).right i cu) = prT g w (g.rules.getD k default).right i cu := by unfold cp; omega
              have hcu1 : ∀ e, e ∈ cu → e ≤ 1000 := fun e he => by
                obtain ⟨k, hk, rfl⟩ := List.getElem_of_mem he
                have := (hmono2.get hk).2
                rw [List.getD_eq_getElem?_getD, List.getElem?_eq_getElem hk] at this
                exact Nat.le_trans this (by omega)
              repeat' first | ((first | refine Br.dec ?_ ?_ | refine Br.eqi ?_ ?_) <;> intro h <;> try (exfalso; omega)) | (simp (disch := first | omega | (simp only [vlen]; first | done | omega)) only [vmy, ↓vAq, vBq, ↓reduceIte, Nat.reduceBEq, Nat.reduceEqDiff, Nat.reduceLT, Nat.reduceLeDiff, Nat.reduceAdd, Nat.reduceMul, Nat.reduceSub, reduceCtorEq, Int.reduceToNat]) | (refine Br.mk ?_ ?_ <;> intro h) | (refine BrN.mk (fun h => ?_) ?_) | (refine AltVC.mk ?_ ?_)
              refine CallVC.eq heq ?_
              repeat' first | ((first | refine Br.dec ?_ ?_ | refine Br.eqi ?_ ?_) <;> intro h <;> try (exfalso; omega)) | (simp (disch := first | omega | (simp only [vlen]; first | done | omega)) only [vmy, ↓vAq, vBq, ↓reduceIte, Nat.reduceBEq, Nat.reduceEqDiff, Nat.reduceLT, Nat.reduceLeDiff, Nat.reduceAdd, Nat.reduceMul, Nat.reduceSub, reduceCtorEq, Int.reduceToNat]) | (refine Br.mk ?_ ?_ <;> intro h) | (refine BrN.mk (fun h => ?_) ?_) | (refine AltVC.mk ?_ ?_)
              refine DrawVC.t ?_
              repeat' first | ((first | refine Br.dec ?_ ?_ | refine Br.eqi ?_ ?_) <;> intro h <;> try (exfalso; omega)) | (simp (disch := first | omega | (simp only [vlen]; first | done | omega)) only [vmy, ↓vAq, vBq, ↓reduceIte, Nat.reduceBEq, Nat.reduceEqDiff, Nat.reduceLT, Nat.reduceLeDiff, Nat.reduceAdd, Nat.reduceMul, Nat.reduceSub, reduceCtorEq, Int.reduceToNat]) | (refine Br.mk ?_ ?_ <;> intro h) | (refine BrN.mk (fun h => ?_) ?_) | (refine AltVC.mk ?_ ?_)
              all_goals refine CallP.eq (ranges_spec i cu (by omega) (by omega) hcu1) (fun h => by cases h) ?_
              all_goals (repeat' first | ((first | refine Br.dec ?_ ?_ | refine Br.eqi ?_ ?_) <;> intro h <;> try (exfalso; omega)) | (simp (disch := first | omega | (simp only [vlen]; first | done | omega)) only [vmy, ↓vAq, vBq, ↓reduceIte, Nat.reduceBEq, Nat.reduceEqDiff, Nat.reduceLT, Nat.reduceLeDiff, Nat.reduceAdd, Nat.reduceMul, Nat.reduceSub, reduceCtorEq, Int.reduceToNat]) | (refine Br.mk ?_ ?_ <;> intro h) | (refine BrN.mk (fun h => ?_) ?_) | (refine AltVC.mk ?_ ?_))
              all_goals refine CallVC.lendE [0, 1] [.ptr 0 6 0 0, .sl 1 (i64s (g.rules.getD k default).right), .sl 2 (tbl rgD (rgs i cu))] (coO g w Ly) (many_spec g w hc _ i j cu (by omega) (by omega) hright hmono2 hj Ly hLy) (by simp) (by rfl) (by unfold coO; (simp (disch := first | omega | (simp only [vlen]; first | done | omega)) only [vle0, ↓vAq, vBq, ↓reduceIte, Nat.reduceBEq, Nat.reduceEqDiff, Nat.reduceLT, Nat.reduceLeDiff, Nat.reduceAdd, Nat.reduceMul, Nat.reduceSub, reduceCtorEq, Int.reduceToNat] <;> (repeat' first | rfl | apply And.intro))) ?_
              all_goals rintro _ _ ⟨L2, rfl, rfl, hL2⟩
              all_goals unfold coO
              all_goals rw [hcp]
              all_goals (repeat' first | ((first | refine Br.dec ?_ ?_ | refine Br.eqi ?_ ?_) <;> intro h <;> try (exfalso; omega)) | (simp (disch := first | omega | (simp only [vlen]; first | done | omega)) only [vmy, ↓vAq, vBq, ↓reduceIte, Nat.reduceBEq, Nat.reduceEqDiff, Nat.reduceLT, Nat.reduceLeDiff, Nat.reduceAdd, Nat.reduceMul, Nat.reduceSub, reduceCtorEq, Int.reduceToNat]) | (refine Br.mk ?_ ?_ <;> intro h) | (refine BrN.mk (fun h => ?_) ?_) | (refine AltVC.mk ?_ ?_))
              all_goals refine rfK.mk (L2, n' + prT g w (g.rules.getD k default).right i cu) (by simp (disch := first | omega | (simp only [vlen]; first | done | omega)) only [↓vAq, vBq, ↓reduceIte, Nat.reduceBEq, Nat.reduceEqDiff, Nat.reduceLT, Nat.reduceLeDiff, Nat.reduceAdd, Nat.reduceMul, Nat.reduceSub, reduceCtorEq, Int.reduceToNat]) ⟨hL2, hmc2, by show n' + _ = _; rw [hps]; omega⟩ ?_
              all_goals ((simp (disch := first | omega | (simp only [vlen]; first | done | omega)) only [Fits_u, Fits_m, Fits_nil, List.length_append, vmy, ↓vAq, vBq, ↓reduceIte, Nat.reduceBEq, Nat.reduceEqDiff, Nat.reduceLT, Nat.reduceLeDiff, Nat.reduceAdd, Nat.reduceMul, Nat.reduceSub, reduceCtorEq, Int.reduceToNat] <;> (repeat' first | rfl | apply And.intro)))
              all_goals first | rfl | trace_state
          · rintro ⟨Ly, n'⟩ ⟨hLy, hmc, hn'⟩
            rw [cutRows_len] at hmc
            omega
theorem place_all (g : Grammar) (w : List Int) (hc : CC g w) : ∀ n x i j, 0 ≤ x → x < g.k + g.n → i ≤ j → j ≤ w.length → (x < g.k ∨ j - i < n) → trees g w x i j ≤ 1099511627776 → pcP g w x i j := by
  intro n
  induction n with
  | zero =>
    intro x i j h0 h1 hij hj h2 hT st K row h L hL
    have hx := h2.resolve_right (Nat.not_lt_zero _)
    cases h with
    | sym _ _ h =>
      cases h
      exact placeS_spec g w hc x i _ [x] L hL
    | name hn => exact absurd hx hn
  | succ n ih =>
    intro x i j h0 h1 hij hj h2 hT st K row h L hL
    cases h with
    | sym _ _ h =>
      cases h
      exact placeS_spec g w hc x i _ [x] L hL
    | @name _ _ _ _ _ q c s1 s2 w1 K1 K2 k1 k2 hx hq hcl hw h1' h2' =>
      cases h2'
      rw [prT_nil, Nat.mul_one, Nat.add_zero]
      have h3 := h2.resolve_left hx
      exact placeN_spec g w hc x hx h1 i j hij hj hT (fun x' i' j' a b c d e f => ih x' i' j' a b c d (e.imp (fun h => h) fun h => by omega) f) q c s1 w1 K1 k1 hq hcl h1' L hL
theorem place_spec (g : Grammar) (w : List Int) (hc : CC g w) (x : Int) (i j : Nat) (h0 : 0 ≤ x) (h1 : x < g.k + g.n) (hij : i ≤ j) (hj : j ≤ w.length) (hT : trees g w x i j ≤ 1099511627776) : pcP g w x i j := place_all g w hc (j - i + 1) x i j h0 h1 hij hj (.inr (Nat.lt_succ_self _)) hT
def pkP (g : Grammar) (w : List Int) (stp : List Int) (d : D) : Prop :=
  (trC g w ≠ 0 ∧ d = .tu [iv .i64 0, iv .i64 (trC g w)]) ∨ (trC g w = 0 ∧ 60 < stp.length ∧ d = .tu [iv .i64 0, iv .i64 1]) ∨
  (trC g w = 0 ∧ stp.length ≤ 60 ∧ (∀ K, ¬ Tk g w [g.k + g.start] 0 [w.length] stp K) ∧ d = .tu [iv .i64 0, iv .i64 5]) ∨
  (trC g w = 0 ∧ stp.length ≤ 60 ∧ ∃ K : Nat, Tk g w [g.k + g.start] 0 [w.length] stp K ∧ d = .tu [iv .i64 K, iv .i64 0])
set_option maxRecDepth 10000 in
set_option maxHeartbeats 4000000 in
theorem place2_spec (g : Grammar) (hg : g.ok) (w : List Int) (hw : w.length ≤ 9223372036854775807) (stp : List Int) (hs : stp.length ≤ 9223372036854775807) : Dm.Spec Try.prog 17 [.ag (graD g), .sl 1 (i64s w), .sl 1 (i64s stp)] (fun d => pkP g w stp d) := by
  refine spec_of_vc mixed Try.func17 c17 (by rw [show Try.f17.ntmps = _ from Try.ntmps17]; simp) ?_
  unfold m17 r17
  repeat' first | ((first | refine Br.dec ?_ ?_ | refine Br.eqi ?_ ?_) <;> intro h <;> try (exfalso; omega)) | (simp (disch := first | omega | (simp only [vlen]; first | done | omega)) only [vmy, ↓vAq, vBq, ↓reduceIte, Nat.reduceBEq, Nat.reduceEqDiff, Nat.reduceLT, Nat.reduceLeDiff, Nat.reduceAdd, Nat.reduceMul, Nat.reduceSub, reduceCtorEq, Int.reduceToNat]) | (refine Br.mk ?_ ?_ <;> intro h) | (refine BrN.mk (fun h => ?_) ?_) | (refine AltVC.mk ?_ ?_)
  refine CallVC.lendE [] [.ag (graD g), .sl 1 (i64s w)] [] (whole_spec g hg w hw) (by simp) (by rfl) (by (simp (disch := first | omega | (simp only [vlen]; first | done | omega)) only [vle0, ↓vAq, vBq, ↓reduceIte, Nat.reduceBEq, Nat.reduceEqDiff, Nat.reduceLT, Nat.reduceLeDiff, Nat.reduceAdd, Nat.reduceMul, Nat.reduceSub, reduceCtorEq, Int.reduceToNat] <;> (repeat' first | rfl | apply And.intro))) ?_
  rintro _ _ (⟨h1, h2, L, rfl, rfl, hL⟩ | ⟨c, h1, h2, h3, rfl⟩)
  · have e : trC g w = 0 := by unfold trC; rw [if_pos h1, if_neg (by omega)]
    obtain ⟨hc, _, _⟩ := cc_ok e
    have hk := hc.v.k
    have hn := hc.v.n
    have hst := hc.v.start
    have hw12 := hc.w
    by_cases hl : 60 < stp.length
    · repeat' first | ((first | refine Br.dec ?_ ?_ | refine Br.eqi ?_ ?_) <;> intro h <;> try (exfalso; omega)) | (simp (disch := first | omega | (simp only [vlen]; first | done | omega)) only [vmy, ↓vAq, vBq, ↓reduceIte, Nat.reduceBEq, Nat.reduceEqDiff, Nat.reduceLT, Nat.reduceLeDiff, Nat.reduceAdd, Nat.reduceMul, Nat.reduceSub, reduceCtorEq, Int.reduceToNat]) | (refine Br.mk ?_ ?_ <;> intro h) | (refine BrN.mk (fun h => ?_) ?_) | (refine AltVC.mk ?_ ?_)
      exact fin_mk (.inr (.inl ⟨e, hl, rfl⟩))
    have hgr := grow_spec g hc.v (g.k + g.start) ⟨by omega, by omega⟩ stp (by omega)
    have hnone : (∀ r ks wd, Gr g [g.k + g.start] stp ks wd r → ¬ (r = [] ∧ wd = w)) → ∀ K, ¬ Tk g w [g.k + g.start] 0 [w.length] stp K := fun h K hK => by
      obtain ⟨_, h5⟩ := Tk.gr hK (by simp [stA])
      obtain ⟨ks, h6⟩ := h5 []
      rw [List.append_nil] at h6
      refine h _ _ _ h6 ⟨rfl, ?_⟩
      simp [stA]
    repeat' first | ((first | refine Br.dec ?_ ?_ | refine Br.eqi ?_ ?_) <;> intro h <;> try (exfalso; omega)) | (simp (disch := first | omega | (simp only [vlen]; first | done | omega)) only [vmy, ↓vAq, vBq, ↓reduceIte, Nat.reduceBEq, Nat.reduceEqDiff, Nat.reduceLT, Nat.reduceLeDiff, Nat.reduceAdd, Nat.reduceMul, Nat.reduceSub, reduceCtorEq, Int.reduceToNat]) | (refine Br.mk ?_ ?_ <;> intro h) | (refine BrN.mk (fun h => ?_) ?_) | (refine AltVC.mk ?_ ?_)
    refine CallVC.mk hgr ?_
    rintro _ (⟨q, K, wd, r, rfl, hK, hG⟩ | ⟨rfl, hno⟩)
    · have hwl2 := hG.wlen (fun q hq => hc.v.long _ (getD_mem' (l := g.rules) (i := q) hq))
      rw [List.length_singleton] at hwl2
      have heq := equalI_spec wd w (by omega) (by omega)
      by_cases hr : r = []
      · subst hr
        by_cases hwe : wd = w
        · obtain ⟨es, st1, K1, e1, hTg, e3, _⟩ := hG.tg hc.p 0 (by rw [List.drop_zero, hwe, List.take_length])
          rw [List.append_nil] at e1
          subst e1
          have hle := hTg.len.1
          match es, hle with
          | [e0], _ =>
          have he0 : e0 = w.length := by
            have : e0 = 0 + wd.length := e3
            rw [hwe] at this; omega
          subst he0
          have hpl := place_spec g w hc (g.k + g.start) 0 w.length (by omega) (by omega) (Nat.zero_le _) (Nat.le_refl _) h2 _ _ _ hTg L hL
          rw [decide_eq_true hwe] at heq
          rcases hK with rfl | ⟨es, rfl⟩
          · repeat' first | ((first | refine Br.dec ?_ ?_ | refine Br.eqi ?_ ?_) <;> intro h <;> try (exfalso; omega)) | (simp (disch := first | omega | (simp only [vlen]; first | done | omega)) only [vmy, ↓vAq, vBq, ↓reduceIte, Nat.reduceBEq, Nat.reduceEqDiff, Nat.reduceLT, Nat.reduceLeDiff, Nat.reduceAdd, Nat.reduceMul, Nat.reduceSub, reduceCtorEq, Int.reduceToNat]) | (refine Br.mk ?_ ?_ <;> intro h) | (refine BrN.mk (fun h => ?_) ?_) | (refine AltVC.mk ?_ ?_)
            refine CallVC.eq heq ?_
            repeat' first | ((first | refine Br.dec ?_ ?_ | refine Br.eqi ?_ ?_) <;> intro h <;> try (exfalso; omega)) | (simp (disch := first | omega | (simp only [vlen]; first | done | omega)) only [vmy, ↓vAq, vBq, ↓reduceIte, Nat.reduceBEq, Nat.reduceEqDiff, Nat.reduceLT, Nat.reduceLeDiff, Nat.reduceAdd, Nat.reduceMul, Nat.reduceSub, reduceCtorEq, Int.reduceToNat]) | (refine Br.mk ?_ ?_ <;> intro h) | (refine BrN.mk (fun h => ?_) ?_) | (refine AltVC.mk ?_ ?_)
            refine CallVC.lendE [4, 3] [.ptr 0 6 0 0, .ag [iv .i64 q, .nl, .sl 1 (i64s wd)], .ag [iv .i64 (0 : Nat), iv .i64 w.length]] (coO g w L) hpl (by simp) (by rfl) (by unfold coO; (simp (disch := first | omega | (simp only [vlen]; first | done | omega)) only [vle0, ↓vAq, vBq, ↓reduceIte, Nat.reduceBEq, Nat.reduceEqDiff, Nat.reduceLT, Nat.reduceLeDiff, Nat.reduceAdd, Nat.reduceMul, Nat.reduceSub, reduceCtorEq, Int.reduceToNat] <;> (repeat' first | rfl | apply And.intro))) ?_
            rintro _ _ ⟨L2, rfl, rfl, hL2⟩
            unfold coO
            repeat' first | ((first | refine Br.dec ?_ ?_ | refine Br.eqi ?_ ?_) <;> intro h <;> try (exfalso; omega)) | (simp (disch := first | omega | (simp only [vlen]; first | done | omega)) only [vmy, ↓vAq, vBq, ↓reduceIte, Nat.reduceBEq, Nat.reduceEqDiff, Nat.reduceLT, Nat.reduceLeDiff, Nat.reduceAdd, Nat.reduceMul, Nat.reduceSub, reduceCtorEq, Int.reduceToNat]) | (refine Br.mk ?_ ?_ <;> intro h) | (refine BrN.mk (fun h => ?_) ?_) | (refine AltVC.mk ?_ ?_)
            exact fin_mk (.inr (.inr (.inr ⟨e, by omega, K1, hTg.tk, rfl⟩)))
          · repeat' first | ((first | refine Br.dec ?_ ?_ | refine Br.eqi ?_ ?_) <;> intro h <;> try (exfalso; omega)) | (simp (disch := first | omega | (simp only [vlen]; first | done | omega)) only [vmy, ↓vAq, vBq, ↓reduceIte, Nat.reduceBEq, Nat.reduceEqDiff, Nat.reduceLT, Nat.reduceLeDiff, Nat.reduceAdd, Nat.reduceMul, Nat.reduceSub, reduceCtorEq, Int.reduceToNat]) | (refine Br.mk ?_ ?_ <;> intro h) | (refine BrN.mk (fun h => ?_) ?_) | (refine AltVC.mk ?_ ?_)
            refine CallVC.eq heq ?_
            repeat' first | ((first | refine Br.dec ?_ ?_ | refine Br.eqi ?_ ?_) <;> intro h <;> try (exfalso; omega)) | (simp (disch := first | omega | (simp only [vlen]; first | done | omega)) only [vmy, ↓vAq, vBq, ↓reduceIte, Nat.reduceBEq, Nat.reduceEqDiff, Nat.reduceLT, Nat.reduceLeDiff, Nat.reduceAdd, Nat.reduceMul, Nat.reduceSub, reduceCtorEq, Int.reduceToNat]) | (refine Br.mk ?_ ?_ <;> intro h) | (refine BrN.mk (fun h => ?_) ?_) | (refine AltVC.mk ?_ ?_)
            refine CallVC.lendE [4, 3] [.ptr 0 6 0 0, .ag [iv .i64 q, .sl 3 es, .sl 1 (i64s wd)], .ag [iv .i64 (0 : Nat), iv .i64 w.length]] (coO g w L) hpl (by simp) (by rfl) (by unfold coO; (simp (disch := first | omega | (simp only [vlen]; first | done | omega)) only [vle0, ↓vAq, vBq, ↓reduceIte, Nat.reduceBEq, Nat.reduceEqDiff, Nat.reduceLT, Nat.reduceLeDiff, Nat.reduceAdd, Nat.reduceMul, Nat.reduceSub, reduceCtorEq, Int.reduceToNat] <;> (repeat' first | rfl | apply And.intro))) ?_
            rintro _ _ ⟨L2, rfl, rfl, hL2⟩
            unfold coO
            repeat' first | ((first | refine Br.dec ?_ ?_ | refine Br.eqi ?_ ?_) <;> intro h <;> try (exfalso; omega)) | (simp (disch := first | omega | (simp only [vlen]; first | done | omega)) only [vmy, ↓vAq, vBq, ↓reduceIte, Nat.reduceBEq, Nat.reduceEqDiff, Nat.reduceLT, Nat.reduceLeDiff, Nat.reduceAdd, Nat.reduceMul, Nat.reduceSub, reduceCtorEq, Int.reduceToNat]) | (refine Br.mk ?_ ?_ <;> intro h) | (refine BrN.mk (fun h => ?_) ?_) | (refine AltVC.mk ?_ ?_)
            exact fin_mk (.inr (.inr (.inr ⟨e, by omega, K1, hTg.tk, rfl⟩)))
        · have hnn := hnone fun r' ks' wd' h' hh => hwe ((hG.det h').2.1.trans hh.2)
          rw [decide_eq_false hwe] at heq
          rcases hK with rfl | ⟨es, rfl⟩
          all_goals
            repeat' first | ((first | refine Br.dec ?_ ?_ | refine Br.eqi ?_ ?_) <;> intro h <;> try (exfalso; omega)) | (simp (disch := first | omega | (simp only [vlen]; first | done | omega)) only [vmy, ↓vAq, vBq, ↓reduceIte, Nat.reduceBEq, Nat.reduceEqDiff, Nat.reduceLT, Nat.reduceLeDiff, Nat.reduceAdd, Nat.reduceMul, Nat.reduceSub, reduceCtorEq, Int.reduceToNat]) | (refine Br.mk ?_ ?_ <;> intro h) | (refine BrN.mk (fun h => ?_) ?_) | (refine AltVC.mk ?_ ?_)
            refine CallVC.eq heq ?_
            repeat' first | ((first | refine Br.dec ?_ ?_ | refine Br.eqi ?_ ?_) <;> intro h <;> try (exfalso; omega)) | (simp (disch := first | omega | (simp only [vlen]; first | done | omega)) only [vmy, ↓vAq, vBq, ↓reduceIte, Nat.reduceBEq, Nat.reduceEqDiff, Nat.reduceLT, Nat.reduceLeDiff, Nat.reduceAdd, Nat.reduceMul, Nat.reduceSub, reduceCtorEq, Int.reduceToNat]) | (refine Br.mk ?_ ?_ <;> intro h) | (refine BrN.mk (fun h => ?_) ?_) | (refine AltVC.mk ?_ ?_)
            exact fin_mk (.inr (.inr (.inl ⟨e, by omega, hnn, rfl⟩)))
      · have hnn := hnone fun r' ks' wd' h' hh => hr ((hG.det h').2.2.trans hh.1)
        have hr0 := List.length_pos_iff.2 hr
        rcases hK with rfl | ⟨es, rfl⟩
        all_goals
          repeat' first | ((first | refine Br.dec ?_ ?_ | refine Br.eqi ?_ ?_) <;> intro h <;> try (exfalso; omega)) | (simp (disch := first | omega | (simp only [vlen]; first | done | omega)) only [vmy, ↓vAq, vBq, ↓reduceIte, Nat.reduceBEq, Nat.reduceEqDiff, Nat.reduceLT, Nat.reduceLeDiff, Nat.reduceAdd, Nat.reduceMul, Nat.reduceSub, reduceCtorEq, Int.reduceToNat]) | (refine Br.mk ?_ ?_ <;> intro h) | (refine BrN.mk (fun h => ?_) ?_) | (refine AltVC.mk ?_ ?_)
          exact fin_mk (.inr (.inr (.inl ⟨e, by omega, hnn, rfl⟩)))
    · have hnn := hnone fun r' ks' wd' h' hh => hno _ _ _ h'
      repeat' first | ((first | refine Br.dec ?_ ?_ | refine Br.eqi ?_ ?_) <;> intro h <;> try (exfalso; omega)) | (simp (disch := first | omega | (simp only [vlen]; first | done | omega)) only [vmy, ↓vAq, vBq, ↓reduceIte, Nat.reduceBEq, Nat.reduceEqDiff, Nat.reduceLT, Nat.reduceLeDiff, Nat.reduceAdd, Nat.reduceMul, Nat.reduceSub, reduceCtorEq, Int.reduceToNat]) | (refine Br.mk ?_ ?_ <;> intro h) | (refine BrN.mk (fun h => ?_) ?_) | (refine AltVC.mk ?_ ?_)
      exact fin_mk (.inr (.inr (.inl ⟨e, by omega, hnn, rfl⟩)))
  · have e : trC g w = c := by
      unfold trC
      by_cases ht : tcode g w = 0
      · rw [if_pos ht] at h2
        rw [if_pos ht, if_pos (h3 ht), h2]
      · rw [if_neg ht] at h2
        rw [if_neg ht, h2]
    repeat' first | ((first | refine Br.dec ?_ ?_ | refine Br.eqi ?_ ?_) <;> intro h <;> try (exfalso; omega)) | (simp (disch := first | omega | (simp only [vlen]; first | done | omega)) only [vmy, ↓vAq, vBq, ↓reduceIte, Nat.reduceBEq, Nat.reduceEqDiff, Nat.reduceLT, Nat.reduceLeDiff, Nat.reduceAdd, Nat.reduceMul, Nat.reduceSub, reduceCtorEq, Int.reduceToNat]) | (refine Br.mk ?_ ?_ <;> intro h) | (refine BrN.mk (fun h => ?_) ?_) | (refine AltVC.mk ?_ ?_)
    exact fin_mk (.inl ⟨by rw [e]; exact h1, by rw [e]⟩)
end Go.Proofs.Ytjekkbpdgnohcaa
