/-
  coppicerref.splits: the walk.
-/
import Derived.Test.YtjekkbpdgnohcaaSpl
namespace Go.Proofs.Ytjekkbpdgnohcaa
open Go.Dm
set_option linter.unusedSimpArgs false
set_option linter.unnecessarySimpa false
set_option linter.unusedVariables false
set_option linter.defProp false
def wyS : List Int → Nat → List Nat → List (Nat × Nat × Int)
  | x :: l, i, e :: es => (i, e, x) :: wyS l e es
  | _, _, _ => []
def stD (s : Nat × Nat × Int) : List D := [iv .i64 s.1, iv .i64 s.2.1, iv .i64 s.2.2]
theorem stD_mk {a b : Nat} {x : Int} : stD (a, b, x) = [D.v (.int .i64 a), D.v (.int .i64 b), D.v (.int .i64 x)] := (rfl)
def wyD (l : List Int) (i : Nat) (es : List Nat) : List D := [if l = [] then .nl else .sl 3 (tbl stD (wyS l i es))]
theorem wyD_cons {x : Int} {l : List Int} {i : Nat} {es : List Nat} : wyD (x :: l) i es = [.sl 3 (tbl stD (wyS (x :: l) i es))] := (rfl)
theorem wy_app {l : List Int} {i : Nat} {L : List (List Nat)} {x : Int} {es : List Nat} : tbl (wyD (x :: l) i) L ++ [[D.sl 3 (tbl stD (wyS (x :: l) i es))]] = tbl (wyD (x :: l) i) (L ++ [es]) := by rw [tbl_app]; rfl
theorem st_cons {l : List Int} {i e : Nat} {x : Int} {es : List Nat} : [D.v (.int .i64 i), D.v (.int .i64 e), D.v (.int .i64 x)] :: tbl stD (wyS l e es) = tbl stD (wyS (x :: l) i (e :: es)) := (rfl)
theorem wy_kill {x : Int} {l : List Int} {i τ : Nat} {L : List (List Nat)} : (tbl (wyD (x :: l) i) L).map (fun e => e.map (D.kill τ)) = tbl (wyD (x :: l) i) L := by simp [tbl, wyD_cons, kill_sl]
theorem wy_frz {x : Int} {l : List Int} {i τ : Nat} {ob : Ob} {L : List (List Nat)} : (tbl (wyD (x :: l) i) L).map (fun e => e.map (D.frz τ ob)) = tbl (wyD (x :: l) i) L := by simp [tbl, wyD_cons, frz_sl]
theorem wy_clo {x : Int} {l : List Int} {i : Nat} {L : List (List Nat)} : (tbl (wyD (x :: l) i) L).all (fun e => e.all D.clo') = true := by simp [tbl, wyD_cons, clo'_sl]
theorem wy_view {x : Int} {l : List Int} {i e : Nat} {es : List Nat} : viewO (some ⟨3, tbl stD (wyS (x :: l) i (e :: es)), true, false, .arr⟩) 3 0 (1 + (wyS l e es).length) = .sl 3 (tbl stD (wyS (x :: l) i (e :: es))) := viewO_all (by rw [tbl_len]; simp [wyS]; omega)
def vsp := And.intro vbe <| And.intro @wy_kill <| And.intro @wy_frz <| And.intro @wy_clo <| And.intro @wy_view <| And.intro @stD_mk <| And.intro @wy_app <| And.intro @st_cons @tbl_len
theorem wyS_len : ∀ {l : List Int} {i : Nat} {es : List Nat}, (wyS l i es).length ≤ l.length
  | [], _, _ => by simp [wyS]
  | _ :: _, _, [] => by simp [wyS]
  | _ :: l, _, e :: es => by simp only [wyS, List.length_cons]; have := @wyS_len l e es; omega
def splR (g : Grammar) (w : List Int) (l : List Int) (i j : Nat) (d : D) (o : List (Option Ob)) : Prop := ∃ L, (d = .sl 1 (tbl (wyD l i) (splN g w l i j)) ∨ (d = .nl ∧ splN g w l i j = [])) ∧ o = (buO g w L).map some ∧ BI g w L
def spP (g : Grammar) (w : List Int) (l : List Int) (i j : Nat) : Prop := ∀ L, BI g w L → Dm.SpecH Try.prog 52 [.ptr 0 6 0 0, .sl 1 (i64s l), iv .i64 i, iv .i64 j] (buO g w L) (splR g w l i j)
set_option maxRecDepth 10000 in
set_option maxHeartbeats 4000000 in
theorem spl0_spec (g : Grammar) (w : List Int) (i j : Nat) (L : List BE) (hL : BI g w L) : Dm.SpecH Try.prog 52 [.ptr 0 6 0 0, .sl 1 (i64s []), iv .i64 i, iv .i64 j] (buO g w L) (splR g w [] i j) := by
  refine specH_of_vc mixed Try.func52 c52 (by rw [show Try.f52.ntmps = _ from Try.ntmps52]; simp) ?_
  unfold m52 r52
  unfold buO
  by_cases h : i = j
  · have hs : splN g w [] i j = [[]] := if_pos h
    repeat' first | ((first | refine Br.dec ?_ ?_ | refine Br.eqi ?_ ?_) <;> intro h <;> try (exfalso; omega)) | (simp (disch := (first | omega | (simp only [vlen]; first | done | omega))) only [vsp, ↓vAq, vBq, ↓reduceIte, Nat.reduceBEq, Nat.reduceEqDiff, Nat.reduceLT, Nat.reduceLeDiff, Nat.reduceAdd, Nat.reduceMul, Nat.reduceSub, reduceCtorEq, Int.reduceToNat]) | (refine Br.mk ?_ ?_ <;> intro h) | (refine BrN.mk (fun h => ?_) ?_) | (refine AltVC.mk ?_ ?_)
    refine FinH_frz (τ := 3) (ob := ⟨1, [[.nl]], true, false, .arr⟩) (by simp (disch := (first | omega | (simp only [vlen]; first | done | omega))) only [vsp, ↓vAq, vBq, ↓reduceIte, Nat.reduceBEq, Nat.reduceEqDiff, Nat.reduceLT, Nat.reduceLeDiff, Nat.reduceAdd, Nat.reduceMul, Nat.reduceSub, reduceCtorEq, Int.reduceToNat]) (by simp (disch := (first | omega | (simp only [vlen]; first | done | omega))) only [vsp, ↓vAq, vBq, ↓reduceIte, Nat.reduceBEq, Nat.reduceEqDiff, Nat.reduceLT, Nat.reduceLeDiff, Nat.reduceAdd, Nat.reduceMul, Nat.reduceSub, reduceCtorEq, Int.reduceToNat]) rfl rfl ?_
    repeat' first | ((first | refine Br.dec ?_ ?_ | refine Br.eqi ?_ ?_) <;> intro h <;> try (exfalso; omega)) | (simp (disch := (first | omega | (simp only [vlen]; first | done | omega))) only [vsp, ↓vAq, vBq, ↓reduceIte, Nat.reduceBEq, Nat.reduceEqDiff, Nat.reduceLT, Nat.reduceLeDiff, Nat.reduceAdd, Nat.reduceMul, Nat.reduceSub, reduceCtorEq, Int.reduceToNat]) | (refine Br.mk ?_ ?_ <;> intro h) | (refine BrN.mk (fun h => ?_) ?_) | (refine AltVC.mk ?_ ?_)
    exact finH_mk ((buO g w L).map some) (by simp [buO]) (by simp [buO]; simp (disch := (first | omega | (simp only [vlen]; first | done | omega))) only [vsp, ↓vAq, vBq, ↓reduceIte, Nat.reduceBEq, Nat.reduceEqDiff, Nat.reduceLT, Nat.reduceLeDiff, Nat.reduceAdd, Nat.reduceMul, Nat.reduceSub, reduceCtorEq, Int.reduceToNat]) (by unfold buO; simp (disch := (first | omega | (simp only [vlen]; first | done | omega))) only [vsp, ↓vAq, vBq, ↓reduceIte, Nat.reduceBEq, Nat.reduceEqDiff, Nat.reduceLT, Nat.reduceLeDiff, Nat.reduceAdd, Nat.reduceMul, Nat.reduceSub, reduceCtorEq, Int.reduceToNat]) ⟨L, .inl (by rw [hs]; (simp (disch := (first | omega | (simp only [vlen]; first | done | omega))) only [vsp, ↓vAq, vBq, ↓reduceIte, Nat.reduceBEq, Nat.reduceEqDiff, Nat.reduceLT, Nat.reduceLeDiff, Nat.reduceAdd, Nat.reduceMul, Nat.reduceSub, reduceCtorEq, Int.reduceToNat]); rfl), rfl, hL⟩
  · have hs : splN g w [] i j = [] := if_neg h
    repeat' first | ((first | refine Br.dec ?_ ?_ | refine Br.eqi ?_ ?_) <;> intro h <;> try (exfalso; omega)) | (simp (disch := (first | omega | (simp only [vlen]; first | done | omega))) only [vsp, ↓vAq, vBq, ↓reduceIte, Nat.reduceBEq, Nat.reduceEqDiff, Nat.reduceLT, Nat.reduceLeDiff, Nat.reduceAdd, Nat.reduceMul, Nat.reduceSub, reduceCtorEq, Int.reduceToNat]) | (refine Br.mk ?_ ?_ <;> intro h) | (refine BrN.mk (fun h => ?_) ?_) | (refine AltVC.mk ?_ ?_)
    refine FinH_frz (τ := 3) (ob := ⟨1, [], true, false, .arr⟩) (by simp (disch := (first | omega | (simp only [vlen]; first | done | omega))) only [vsp, ↓vAq, vBq, ↓reduceIte, Nat.reduceBEq, Nat.reduceEqDiff, Nat.reduceLT, Nat.reduceLeDiff, Nat.reduceAdd, Nat.reduceMul, Nat.reduceSub, reduceCtorEq, Int.reduceToNat]) (by simp (disch := (first | omega | (simp only [vlen]; first | done | omega))) only [vsp, ↓vAq, vBq, ↓reduceIte, Nat.reduceBEq, Nat.reduceEqDiff, Nat.reduceLT, Nat.reduceLeDiff, Nat.reduceAdd, Nat.reduceMul, Nat.reduceSub, reduceCtorEq, Int.reduceToNat]) rfl rfl ?_
    repeat' first | ((first | refine Br.dec ?_ ?_ | refine Br.eqi ?_ ?_) <;> intro h <;> try (exfalso; omega)) | (simp (disch := (first | omega | (simp only [vlen]; first | done | omega))) only [vsp, ↓vAq, vBq, ↓reduceIte, Nat.reduceBEq, Nat.reduceEqDiff, Nat.reduceLT, Nat.reduceLeDiff, Nat.reduceAdd, Nat.reduceMul, Nat.reduceSub, reduceCtorEq, Int.reduceToNat]) | (refine Br.mk ?_ ?_ <;> intro h) | (refine BrN.mk (fun h => ?_) ?_) | (refine AltVC.mk ?_ ?_)
    exact finH_mk ((buO g w L).map some) (by simp [buO]) (by simp [buO]; simp (disch := (first | omega | (simp only [vlen]; first | done | omega))) only [vsp, ↓vAq, vBq, ↓reduceIte, Nat.reduceBEq, Nat.reduceEqDiff, Nat.reduceLT, Nat.reduceLeDiff, Nat.reduceAdd, Nat.reduceMul, Nat.reduceSub, reduceCtorEq, Int.reduceToNat]) (by unfold buO; simp (disch := (first | omega | (simp only [vlen]; first | done | omega))) only [vsp, ↓vAq, vBq, ↓reduceIte, Nat.reduceBEq, Nat.reduceEqDiff, Nat.reduceLT, Nat.reduceLeDiff, Nat.reduceAdd, Nat.reduceMul, Nat.reduceSub, reduceCtorEq, Int.reduceToNat]) ⟨L, .inl (by rw [hs]; (simp (disch := (first | omega | (simp only [vlen]; first | done | omega))) only [vsp, ↓vAq, vBq, ↓reduceIte, Nat.reduceBEq, Nat.reduceEqDiff, Nat.reduceLT, Nat.reduceLeDiff, Nat.reduceAdd, Nat.reduceMul, Nat.reduceSub, reduceCtorEq, Int.reduceToNat]); rfl), rfl, hL⟩
set_option maxRecDepth 10000 in
set_option maxHeartbeats 4000000 in
theorem spl1_spec (g : Grammar) (w : List Int) (hc : CC g w) (x : Int) (l : List Int) (hl : l.length ≤ 3) (hx : ∀ y, y ∈ x :: l → 0 ≤ y ∧ y < g.k + g.n) (i j : Nat) (hij : i ≤ j) (hj : j ≤ w.length) (ih : ∀ m, i < m → m ≤ j → spP g w l m j) (L : List BE) (hL : BI g w L) : Dm.SpecH Try.prog 52 [.ptr 0 6 0 0, .sl 1 (i64s (x :: l)), iv .i64 i, iv .i64 j] (buO g w L) (splR g w (x :: l) i j) := by
  refine specH_of_vc mixed Try.func52 c52 (by rw [show Try.f52.ntmps = _ from Try.ntmps52]; simp) ?_
  unfold m52 r52
  have hw := hc.w
  have hx0 := hx x (by simp)
  have hll : (x :: l).length = l.length + 1 := rfl
  have hg0 : (x :: l).getD 0 0 = x := rfl
  have hd1 : (x :: l).drop 1 = l := rfl
  unfold buO
  repeat' first | ((first | refine Br.dec ?_ ?_ | refine Br.eqi ?_ ?_) <;> intro h <;> try (exfalso; omega)) | (simp (disch := (first | omega | (simp only [vlen]; first | done | omega))) only [vsp, hll, ↓vAq, vBq, ↓reduceIte, Nat.reduceBEq, Nat.reduceEqDiff, Nat.reduceLT, Nat.reduceLeDiff, Nat.reduceAdd, Nat.reduceMul, Nat.reduceSub, reduceCtorEq, Int.reduceToNat]) | (refine Br.mk ?_ ?_ <;> intro h) | (refine BrN.mk (fun h => ?_) ?_) | (refine AltVC.mk ?_ ?_)
  refine LoopVC.mk (X := Nat × List BE) (fun y => [(9, .ref 3 1 0 (splP g w x l i j y.1).length), (10, iv .i64 (i + 1 + y.1 : Nat))]) (fun y => buL g w y.2 ++ [(3, ⟨1, tbl (wyD (x :: l) i) (splP g w x l i j y.1), true, false, .arr⟩)]) (fun y => j - i - y.1) (fun y => y.1 ≤ j - i ∧ BI g w y.2 ∧ (splP g w x l i j y.1).length ≤ 2197 * y.1) (0, L) ⟨Nat.zero_le _, hL, by simp [splP]⟩ ?_ ?_
  · unfold buL
    (simp (disch := (first | omega | (simp only [vlen]; first | done | omega))) only [Fits_u, Fits_m, Fits_nil, List.length_append, vsp, ↓vAq, vBq, ↓reduceIte, Nat.reduceBEq, Nat.reduceEqDiff, Nat.reduceLT, Nat.reduceLeDiff, Nat.reduceAdd, Nat.reduceMul, Nat.reduceSub, reduceCtorEq, Int.reduceToNat] <;> (repeat' first | rfl | apply And.intro))
    all_goals first | rfl | trace_state
  · rintro ⟨q, Lx⟩ ⟨hq, hLx, hql⟩
    simp only at hq hLx hql ⊢
    unfold buL
    by_cases hqj : q < j - i
    · have hsu := @splP_succ g w x l i j q
      have hT := bushT_spec g w hc x i (i + 1 + q) hx0.1 hx0.2 (by omega) (by omega) Lx hLx
      have hsm := splN_small (g := g) (w := w) (l := l) (i := i + 1 + q) (j := j) hl (by omega)
      have hnone : (trees g w x i (i + 1 + q) = 0 ∨ rowN g w l (i + 1 + q) j = 0) → splP g w x l i j (q + 1) = splP g w x l i j q := fun h => by rw [hsu, if_pos h, List.append_nil]
      repeat' first | ((first | refine Br.dec ?_ ?_ | refine Br.eqi ?_ ?_) <;> intro h <;> try (exfalso; omega)) | (simp (disch := (first | omega | (simp only [vlen]; first | done | omega))) only [vsp, hg0, ↓vAq, vBq, ↓reduceIte, Nat.reduceBEq, Nat.reduceEqDiff, Nat.reduceLT, Nat.reduceLeDiff, Nat.reduceAdd, Nat.reduceMul, Nat.reduceSub, reduceCtorEq, Int.reduceToNat]) | (refine Br.mk ?_ ?_ <;> intro h) | (refine BrN.mk (fun h => ?_) ?_) | (refine AltVC.mk ?_ ?_)
      refine CallVC.lendE [0, 1] [.ptr 0 6 0 0, iv .i64 x, iv .i64 i, iv .i64 (i + 1 + q : Nat)] (buO g w Lx) hT (by simp) (by rfl) (by unfold buO; (simp (disch := (first | omega | (simp only [vlen]; first | done | omega))) only [vle0, ↓vAq, vBq, ↓reduceIte, Nat.reduceBEq, Nat.reduceEqDiff, Nat.reduceLT, Nat.reduceLeDiff, Nat.reduceAdd, Nat.reduceMul, Nat.reduceSub, reduceCtorEq, Int.reduceToNat] <;> (repeat' first | rfl | apply And.intro))) ?_
      rintro _ _ ⟨L2, rfl, rfl, hL2⟩
      unfold buO
      by_cases ht : trees g w x i (i + 1 + q) = 0
      · have hcz : ((cp (trees g w x i (i + 1 + q)) : Nat) : Int) = 0 := by rw [ht]; rfl
        repeat' first | ((first | refine Br.dec ?_ ?_ | refine Br.eqi ?_ ?_) <;> intro h <;> try (exfalso; omega)) | (simp (disch := (first | omega | (simp only [vlen]; first | done | omega))) only [vsp, hcz, ↓vAq, vBq, ↓reduceIte, Nat.reduceBEq, Nat.reduceEqDiff, Nat.reduceLT, Nat.reduceLeDiff, Nat.reduceAdd, Nat.reduceMul, Nat.reduceSub, reduceCtorEq, Int.reduceToNat]) | (refine Br.mk ?_ ?_ <;> intro h) | (refine BrN.mk (fun h => ?_) ?_) | (refine AltVC.mk ?_ ?_)
        refine loopK.mk (q + 1, L2) (by simp (disch := (first | omega | (simp only [vlen]; first | done | omega))) only [↓vAq, vBq, ↓reduceIte, Nat.reduceBEq, Nat.reduceEqDiff, Nat.reduceLT, Nat.reduceLeDiff, Nat.reduceAdd, Nat.reduceMul, Nat.reduceSub, reduceCtorEq, Int.reduceToNat]) ⟨by show q + 1 ≤ j - i; omega, hL2, by show (splP g w x l i j (q + 1)).length ≤ _; rw [hnone (.inl ht)]; omega⟩ (by show j - i - (q + 1) < j - i - q; omega) ?_
        rw [hnone (.inl ht)]
        (simp (disch := (first | omega | (simp only [vlen]; first | done | omega))) only [Fits_u, Fits_m, Fits_nil, List.length_append, vsp, ↓vAq, vBq, ↓reduceIte, Nat.reduceBEq, Nat.reduceEqDiff, Nat.reduceLT, Nat.reduceLeDiff, Nat.reduceAdd, Nat.reduceMul, Nat.reduceSub, reduceCtorEq, Int.reduceToNat] <;> (repeat' first | rfl | apply And.intro))
      · have hcz : ¬ ((cp (trees g w x i (i + 1 + q)) : Nat) : Int) = 0 := fun h => ht (cp_zero.mp (by omega))
        have hR := bushR_spec g w hc l (i + 1 + q) j (by omega) (fun k hk => hx _ (by rw [List.mem_cons]; exact .inr (getD_mem (l := l) (i := k) (d := 0) hk))) (by omega) hj L2 hL2
        repeat' first | ((first | refine Br.dec ?_ ?_ | refine Br.eqi ?_ ?_) <;> intro h <;> try (exfalso; omega)) | (simp (disch := (first | omega | (simp only [vlen]; first | done | omega))) only [vsp, hd1, ↓vAq, vBq, ↓reduceIte, Nat.reduceBEq, Nat.reduceEqDiff, Nat.reduceLT, Nat.reduceLeDiff, Nat.reduceAdd, Nat.reduceMul, Nat.reduceSub, reduceCtorEq, Int.reduceToNat]) | (refine Br.mk ?_ ?_ <;> intro h) | (refine BrN.mk (fun h => ?_) ?_) | (refine AltVC.mk ?_ ?_)
        refine CallVC.lendE [0, 1] [.ptr 0 6 0 0, .sl 1 (i64s l), iv .i64 (i + 1 + q : Nat), iv .i64 j] (buO g w L2) hR (by simp) (by rfl) (by unfold buO; (simp (disch := (first | omega | (simp only [vlen]; first | done | omega))) only [vle0, ↓vAq, vBq, ↓reduceIte, Nat.reduceBEq, Nat.reduceEqDiff, Nat.reduceLT, Nat.reduceLeDiff, Nat.reduceAdd, Nat.reduceMul, Nat.reduceSub, reduceCtorEq, Int.reduceToNat] <;> (repeat' first | rfl | apply And.intro))) ?_
        rintro _ _ ⟨L3, rfl, rfl, hL3⟩
        unfold buO
        by_cases hr : rowN g w l (i + 1 + q) j = 0
        · have hrz : ((cp (rowN g w l (i + 1 + q) j) : Nat) : Int) = 0 := by rw [hr]; rfl
          repeat' first | ((first | refine Br.dec ?_ ?_ | refine Br.eqi ?_ ?_) <;> intro h <;> try (exfalso; omega)) | (simp (disch := (first | omega | (simp only [vlen]; first | done | omega))) only [vsp, hrz, ↓vAq, vBq, ↓reduceIte, Nat.reduceBEq, Nat.reduceEqDiff, Nat.reduceLT, Nat.reduceLeDiff, Nat.reduceAdd, Nat.reduceMul, Nat.reduceSub, reduceCtorEq, Int.reduceToNat]) | (refine Br.mk ?_ ?_ <;> intro h) | (refine BrN.mk (fun h => ?_) ?_) | (refine AltVC.mk ?_ ?_)
          refine loopK.mk (q + 1, L3) (by simp (disch := (first | omega | (simp only [vlen]; first | done | omega))) only [↓vAq, vBq, ↓reduceIte, Nat.reduceBEq, Nat.reduceEqDiff, Nat.reduceLT, Nat.reduceLeDiff, Nat.reduceAdd, Nat.reduceMul, Nat.reduceSub, reduceCtorEq, Int.reduceToNat]) ⟨by show q + 1 ≤ j - i; omega, hL3, by show (splP g w x l i j (q + 1)).length ≤ _; rw [hnone (.inr hr)]; omega⟩ (by show j - i - (q + 1) < j - i - q; omega) ?_
          rw [hnone (.inr hr)]
          (simp (disch := (first | omega | (simp only [vlen]; first | done | omega))) only [Fits_u, Fits_m, Fits_nil, List.length_append, vsp, ↓vAq, vBq, ↓reduceIte, Nat.reduceBEq, Nat.reduceEqDiff, Nat.reduceLT, Nat.reduceLeDiff, Nat.reduceAdd, Nat.reduceMul, Nat.reduceSub, reduceCtorEq, Int.reduceToNat] <;> (repeat' first | rfl | apply And.intro))
        · have hrz : ¬ ((cp (rowN g w l (i + 1 + q) j) : Nat) : Int) = 0 := fun h => hr (cp_zero.mp (by omega))
          rw [if_neg (fun h => h.elim ht hr)] at hsu
          repeat' first | ((first | refine Br.dec ?_ ?_ | refine Br.eqi ?_ ?_) <;> intro h <;> try (exfalso; omega)) | (simp (disch := (first | omega | (simp only [vlen]; first | done | omega))) only [vsp, hd1, ↓vAq, vBq, ↓reduceIte, Nat.reduceBEq, Nat.reduceEqDiff, Nat.reduceLT, Nat.reduceLeDiff, Nat.reduceAdd, Nat.reduceMul, Nat.reduceSub, reduceCtorEq, Int.reduceToNat]) | (refine Br.mk ?_ ?_ <;> intro h) | (refine BrN.mk (fun h => ?_) ?_) | (refine AltVC.mk ?_ ?_)
          refine CallVC.lendE [0, 1] [.ptr 0 6 0 0, .sl 1 (i64s l), iv .i64 (i + 1 + q : Nat), iv .i64 j] (buO g w L3) (ih _ (by omega) (by omega) L3 hL3) (by simp) (by rfl) (by unfold buO; (simp (disch := (first | omega | (simp only [vlen]; first | done | omega))) only [vle0, ↓vAq, vBq, ↓reduceIte, Nat.reduceBEq, Nat.reduceEqDiff, Nat.reduceLT, Nat.reduceLeDiff, Nat.reduceAdd, Nat.reduceMul, Nat.reduceSub, reduceCtorEq, Int.reduceToNat] <;> (repeat' first | rfl | apply And.intro))) ?_
          rintro _ _ ⟨L4, hres, rfl, hL4⟩
          unfold buO
          rcases hres with rfl | ⟨rfl, hemp⟩
          · repeat' first | ((first | refine Br.dec ?_ ?_ | refine Br.eqi ?_ ?_) <;> intro h <;> try (exfalso; omega)) | (simp (disch := (first | omega | (simp only [vlen]; first | done | omega))) only [vsp, ↓vAq, vBq, ↓reduceIte, Nat.reduceBEq, Nat.reduceEqDiff, Nat.reduceLT, Nat.reduceLeDiff, Nat.reduceAdd, Nat.reduceMul, Nat.reduceSub, reduceCtorEq, Int.reduceToNat]) | (refine Br.mk ?_ ?_ <;> intro h) | (refine BrN.mk (fun h => ?_) ?_) | (refine AltVC.mk ?_ ?_)
            refine LoopVC.mk (X := Nat) (fun c => [(9, .ref 3 1 0 ((splP g w x l i j q).length + c)), (51, iv .i64 c)]) (fun c => buL g w L4 ++ [(3, ⟨1, tbl (wyD (x :: l) i) (splP g w x l i j q ++ ((splN g w l (i + 1 + q) j).take c).map fun r => (i + 1 + q) :: r), true, false, .arr⟩)]) (fun c => (splN g w l (i + 1 + q) j).length - c) (fun c => c ≤ (splN g w l (i + 1 + q) j).length) 0 (Nat.zero_le _) ?_ ?_
            · unfold buL
              simp only [List.take_zero, List.map_nil, List.append_nil]
              (simp (disch := (first | omega | (simp only [vlen]; first | done | omega))) only [Fits_u, Fits_m, Fits_nil, List.length_append, vsp, ↓vAq, vBq, ↓reduceIte, Nat.reduceBEq, Nat.reduceEqDiff, Nat.reduceLT, Nat.reduceLeDiff, Nat.reduceAdd, Nat.reduceMul, Nat.reduceSub, reduceCtorEq, Int.reduceToNat] <;> (repeat' first | rfl | apply And.intro))
              all_goals first | rfl | trace_state
            · intro c hcl
              unfold buL
              have hlc : (splP g w x l i j q ++ ((splN g w l (i + 1 + q) j).take c).map fun r => (i + 1 + q) :: r).length = (splP g w x l i j q).length + c := by rw [List.length_append, List.length_map, List.length_take]; omega
              by_cases hcn : c < (splN g w l (i + 1 + q) j).length
              · have htc : splP g w x l i j q ++ ((splN g w l (i + 1 + q) j).take (c + 1)).map (fun r => (i + 1 + q) :: r) = (splP g w x l i j q ++ ((splN g w l (i + 1 + q) j).take c).map fun r => (i + 1 + q) :: r) ++ [(i + 1 + q) :: (splN g w l (i + 1 + q) j).getD c default] := by
                  rw [List.take_add_one, List.getElem?_eq_getElem hcn, List.map_append, List.append_assoc]
                  simp [List.getD, hcn]
                have hwl := splN_wlen (getD_mem' (l := splN g w l (i + 1 + q) j) (i := c) hcn)
                generalize hLs : (splP g w x l i j q ++ ((splN g w l (i + 1 + q) j).take c).map fun r => (i + 1 + q) :: r) = Ls at hlc htc ⊢
                generalize hes : (splN g w l (i + 1 + q) j).getD c default = es at htc hwl ⊢
                have hrow : tbl (wyD (x :: l) i) (Ls ++ [(i + 1 + q) :: es]) = tbl (wyD (x :: l) i) Ls ++ [[D.sl 3 ([D.v (.int .i64 i), D.v (.int .i64 (i + 1 + q : Nat)), D.v (.int .i64 x)] :: tbl stD (wyS l (i + 1 + q) es))]] := by rw [tbl_app]; rfl
                rcases (show l = [] ∨ l ≠ [] by by_cases h : l = [] <;> simp [h]) with hl0 | hl0
                · have hwy : wyD l (i + 1 + q) es = [.nl] := by unfold wyD; rw [if_pos hl0]
                  have hws : wyS l (i + 1 + q) es = [] := by rw [hl0]; rfl
                  rw [hws] at hrow
                  repeat' first | ((first | refine Br.dec ?_ ?_ | refine Br.eqi ?_ ?_) <;> intro h <;> try (exfalso; omega)) | (simp (disch := (first | omega | (simp only [vlen]; first | done | omega))) only [vsp, hg0, hes, hwy, ↓vAq, vBq, ↓reduceIte, Nat.reduceBEq, Nat.reduceEqDiff, Nat.reduceLT, Nat.reduceLeDiff, Nat.reduceAdd, Nat.reduceMul, Nat.reduceSub, reduceCtorEq, Int.reduceToNat]) | (refine Br.mk ?_ ?_ <;> intro h) | (refine BrN.mk (fun h => ?_) ?_) | (refine AltVC.mk ?_ ?_)
                  refine loopK.frz 4 ?_
                  repeat' first | ((first | refine Br.dec ?_ ?_ | refine Br.eqi ?_ ?_) <;> intro h <;> try (exfalso; omega)) | (simp (disch := (first | omega | (simp only [vlen]; first | done | omega))) only [vsp, hg0, hes, hwy, ↓vAq, vBq, ↓reduceIte, Nat.reduceBEq, Nat.reduceEqDiff, Nat.reduceLT, Nat.reduceLeDiff, Nat.reduceAdd, Nat.reduceMul, Nat.reduceSub, reduceCtorEq, Int.reduceToNat]) | (refine Br.mk ?_ ?_ <;> intro h) | (refine BrN.mk (fun h => ?_) ?_) | (refine AltVC.mk ?_ ?_)
                  refine loopK.flt 3 ?_
                  repeat' first | ((first | refine Br.dec ?_ ?_ | refine Br.eqi ?_ ?_) <;> intro h <;> try (exfalso; omega)) | (simp (disch := (first | omega | (simp only [vlen]; first | done | omega))) only [vsp, hg0, hes, hwy, ↓vAq, vBq, ↓reduceIte, Nat.reduceBEq, Nat.reduceEqDiff, Nat.reduceLT, Nat.reduceLeDiff, Nat.reduceAdd, Nat.reduceMul, Nat.reduceSub, reduceCtorEq, Int.reduceToNat]) | (refine Br.mk ?_ ?_ <;> intro h) | (refine BrN.mk (fun h => ?_) ?_) | (refine AltVC.mk ?_ ?_)
                  refine loopK.mk (c + 1) (by simp (disch := (first | omega | (simp only [vlen]; first | done | omega))) only [↓vAq, vBq, ↓reduceIte, Nat.reduceBEq, Nat.reduceEqDiff, Nat.reduceLT, Nat.reduceLeDiff, Nat.reduceAdd, Nat.reduceMul, Nat.reduceSub, reduceCtorEq, Int.reduceToNat]) (by show c + 1 ≤ (splN g w l (i + 1 + q) j).length; omega) (by show (splN g w l (i + 1 + q) j).length - (c + 1) < (splN g w l (i + 1 + q) j).length - c; omega) ?_
                  rw [htc, hrow]
                  (simp (disch := (first | omega | (simp only [vlen]; first | done | omega))) only [Fits_u, Fits_m, Fits_nil, List.length_append, vsp, hlc, ↓vAq, vBq, ↓reduceIte, Nat.reduceBEq, Nat.reduceEqDiff, Nat.reduceLT, Nat.reduceLeDiff, Nat.reduceAdd, Nat.reduceMul, Nat.reduceSub, reduceCtorEq, Int.reduceToNat] <;> (repeat' first | rfl | apply And.intro))
                  all_goals first | rfl | trace_state
                · have hwsl := @wyS_len l (i + 1 + q) es
                  have hwy : wyD l (i + 1 + q) es = [.sl 3 (tbl stD (wyS l (i + 1 + q) es))] := by unfold wyD; rw [if_neg hl0]
                  repeat' first | ((first | refine Br.dec ?_ ?_ | refine Br.eqi ?_ ?_) <;> intro h <;> try (exfalso; omega)) | (simp (disch := (first | omega | (simp only [vlen]; first | done | omega))) only [vsp, hg0, hes, hwy, ↓vAq, vBq, ↓reduceIte, Nat.reduceBEq, Nat.reduceEqDiff, Nat.reduceLT, Nat.reduceLeDiff, Nat.reduceAdd, Nat.reduceMul, Nat.reduceSub, reduceCtorEq, Int.reduceToNat]) | (refine Br.mk ?_ ?_ <;> intro h) | (refine BrN.mk (fun h => ?_) ?_) | (refine AltVC.mk ?_ ?_)
                  refine loopK.frz 4 ?_
                  repeat' first | ((first | refine Br.dec ?_ ?_ | refine Br.eqi ?_ ?_) <;> intro h <;> try (exfalso; omega)) | (simp (disch := (first | omega | (simp only [vlen]; first | done | omega))) only [vsp, hg0, hes, hwy, ↓vAq, vBq, ↓reduceIte, Nat.reduceBEq, Nat.reduceEqDiff, Nat.reduceLT, Nat.reduceLeDiff, Nat.reduceAdd, Nat.reduceMul, Nat.reduceSub, reduceCtorEq, Int.reduceToNat]) | (refine Br.mk ?_ ?_ <;> intro h) | (refine BrN.mk (fun h => ?_) ?_) | (refine AltVC.mk ?_ ?_)
                  refine loopK.flt 3 ?_
                  repeat' first | ((first | refine Br.dec ?_ ?_ | refine Br.eqi ?_ ?_) <;> intro h <;> try (exfalso; omega)) | (simp (disch := (first | omega | (simp only [vlen]; first | done | omega))) only [vsp, hg0, hes, hwy, ↓vAq, vBq, ↓reduceIte, Nat.reduceBEq, Nat.reduceEqDiff, Nat.reduceLT, Nat.reduceLeDiff, Nat.reduceAdd, Nat.reduceMul, Nat.reduceSub, reduceCtorEq, Int.reduceToNat]) | (refine Br.mk ?_ ?_ <;> intro h) | (refine BrN.mk (fun h => ?_) ?_) | (refine AltVC.mk ?_ ?_)
                  refine loopK.mk (c + 1) (by simp (disch := (first | omega | (simp only [vlen]; first | done | omega))) only [↓vAq, vBq, ↓reduceIte, Nat.reduceBEq, Nat.reduceEqDiff, Nat.reduceLT, Nat.reduceLeDiff, Nat.reduceAdd, Nat.reduceMul, Nat.reduceSub, reduceCtorEq, Int.reduceToNat]) (by show c + 1 ≤ (splN g w l (i + 1 + q) j).length; omega) (by show (splN g w l (i + 1 + q) j).length - (c + 1) < (splN g w l (i + 1 + q) j).length - c; omega) ?_
                  rw [htc, hrow]
                  (simp (disch := (first | omega | (simp only [vlen]; first | done | omega))) only [Fits_u, Fits_m, Fits_nil, List.length_append, vsp, hlc, ↓vAq, vBq, ↓reduceIte, Nat.reduceBEq, Nat.reduceEqDiff, Nat.reduceLT, Nat.reduceLeDiff, Nat.reduceAdd, Nat.reduceMul, Nat.reduceSub, reduceCtorEq, Int.reduceToNat] <;> (repeat' first | rfl | apply And.intro))
                  all_goals first | rfl | trace_state
              · have hce : c = (splN g w l (i + 1 + q) j).length := by omega
                subst hce
                rw [List.take_length] at hlc ⊢
                rw [← hsu] at hlc ⊢
                repeat' first | ((first | refine Br.dec ?_ ?_ | refine Br.eqi ?_ ?_) <;> intro h <;> try (exfalso; omega)) | (simp (disch := (first | omega | (simp only [vlen]; first | done | omega))) only [vsp, ↓vAq, vBq, ↓reduceIte, Nat.reduceBEq, Nat.reduceEqDiff, Nat.reduceLT, Nat.reduceLeDiff, Nat.reduceAdd, Nat.reduceMul, Nat.reduceSub, reduceCtorEq, Int.reduceToNat]) | (refine Br.mk ?_ ?_ <;> intro h) | (refine BrN.mk (fun h => ?_) ?_) | (refine AltVC.mk ?_ ?_)
                refine loopK.mk (q + 1, L4) (by simp (disch := (first | omega | (simp only [vlen]; first | done | omega))) only [↓vAq, vBq, ↓reduceIte, Nat.reduceBEq, Nat.reduceEqDiff, Nat.reduceLT, Nat.reduceLeDiff, Nat.reduceAdd, Nat.reduceMul, Nat.reduceSub, reduceCtorEq, Int.reduceToNat]) ⟨by show q + 1 ≤ j - i; omega, hL4, by show (splP g w x l i j (q + 1)).length ≤ _; omega⟩ (by show j - i - (q + 1) < j - i - q; omega) ?_
                rw [hlc]
                (simp (disch := (first | omega | (simp only [vlen]; first | done | omega))) only [Fits_u, Fits_m, Fits_nil, List.length_append, vsp, ↓vAq, vBq, ↓reduceIte, Nat.reduceBEq, Nat.reduceEqDiff, Nat.reduceLT, Nat.reduceLeDiff, Nat.reduceAdd, Nat.reduceMul, Nat.reduceSub, reduceCtorEq, Int.reduceToNat] <;> (repeat' first | rfl | apply And.intro))
                all_goals first | rfl | trace_state
          · rw [hemp, List.map_nil, List.append_nil] at hsu
            repeat' first | ((first | refine Br.dec ?_ ?_ | refine Br.eqi ?_ ?_) <;> intro h <;> try (exfalso; omega)) | (simp (disch := (first | omega | (simp only [vlen]; first | done | omega))) only [vsp, ↓vAq, vBq, ↓reduceIte, Nat.reduceBEq, Nat.reduceEqDiff, Nat.reduceLT, Nat.reduceLeDiff, Nat.reduceAdd, Nat.reduceMul, Nat.reduceSub, reduceCtorEq, Int.reduceToNat]) | (refine Br.mk ?_ ?_ <;> intro h) | (refine BrN.mk (fun h => ?_) ?_) | (refine AltVC.mk ?_ ?_)
            refine LoopVC.mk (X := Unit) (fun _ => [(9, .ref 3 1 0 (splP g w x l i j q).length), (51, iv .i64 0)]) (fun _ => buL g w L4 ++ [(3, ⟨1, tbl (wyD (x :: l) i) (splP g w x l i j q), true, false, .arr⟩)]) (fun _ => 0) (fun _ => True) () trivial ?_ ?_
            · unfold buL
              (simp (disch := (first | omega | (simp only [vlen]; first | done | omega))) only [Fits_u, Fits_m, Fits_nil, List.length_append, vsp, ↓vAq, vBq, ↓reduceIte, Nat.reduceBEq, Nat.reduceEqDiff, Nat.reduceLT, Nat.reduceLeDiff, Nat.reduceAdd, Nat.reduceMul, Nat.reduceSub, reduceCtorEq, Int.reduceToNat] <;> (repeat' first | rfl | apply And.intro))
              all_goals first | rfl | trace_state
            · rintro _ _
              unfold buL
              repeat' first | ((first | refine Br.dec ?_ ?_ | refine Br.eqi ?_ ?_) <;> intro h <;> try (exfalso; omega)) | (simp (disch := (first | omega | (simp only [vlen]; first | done | omega))) only [vsp, ↓vAq, vBq, ↓reduceIte, Nat.reduceBEq, Nat.reduceEqDiff, Nat.reduceLT, Nat.reduceLeDiff, Nat.reduceAdd, Nat.reduceMul, Nat.reduceSub, reduceCtorEq, Int.reduceToNat]) | (refine Br.mk ?_ ?_ <;> intro h) | (refine BrN.mk (fun h => ?_) ?_) | (refine AltVC.mk ?_ ?_)
              refine loopK.mk (q + 1, L4) (by simp (disch := (first | omega | (simp only [vlen]; first | done | omega))) only [↓vAq, vBq, ↓reduceIte, Nat.reduceBEq, Nat.reduceEqDiff, Nat.reduceLT, Nat.reduceLeDiff, Nat.reduceAdd, Nat.reduceMul, Nat.reduceSub, reduceCtorEq, Int.reduceToNat]) ⟨by show q + 1 ≤ j - i; omega, hL4, by show (splP g w x l i j (q + 1)).length ≤ _; rw [hsu]; omega⟩ (by show j - i - (q + 1) < j - i - q; omega) ?_
              rw [hsu]
              (simp (disch := (first | omega | (simp only [vlen]; first | done | omega))) only [Fits_u, Fits_m, Fits_nil, List.length_append, vsp, ↓vAq, vBq, ↓reduceIte, Nat.reduceBEq, Nat.reduceEqDiff, Nat.reduceLT, Nat.reduceLeDiff, Nat.reduceAdd, Nat.reduceMul, Nat.reduceSub, reduceCtorEq, Int.reduceToNat] <;> (repeat' first | rfl | apply And.intro))
              all_goals first | rfl | trace_state
    · have hqe : q = j - i := by omega
      subst hqe
      repeat' first | ((first | refine Br.dec ?_ ?_ | refine Br.eqi ?_ ?_) <;> intro h <;> try (exfalso; omega)) | (simp (disch := (first | omega | (simp only [vlen]; first | done | omega))) only [vsp, ↓vAq, vBq, ↓reduceIte, Nat.reduceBEq, Nat.reduceEqDiff, Nat.reduceLT, Nat.reduceLeDiff, Nat.reduceAdd, Nat.reduceMul, Nat.reduceSub, reduceCtorEq, Int.reduceToNat]) | (refine Br.mk ?_ ?_ <;> intro h) | (refine BrN.mk (fun h => ?_) ?_) | (refine AltVC.mk ?_ ?_)
      refine FinH_frz (τ := 3) (ob := ⟨1, tbl (wyD (x :: l) i) (splP g w x l i j (j - i)), true, false, .arr⟩) (by simp (disch := (first | omega | (simp only [vlen]; first | done | omega))) only [vsp, ↓vAq, vBq, ↓reduceIte, Nat.reduceBEq, Nat.reduceEqDiff, Nat.reduceLT, Nat.reduceLeDiff, Nat.reduceAdd, Nat.reduceMul, Nat.reduceSub, reduceCtorEq, Int.reduceToNat]) (by simp (disch := (first | omega | (simp only [vlen]; first | done | omega))) only [vsp, ↓vAq, vBq, ↓reduceIte, Nat.reduceBEq, Nat.reduceEqDiff, Nat.reduceLT, Nat.reduceLeDiff, Nat.reduceAdd, Nat.reduceMul, Nat.reduceSub, reduceCtorEq, Int.reduceToNat]) rfl rfl ?_
      repeat' first | ((first | refine Br.dec ?_ ?_ | refine Br.eqi ?_ ?_) <;> intro h <;> try (exfalso; omega)) | (simp (disch := (first | omega | (simp only [vlen]; first | done | omega))) only [vsp, ↓vAq, vBq, ↓reduceIte, Nat.reduceBEq, Nat.reduceEqDiff, Nat.reduceLT, Nat.reduceLeDiff, Nat.reduceAdd, Nat.reduceMul, Nat.reduceSub, reduceCtorEq, Int.reduceToNat]) | (refine Br.mk ?_ ?_ <;> intro h) | (refine BrN.mk (fun h => ?_) ?_) | (refine AltVC.mk ?_ ?_)
      exact finH_mk ((buO g w Lx).map some) (by simp [buO]) (by simp [buO]; simp (disch := (first | omega | (simp only [vlen]; first | done | omega))) only [vsp, ↓vAq, vBq, ↓reduceIte, Nat.reduceBEq, Nat.reduceEqDiff, Nat.reduceLT, Nat.reduceLeDiff, Nat.reduceAdd, Nat.reduceMul, Nat.reduceSub, reduceCtorEq, Int.reduceToNat]) (by unfold buO; simp (disch := (first | omega | (simp only [vlen]; first | done | omega))) only [vsp, ↓vAq, vBq, ↓reduceIte, Nat.reduceBEq, Nat.reduceEqDiff, Nat.reduceLT, Nat.reduceLeDiff, Nat.reduceAdd, Nat.reduceMul, Nat.reduceSub, reduceCtorEq, Int.reduceToNat]) ⟨Lx, .inl (by rw [splN_cons]; simp (disch := (first | omega | (simp only [vlen]; first | done | omega))) only [vsp, ↓vAq, vBq, ↓reduceIte, Nat.reduceBEq, Nat.reduceEqDiff, Nat.reduceLT, Nat.reduceLeDiff, Nat.reduceAdd, Nat.reduceMul, Nat.reduceSub, reduceCtorEq, Int.reduceToNat]), rfl, hLx⟩
theorem spl_all (g : Grammar) (w : List Int) (hc : CC g w) : ∀ (l : List Int), l.length ≤ 4 → (∀ y, y ∈ l → 0 ≤ y ∧ y < g.k + g.n) → ∀ i j, i ≤ j → j ≤ w.length → spP g w l i j
  | [], _, _, i, j, _, _ => fun L hL => spl0_spec g w i j L hL
  | x :: l, hl, hx, i, j, hij, hj => fun L hL => spl1_spec g w hc x l (by simp only [List.length_cons] at hl; omega) hx i j hij hj (fun m h1 h2 => spl_all g w hc l (by simp only [List.length_cons] at hl; omega) (fun y hy => hx y (List.mem_cons_of_mem _ hy)) m j h2 hj) L hL
end Go.Proofs.Ytjekkbpdgnohcaa
