/-
  climb.Show.
-/
import Derived.Test.YtllkafockafdcaaClimbZ2
import Derived.Test.YtllkafockafdcaaLib
namespace Go.Proofs.Ytllkafockafdcaa
open Go.Dm
set_option linter.unusedSimpArgs false
set_option linter.unnecessarySimpa false
set_option linter.unusedVariables false
set_option linter.defProp false
/-- An expression with the operator that is applied last. -/
def wrD (x : List Int × Int) : List D := [.sl 1 (i64s x.1), iv .i64 x.2]
theorem wrD_eq {x : List Int × Int} : wrD x = [.sl 1 (i64s x.1), iv .i64 x.2] := (rfl)
theorem wr_kill {st : List (List Int × Int)} {τ : Nat} : (tbl wrD st).map (fun e => e.map (D.kill τ)) = tbl wrD st := by simp [tbl, wrD, kill_sl, kill_v]
theorem wr_frz {st : List (List Int × Int)} {τ : Nat} {ob : Ob} : (tbl wrD st).map (fun e => e.map (D.frz τ ob)) = tbl wrD st := by simp [tbl, wrD, frz_sl, frz_v]
theorem wr_clo {st : List (List Int × Int)} : (tbl wrD st).all (fun e => e.all D.clo') = true := by simp [tbl, wrD, clo'_sl, clo'_v]
theorem wr_snoc {st : List (List Int × Int)} {e : List Int} {la : Int} : tbl wrD st ++ [[D.sl 1 (i64s e), iv .i64 la]] = tbl wrD (st ++ [(e, la)]) := (tbl_app (f := wrD) (x := (e, la))).symm
theorem wr_snoc' {st : List (List Int × Int)} {e : List Int} {la : Int} : tbl wrD st ++ [[D.sl 1 (i64s e), D.v (.int .i64 la)]] = tbl wrD (st ++ [(e, la)]) := (tbl_app (f := wrD) (x := (e, la))).symm
theorem rows3 {x y : List Int} {s : Int} : [[D.sl 1 (i64s x)], [D.sl 1 [[D.v (.int .i64 s)]]], [D.sl 1 (i64s y)]] = rows i64s [x, [s], y] := (rfl)
def vwr := And.intro vcs2 <| And.intro @wr_kill <| And.intro @wr_frz <| And.intro @wr_clo <| And.intro @wrD_eq <| And.intro @Int.add_sub_cancel @Int.add_sub_cancel
/-- A stack of expressions, and what has been read. -/
inductive StR (ops : List Opr) : List Int → List (List Int × Int) → Prop
  | nil : StR ops [] []
  | push {q p e : List Int} {la : Int} {st : List (List Int × Int)} (h : StR ops q st) (s : ShR ops p e la) : StR ops (q ++ p) (st ++ [(e, la)])
theorem StR.pop {ops : List Opr} {q : List Int} {st : List (List Int × Int)} (h : StR ops q st) (hn : 0 < st.length) : ∃ q' p e la st', q = q' ++ p ∧ st = st' ++ [(e, la)] ∧ StR ops q' st' ∧ ShR ops p e la := by
  cases h with
  | nil => exact absurd hn (Nat.not_lt_zero _)
  | push h s => exact ⟨_, _, _, _, _, rfl, rfl, h, s⟩
theorem StR.wg {ops : List Opr} (hn : ops.length ≤ 100) {q : List Int} {st : List (List Int × Int)} (h : StR ops q st) : wgP q = st.length := by
  induction h with
  | nil => rfl
  | push _ s ih => rw [wgP_app, ih, (po_wg (shR_po hn s)).1, List.length_append]; simp
theorem StR.len {ops : List Opr} (hn : ops.length ≤ 100) {q : List Int} {st : List (List Int × Int)} (h : StR ops q st) : st.length ≤ q.length := by
  induction h with
  | nil => simp
  | push _ s ih =>
    have := List.length_pos_iff.mpr (po_pos (shR_po hn s))
    simp only [List.length_append, List.length_cons, List.length_nil]; omega
set_option maxRecDepth 10000 in
set_option maxHeartbeats 4000000 in
theorem within_spec (e : List Int) (he : e.length ≤ 1000) (la : Int) (b : Bool) : Dm.Spec Try.prog 38 [.ag [.sl 1 (i64s e), iv .i64 la], .v (.bool b)] (· = .sl 1 (i64s (wi e b))) := by
  refine spec_of_vc mixed Try.func38 c38 (by rw [show Try.f38.ntmps = _ from Try.ntmps38]; simp) ?_
  unfold m38 r38
  cases b with
  | false =>
    repeat' first | (refine Br.dec (fun h => ?_) (fun h => ?_) <;> try (exfalso; omega)) | (refine Br.eqi (fun h => ?_) (fun h => ?_) <;> try (exfalso; omega)) | (simp (disch := (first | omega | (simp only [vlen]; first | done | omega))) only [vcs2, ↓va0, ↓va1, ↓va2, ↓va3, vb0, vb1, vb2, vb3, vb4, vb5, vb6, vb7, vb8, vb9, vb10, vz0, vz1, vy0, vx0, ↓reduceIte, Nat.reduceBEq, Nat.reduceEqDiff, Nat.reduceLT, Nat.reduceLeDiff, Nat.reduceAdd, Nat.reduceMul, Nat.reduceSub, reduceCtorEq, Int.reduceToNat]) | (refine Br.mk (fun h => ?_) (fun h => ?_)) | (refine BrN.mk (fun h => ?_) ?_) | (refine AltVC.mk ?_ ?_)
    exact fin_mk rfl
  | true =>
    have hK := concat_int [[-1], e, [-2]] (by simp) (by simp; omega)
    repeat' first | (refine Br.dec (fun h => ?_) (fun h => ?_) <;> try (exfalso; omega)) | (refine Br.eqi (fun h => ?_) (fun h => ?_) <;> try (exfalso; omega)) | (simp (disch := (first | omega | (simp only [vlen]; first | done | omega))) only [vcs2, ↓va0, ↓va1, ↓va2, ↓va3, vb0, vb1, vb2, vb3, vb4, vb5, vb6, vb7, vb8, vb9, vb10, vz0, vz1, vy0, vx0, ↓reduceIte, Nat.reduceBEq, Nat.reduceEqDiff, Nat.reduceLT, Nat.reduceLeDiff, Nat.reduceAdd, Nat.reduceMul, Nat.reduceSub, reduceCtorEq, Int.reduceToNat]) | (refine Br.mk (fun h => ?_) (fun h => ?_)) | (refine BrN.mk (fun h => ?_) ?_) | (refine AltVC.mk ?_ ?_)
    refine CallVC.frz 2 ?_
    repeat' first | (refine Br.dec (fun h => ?_) (fun h => ?_) <;> try (exfalso; omega)) | (refine Br.eqi (fun h => ?_) (fun h => ?_) <;> try (exfalso; omega)) | (simp (disch := (first | omega | (simp only [vlen]; first | done | omega))) only [vcs2, ↓va0, ↓va1, ↓va2, ↓va3, vb0, vb1, vb2, vb3, vb4, vb5, vb6, vb7, vb8, vb9, vb10, vz0, vz1, vy0, vx0, ↓reduceIte, Nat.reduceBEq, Nat.reduceEqDiff, Nat.reduceLT, Nat.reduceLeDiff, Nat.reduceAdd, Nat.reduceMul, Nat.reduceSub, reduceCtorEq, Int.reduceToNat]) | (refine Br.mk (fun h => ?_) (fun h => ?_)) | (refine BrN.mk (fun h => ?_) ?_) | (refine AltVC.mk ?_ ?_)
    refine CallVC.frz 3 ?_
    repeat' first | (refine Br.dec (fun h => ?_) (fun h => ?_) <;> try (exfalso; omega)) | (refine Br.eqi (fun h => ?_) (fun h => ?_) <;> try (exfalso; omega)) | (simp (disch := (first | omega | (simp only [vlen]; first | done | omega))) only [vcs2, ↓va0, ↓va1, ↓va2, ↓va3, vb0, vb1, vb2, vb3, vb4, vb5, vb6, vb7, vb8, vb9, vb10, vz0, vz1, vy0, vx0, ↓reduceIte, Nat.reduceBEq, Nat.reduceEqDiff, Nat.reduceLT, Nat.reduceLeDiff, Nat.reduceAdd, Nat.reduceMul, Nat.reduceSub, reduceCtorEq, Int.reduceToNat]) | (refine Br.mk (fun h => ?_) (fun h => ?_)) | (refine BrN.mk (fun h => ?_) ?_) | (refine AltVC.mk ?_ ?_)
    refine CallVC.fl 4 ?_
    repeat' first | (refine Br.dec (fun h => ?_) (fun h => ?_) <;> try (exfalso; omega)) | (refine Br.eqi (fun h => ?_) (fun h => ?_) <;> try (exfalso; omega)) | (simp (disch := (first | omega | (simp only [vlen]; first | done | omega))) only [vcs2, ↓va0, ↓va1, ↓va2, ↓va3, vb0, vb1, vb2, vb3, vb4, vb5, vb6, vb7, vb8, vb9, vb10, vz0, vz1, vy0, vx0, ↓reduceIte, Nat.reduceBEq, Nat.reduceEqDiff, Nat.reduceLT, Nat.reduceLeDiff, Nat.reduceAdd, Nat.reduceMul, Nat.reduceSub, reduceCtorEq, Int.reduceToNat]) | (refine Br.mk (fun h => ?_) (fun h => ?_)) | (refine BrN.mk (fun h => ?_) ?_) | (refine AltVC.mk ?_ ?_)
    refine CallVC.frz 4 ?_
    repeat' first | (refine Br.dec (fun h => ?_) (fun h => ?_) <;> try (exfalso; omega)) | (refine Br.eqi (fun h => ?_) (fun h => ?_) <;> try (exfalso; omega)) | (simp (disch := (first | omega | (simp only [vlen]; first | done | omega))) only [vcs2, ↓va0, ↓va1, ↓va2, ↓va3, vb0, vb1, vb2, vb3, vb4, vb5, vb6, vb7, vb8, vb9, vb10, vz0, vz1, vy0, vx0, ↓reduceIte, Nat.reduceBEq, Nat.reduceEqDiff, Nat.reduceLT, Nat.reduceLeDiff, Nat.reduceAdd, Nat.reduceMul, Nat.reduceSub, reduceCtorEq, Int.reduceToNat]) | (refine Br.mk (fun h => ?_) (fun h => ?_)) | (refine BrN.mk (fun h => ?_) ?_) | (refine AltVC.mk ?_ ?_)
    rw [show [[D.sl 1 [[D.v (Value.int IntKind.i64 (-1))]]], [D.sl 1 (i64s e)], [D.sl 1 [[D.v (Value.int IntKind.i64 (-2))]]]] = rows i64s [[-1], e, [-2]] from rfl]
    refine CallVC.eq hK ?_
    repeat' first | (refine Br.dec (fun h => ?_) (fun h => ?_) <;> try (exfalso; omega)) | (refine Br.eqi (fun h => ?_) (fun h => ?_) <;> try (exfalso; omega)) | (simp (disch := (first | omega | (simp only [vlen]; first | done | omega))) only [vcs2, ↓va0, ↓va1, ↓va2, ↓va3, vb0, vb1, vb2, vb3, vb4, vb5, vb6, vb7, vb8, vb9, vb10, vz0, vz1, vy0, vx0, ↓reduceIte, Nat.reduceBEq, Nat.reduceEqDiff, Nat.reduceLT, Nat.reduceLeDiff, Nat.reduceAdd, Nat.reduceMul, Nat.reduceSub, reduceCtorEq, Int.reduceToNat]) | (refine Br.mk (fun h => ?_) (fun h => ?_)) | (refine BrN.mk (fun h => ?_) ?_) | (refine AltVC.mk ?_ ?_)
    exact fin_mk (by simp [wi, prn])
theorem code_vp {ops : List Opr} {l : List Int} (h : opCode ops l false = 0) : ∀ s, s ∈ l → vP ops s := fun s hs => by
  have h4 := (code_ok h).2.2.2
  have : sgBad ops.length false s = false := by
    cases e : sgBad ops.length false s with
    | false => rfl
    | true => rw [List.any_eq_true.mpr ⟨s, hs, e⟩] at h4; cases h4
  unfold sgBad at this
  simp only [Bool.and_eq_false_iff, Bool.not_eq_false', decide_eq_false_iff_not, decide_eq_true_eq, Bool.and_eq_true] at this
  unfold vP
  rcases this with (g | g) | g
  · exact .inl g
  · exact .inr (by omega)
  · cases g.2
/-- What climb.Show answers. -/
def ShF (ops : List Opr) (p : List Int) (d : D) : Prop :=
  (opCode ops p false ≠ 0 ∧ d = .tu [.sl 1 [], iv .i64 (opCode ops p false)]) ∨ (opCode ops p false = 0 ∧ ¬ PO p ∧ d = .tu [.sl 1 [], iv .i64 5]) ∨
  (opCode ops p false = 0 ∧ PO p ∧ ∃ e la, ShR ops p e la ∧ ((60 < e.length ∧ d = .tu [.sl 1 [], iv .i64 1]) ∨ (e.length ≤ 60 ∧ d = .tu [.sl 1 (i64s e), iv .i64 0])))
set_option maxRecDepth 10000 in
set_option maxHeartbeats 4000000 in
theorem climbShow_spec (ops : List Opr) (hn : ops.length ≤ 9223372036854775807) (p : List Int) (hl : p.length ≤ 9223372036854775807) : Dm.Spec Try.prog 23 [.sl 2 (tbl oprD ops), .sl 1 (i64s p)] (ShF ops p) := by
  refine spec_of_vc mixed Try.func23 c23 (by rw [show Try.f23.ntmps = _ from Try.ntmps23]; simp) ?_
  unfold m23 r23
  have hC := climbCheck_spec ops hn p hl false
  by_cases h0 : opCode ops p false = 0
  rotate_left
  · repeat' first | (refine Br.dec (fun h => ?_) (fun h => ?_) <;> try (exfalso; omega)) | (refine Br.eqi (fun h => ?_) (fun h => ?_) <;> try (exfalso; omega)) | (simp (disch := (first | omega | (simp only [vlen]; first | done | omega))) only [vcs2, ↓va0, ↓va1, ↓va2, ↓va3, vb0, vb1, vb2, vb3, vb4, vb5, vb6, vb7, vb8, vb9, vb10, vz0, vz1, vy0, vx0, ↓reduceIte, Nat.reduceBEq, Nat.reduceEqDiff, Nat.reduceLT, Nat.reduceLeDiff, Nat.reduceAdd, Nat.reduceMul, Nat.reduceSub, reduceCtorEq, Int.reduceToNat]) | (refine Br.mk (fun h => ?_) (fun h => ?_)) | (refine BrN.mk (fun h => ?_) ?_) | (refine AltVC.mk ?_ ?_)
    refine CallVC.eq hC ?_
    repeat' first | (refine Br.dec (fun h => ?_) (fun h => ?_) <;> try (exfalso; omega)) | (refine Br.eqi (fun h => ?_) (fun h => ?_) <;> try (exfalso; omega)) | (simp (disch := (first | omega | (simp only [vlen]; first | done | omega))) only [vcs2, ↓va0, ↓va1, ↓va2, ↓va3, vb0, vb1, vb2, vb3, vb4, vb5, vb6, vb7, vb8, vb9, vb10, vz0, vz1, vy0, vx0, ↓reduceIte, Nat.reduceBEq, Nat.reduceEqDiff, Nat.reduceLT, Nat.reduceLeDiff, Nat.reduceAdd, Nat.reduceMul, Nat.reduceSub, reduceCtorEq, Int.reduceToNat]) | (refine Br.mk (fun h => ?_) (fun h => ?_)) | (refine BrN.mk (fun h => ?_) ?_) | (refine AltVC.mk ?_ ?_)
    exact fin_mk (.inl ⟨h0, rfl⟩)
  · obtain ⟨hn6, hl60, _, _⟩ := code_ok h0
    have hvs := code_sg h0
    have hcs := code_cons h0
    rw [h0] at hC
    repeat' first | (refine Br.dec (fun h => ?_) (fun h => ?_) <;> try (exfalso; omega)) | (refine Br.eqi (fun h => ?_) (fun h => ?_) <;> try (exfalso; omega)) | (simp (disch := (first | omega | (simp only [vlen]; first | done | omega))) only [vcs2, ↓va0, ↓va1, ↓va2, ↓va3, vb0, vb1, vb2, vb3, vb4, vb5, vb6, vb7, vb8, vb9, vb10, vz0, vz1, vy0, vx0, ↓reduceIte, Nat.reduceBEq, Nat.reduceEqDiff, Nat.reduceLT, Nat.reduceLeDiff, Nat.reduceAdd, Nat.reduceMul, Nat.reduceSub, reduceCtorEq, Int.reduceToNat]) | (refine Br.mk (fun h => ?_) (fun h => ?_)) | (refine BrN.mk (fun h => ?_) ?_) | (refine AltVC.mk ?_ ?_)
    refine CallVC.eq hC ?_
    repeat' first | (refine Br.dec (fun h => ?_) (fun h => ?_) <;> try (exfalso; omega)) | (refine Br.eqi (fun h => ?_) (fun h => ?_) <;> try (exfalso; omega)) | (simp (disch := (first | omega | (simp only [vlen]; first | done | omega))) only [vcs2, ↓va0, ↓va1, ↓va2, ↓va3, vb0, vb1, vb2, vb3, vb4, vb5, vb6, vb7, vb8, vb9, vb10, vz0, vz1, vy0, vx0, ↓reduceIte, Nat.reduceBEq, Nat.reduceEqDiff, Nat.reduceLT, Nat.reduceLeDiff, Nat.reduceAdd, Nat.reduceMul, Nat.reduceSub, reduceCtorEq, Int.reduceToNat]) | (refine Br.mk (fun h => ?_) (fun h => ?_)) | (refine BrN.mk (fun h => ?_) ?_) | (refine AltVC.mk ?_ ?_)
    refine LoopVC.mk (X := Nat × List (List Int × Int)) (fun x => [(7, .ref 1 2 0 x.2.length), (23, iv .i64 x.1)]) (fun x => [(1, ⟨2, tbl wrD x.2, true, false, .arr⟩)]) (fun x => p.length - x.1) (fun x => x.1 ≤ p.length ∧ StR ops (p.take x.1) x.2) (0, []) ⟨Nat.zero_le _, .nil⟩ ?_ ?_
    · (simp (disch := (first | omega | (simp only [vlen]; first | done | omega))) only [Fits_u, Fits_m, Fits_nil, List.length_append, vcs2, ↓va0, ↓va1, ↓va2, ↓va3, vb0, vb1, vb2, vb3, vb4, vb5, vb6, vb7, vb8, vb9, vb10, vz0, vz1, vy0, vx0, ↓reduceIte, Nat.reduceBEq, Nat.reduceEqDiff, Nat.reduceLT, Nat.reduceLeDiff, Nat.reduceAdd, Nat.reduceMul, Nat.reduceSub, reduceCtorEq, Int.reduceToNat] <;> (repeat' first | rfl | apply And.intro))
      all_goals first | rfl | skip
    · rintro ⟨i, st⟩ ⟨hi, hst⟩
      simp only at hi hst ⊢
      have hsl := hst.len (by omega)
      rw [List.length_take] at hsl
      by_cases hil : i < p.length
      · obtain ⟨s, hs⟩ : ∃ s, p.getD i 0 = s := ⟨_, rfl⟩
        have htk : p.take (i + 1) = p.take i ++ [s] := by rw [← hs, take_succ_getD (by omega) 0]
        by_cases hv1 : 100 ≤ s
        · repeat' first | (refine Br.dec (fun h => ?_) (fun h => ?_) <;> try (exfalso; omega)) | (refine Br.eqi (fun h => ?_) (fun h => ?_) <;> try (exfalso; omega)) | (simp (disch := (first | omega | (simp only [vlen]; first | done | omega))) only [vwr, hs, ↓va0, ↓va1, ↓va2, ↓va3, vb0, vb1, vb2, vb3, vb4, vb5, vb6, vb7, vb8, vb9, vb10, vz0, vz1, vy0, vx0, ↓reduceIte, Nat.reduceBEq, Nat.reduceEqDiff, Nat.reduceLT, Nat.reduceLeDiff, Nat.reduceAdd, Nat.reduceMul, Nat.reduceSub, reduceCtorEq, Int.reduceToNat]) | (refine Br.mk (fun h => ?_) (fun h => ?_)) | (refine BrN.mk (fun h => ?_) ?_) | (refine AltVC.mk ?_ ?_)
          refine loopK.frz 2 ?_
          repeat' first | (refine Br.dec (fun h => ?_) (fun h => ?_) <;> try (exfalso; omega)) | (refine Br.eqi (fun h => ?_) (fun h => ?_) <;> try (exfalso; omega)) | (simp (disch := (first | omega | (simp only [vlen]; first | done | omega))) only [vwr, ↓va0, ↓va1, ↓va2, ↓va3, vb0, vb1, vb2, vb3, vb4, vb5, vb6, vb7, vb8, vb9, vb10, vz0, vz1, vy0, vx0, ↓reduceIte, Nat.reduceBEq, Nat.reduceEqDiff, Nat.reduceLT, Nat.reduceLeDiff, Nat.reduceAdd, Nat.reduceMul, Nat.reduceSub, reduceCtorEq, Int.reduceToNat]) | (refine Br.mk (fun h => ?_) (fun h => ?_)) | (refine BrN.mk (fun h => ?_) ?_) | (refine AltVC.mk ?_ ?_)
          refine loopK.flt 1 ?_
          repeat' first | (refine Br.dec (fun h => ?_) (fun h => ?_) <;> try (exfalso; omega)) | (refine Br.eqi (fun h => ?_) (fun h => ?_) <;> try (exfalso; omega)) | (simp (disch := (first | omega | (simp only [vlen]; first | done | omega))) only [vwr, ↓va0, ↓va1, ↓va2, ↓va3, vb0, vb1, vb2, vb3, vb4, vb5, vb6, vb7, vb8, vb9, vb10, vz0, vz1, vy0, vx0, ↓reduceIte, Nat.reduceBEq, Nat.reduceEqDiff, Nat.reduceLT, Nat.reduceLeDiff, Nat.reduceAdd, Nat.reduceMul, Nat.reduceSub, reduceCtorEq, Int.reduceToNat]) | (refine Br.mk (fun h => ?_) (fun h => ?_)) | (refine BrN.mk (fun h => ?_) ?_) | (refine AltVC.mk ?_ ?_)
          rw [show [[D.v (Value.int IntKind.i64 s)]] = i64s [s] from rfl, wr_snoc']
          refine loopK.mk (i + 1, st ++ [([s], -1)]) (by simp (disch := (first | omega | (simp only [vlen]; first | done | omega))) only [↓va0, ↓va1, ↓va2, ↓va3, vb0, vb1, vb2, vb3, vb4, vb5, vb6, vb7, vb8, vb9, vb10, vz0, vz1, vy0, vx0, ↓reduceIte, Nat.reduceBEq, Nat.reduceEqDiff, Nat.reduceLT, Nat.reduceLeDiff, Nat.reduceAdd, Nat.reduceMul, Nat.reduceSub, reduceCtorEq, Int.reduceToNat]) ⟨by show i + 1 ≤ p.length; omega, by rw [htk]; exact .push hst (.val hv1)⟩ (by show p.length - (i + 1) < p.length - i; omega) ?_
          (simp (disch := (first | omega | (simp only [vlen]; first | done | omega))) only [Fits_u, Fits_m, Fits_nil, List.length_append, vwr, ↓va0, ↓va1, ↓va2, ↓va3, vb0, vb1, vb2, vb3, vb4, vb5, vb6, vb7, vb8, vb9, vb10, vz0, vz1, vy0, vx0, ↓reduceIte, Nat.reduceBEq, Nat.reduceEqDiff, Nat.reduceLT, Nat.reduceLeDiff, Nat.reduceAdd, Nat.reduceMul, Nat.reduceSub, reduceCtorEq, Int.reduceToNat] <;> (repeat' first | rfl | apply And.intro))
        · have hso : 0 ≤ s ∧ s < ops.length := by
            have := code_vp h0 s (by rw [← hs]; exact getD_mem' hil)
            unfold vP at this; omega
          by_cases h2 : st.length < 2
          · have hno : ¬ PO p := fun hp => by
              have e1 := hst.wg (by omega)
              have e2 : p = p.take (i + 1) ++ p.drop (i + 1) := (List.take_append_drop _ _).symm
              have e3 := congrArg wgP e2
              have e4 := (po_wg hp).2 _ _ e2 (by rw [htk]; simp)
              rw [wgP_app, htk, wgP_app, e1, (po_wg hp).1] at e3
              have e5 : wgP [s] = -1 := by simp only [wgP, wgS_op (show isO s from ⟨hso.1, by omega⟩)]; rfl
              omega
            repeat' first | (refine Br.dec (fun h => ?_) (fun h => ?_) <;> try (exfalso; omega)) | (refine Br.eqi (fun h => ?_) (fun h => ?_) <;> try (exfalso; omega)) | (simp (disch := (first | omega | (simp only [vlen]; first | done | omega))) only [vwr, hs, ↓va0, ↓va1, ↓va2, ↓va3, vb0, vb1, vb2, vb3, vb4, vb5, vb6, vb7, vb8, vb9, vb10, vz0, vz1, vy0, vx0, ↓reduceIte, Nat.reduceBEq, Nat.reduceEqDiff, Nat.reduceLT, Nat.reduceLeDiff, Nat.reduceAdd, Nat.reduceMul, Nat.reduceSub, reduceCtorEq, Int.reduceToNat]) | (refine Br.mk (fun h => ?_) (fun h => ?_)) | (refine BrN.mk (fun h => ?_) ?_) | (refine AltVC.mk ?_ ?_)
            exact fin_mk (.inr (.inl ⟨h0, hno, rfl⟩))
          · obtain ⟨q1, pb, b, lb, st1, e1, e2, hst1, sb⟩ := hst.pop (by omega)
            have hl1 : st.length = st1.length + 1 := by rw [e2]; simp
            obtain ⟨q0, pa, a, la, st0, e3, e4, hst0, sa⟩ := hst1.pop (by omega)
            obtain ⟨m, hm⟩ : ∃ m, st0.length = m := ⟨_, rfl⟩
            have hl0 : st1.length = m + 1 := by rw [e4]; simp [hm]
            have hlen : st.length = m + 2 := by omega
            have hga : st.getD m default = (a, la) := by rw [e2, e4, ← hm]; simp [List.getD]
            have hgb : st.getD (m + 1) default = (b, lb) := by rw [e2, ← hl0]; simp [List.getD]
            have htk2 : st.take m = st0 := by rw [e2, e4, ← hm]; simp
            have ia := shR_it hcs (by omega) sa
            have ib := shR_it hcs (by omega) sb
            have hal := ia.ln
            have hbl := ib.ln
            have hpl : pa.length + pb.length ≤ 60 := by
              have := congrArg List.length e1
              rw [e3] at this
              simp only [List.length_append, List.length_take] at this
              omega
            have hm2 : (m : Int) + 1 + 1 - 2 = m := by omega
            have hfl : [wi a (ndA ops la s), [s], wi b (ndB ops lb s)].flatten = wi a (ndA ops la s) ++ s :: wi b (ndB ops lb s) := by simp
            have hK := concat_int [wi a (ndA ops la s), [s], wi b (ndB ops lb s)] (by simp) (by
              rw [hfl, List.length_append, List.length_cons, wi_len, wi_len]
              split <;> split <;> omega)
            rw [hfl] at hK
            have hst2 : StR ops (p.take (i + 1)) (st0 ++ [(wi a (ndA ops la s) ++ s :: wi b (ndB ops lb s), s)]) := by
              rw [htk, e1, e3, List.append_assoc, List.append_assoc]
              exact .push hst0 (by rw [← List.append_assoc]; exact .bin sa sb hso)
            have hnA0 : ¬ 0 ≤ la → ndA ops la s = false := fun h => by unfold ndA; rw [decide_eq_false h]; rfl
            have hnB0 : ¬ 0 ≤ lb → ndB ops lb s = false := fun h => by unfold ndB; rw [decide_eq_false h]; rfl
            have hnA1 : 0 ≤ la → ndA ops la s = !bef ops la s := fun h => by unfold ndA; rw [decide_eq_true h]; rfl
            have hnB1 : 0 ≤ lb → ndB ops lb s = bef ops s lb := fun h => by unfold ndB; rw [decide_eq_true h]; rfl
            have hW := within_spec a (by omega) la (ndA ops la s)
            have hV := within_spec b (by omega) lb (ndB ops lb s)
            have hBA := fun h : 0 ≤ la => before_spec ops hn6 la s ⟨h, by have := ia.lb; omega⟩ hso
            have hBB := fun h : 0 ≤ lb => before_spec ops hn6 s lb hso ⟨h, by have := ib.lb; omega⟩
            generalize ndA ops la s = na at *
            generalize ndB ops lb s = nb at *
            by_cases hla : 0 ≤ la <;> by_cases hlb : 0 ≤ lb
            all_goals
              first
                | (have hna := hnA1 hla; have hBA := hBA hla; rw [hna] at hW hK hst2)
                | (have hna := hnA0 hla; rw [hna] at hW hK hst2)
              first
                | (have hnb := hnB1 hlb; have hBB := hBB hlb; rw [hnb] at hV hK hst2)
                | (have hnb := hnB0 hlb; rw [hnb] at hV hK hst2)
              repeat' first | (refine Br.dec (fun h => ?_) (fun h => ?_) <;> try (exfalso; omega)) | (refine Br.eqi (fun h => ?_) (fun h => ?_) <;> try (exfalso; omega)) | (simp (disch := (first | omega | (simp only [vlen]; first | done | omega))) only [vwr, hs, hlen, hga, hgb, hm2, ↓va0, ↓va1, ↓va2, ↓va3, vb0, vb1, vb2, vb3, vb4, vb5, vb6, vb7, vb8, vb9, vb10, vz0, vz1, vy0, vx0, ↓reduceIte, Nat.reduceBEq, Nat.reduceEqDiff, Nat.reduceLT, Nat.reduceLeDiff, Nat.reduceAdd, Nat.reduceMul, Nat.reduceSub, reduceCtorEq, Int.reduceToNat]) | (refine Br.mk (fun h => ?_) (fun h => ?_)) | (refine BrN.mk (fun h => ?_) ?_) | (refine AltVC.mk ?_ ?_)
              refine DrawVC.u ?_
              repeat' first | (refine Br.dec (fun h => ?_) (fun h => ?_) <;> try (exfalso; omega)) | (refine Br.eqi (fun h => ?_) (fun h => ?_) <;> try (exfalso; omega)) | (simp (disch := (first | omega | (simp only [vlen]; first | done | omega))) only [vwr, hs, hlen, hga, hgb, hm2, ↓va0, ↓va1, ↓va2, ↓va3, vb0, vb1, vb2, vb3, vb4, vb5, vb6, vb7, vb8, vb9, vb10, vz0, vz1, vy0, vx0, ↓reduceIte, Nat.reduceBEq, Nat.reduceEqDiff, Nat.reduceLT, Nat.reduceLeDiff, Nat.reduceAdd, Nat.reduceMul, Nat.reduceSub, reduceCtorEq, Int.reduceToNat]) | (refine Br.mk (fun h => ?_) (fun h => ?_)) | (refine BrN.mk (fun h => ?_) ?_) | (refine AltVC.mk ?_ ?_)
            all_goals
              first
                | (refine CallP.eq hBA (fun h => by cases h) ?_; (repeat' first | (refine Br.dec (fun h => ?_) (fun h => ?_) <;> try (exfalso; omega)) | (refine Br.eqi (fun h => ?_) (fun h => ?_) <;> try (exfalso; omega)) | (simp (disch := (first | omega | (simp only [vlen]; first | done | omega))) only [vwr, ↓va0, ↓va1, ↓va2, ↓va3, vb0, vb1, vb2, vb3, vb4, vb5, vb6, vb7, vb8, vb9, vb10, vz0, vz1, vy0, vx0, ↓reduceIte, Nat.reduceBEq, Nat.reduceEqDiff, Nat.reduceLT, Nat.reduceLeDiff, Nat.reduceAdd, Nat.reduceMul, Nat.reduceSub, reduceCtorEq, Int.reduceToNat]) | (refine Br.mk (fun h => ?_) (fun h => ?_)) | (refine BrN.mk (fun h => ?_) ?_) | (refine AltVC.mk ?_ ?_)); refine CallP.eq hW (fun h => by cases h) ?_; (repeat' first | (refine Br.dec (fun h => ?_) (fun h => ?_) <;> try (exfalso; omega)) | (refine Br.eqi (fun h => ?_) (fun h => ?_) <;> try (exfalso; omega)) | (simp (disch := (first | omega | (simp only [vlen]; first | done | omega))) only [vwr, ↓va0, ↓va1, ↓va2, ↓va3, vb0, vb1, vb2, vb3, vb4, vb5, vb6, vb7, vb8, vb9, vb10, vz0, vz1, vy0, vx0, ↓reduceIte, Nat.reduceBEq, Nat.reduceEqDiff, Nat.reduceLT, Nat.reduceLeDiff, Nat.reduceAdd, Nat.reduceMul, Nat.reduceSub, reduceCtorEq, Int.reduceToNat]) | (refine Br.mk (fun h => ?_) (fun h => ?_)) | (refine BrN.mk (fun h => ?_) ?_) | (refine AltVC.mk ?_ ?_)))
                | (refine CallP.eq hW (fun h => by cases h) ?_; (repeat' first | (refine Br.dec (fun h => ?_) (fun h => ?_) <;> try (exfalso; omega)) | (refine Br.eqi (fun h => ?_) (fun h => ?_) <;> try (exfalso; omega)) | (simp (disch := (first | omega | (simp only [vlen]; first | done | omega))) only [vwr, ↓va0, ↓va1, ↓va2, ↓va3, vb0, vb1, vb2, vb3, vb4, vb5, vb6, vb7, vb8, vb9, vb10, vz0, vz1, vy0, vx0, ↓reduceIte, Nat.reduceBEq, Nat.reduceEqDiff, Nat.reduceLT, Nat.reduceLeDiff, Nat.reduceAdd, Nat.reduceMul, Nat.reduceSub, reduceCtorEq, Int.reduceToNat]) | (refine Br.mk (fun h => ?_) (fun h => ?_)) | (refine BrN.mk (fun h => ?_) ?_) | (refine AltVC.mk ?_ ?_)))
            all_goals
              first
                | (refine CallP.eq hBB (fun h => by cases h) ?_; (repeat' first | (refine Br.dec (fun h => ?_) (fun h => ?_) <;> try (exfalso; omega)) | (refine Br.eqi (fun h => ?_) (fun h => ?_) <;> try (exfalso; omega)) | (simp (disch := (first | omega | (simp only [vlen]; first | done | omega))) only [vwr, htk2, ↓va0, ↓va1, ↓va2, ↓va3, vb0, vb1, vb2, vb3, vb4, vb5, vb6, vb7, vb8, vb9, vb10, vz0, vz1, vy0, vx0, ↓reduceIte, Nat.reduceBEq, Nat.reduceEqDiff, Nat.reduceLT, Nat.reduceLeDiff, Nat.reduceAdd, Nat.reduceMul, Nat.reduceSub, reduceCtorEq, Int.reduceToNat]) | (refine Br.mk (fun h => ?_) (fun h => ?_)) | (refine BrN.mk (fun h => ?_) ?_) | (refine AltVC.mk ?_ ?_)); refine CallP.eq hV (fun h => by cases h) ?_; (repeat' first | (refine Br.dec (fun h => ?_) (fun h => ?_) <;> try (exfalso; omega)) | (refine Br.eqi (fun h => ?_) (fun h => ?_) <;> try (exfalso; omega)) | (simp (disch := (first | omega | (simp only [vlen]; first | done | omega))) only [vwr, htk2, ↓va0, ↓va1, ↓va2, ↓va3, vb0, vb1, vb2, vb3, vb4, vb5, vb6, vb7, vb8, vb9, vb10, vz0, vz1, vy0, vx0, ↓reduceIte, Nat.reduceBEq, Nat.reduceEqDiff, Nat.reduceLT, Nat.reduceLeDiff, Nat.reduceAdd, Nat.reduceMul, Nat.reduceSub, reduceCtorEq, Int.reduceToNat]) | (refine Br.mk (fun h => ?_) (fun h => ?_)) | (refine BrN.mk (fun h => ?_) ?_) | (refine AltVC.mk ?_ ?_)))
                | (refine CallP.eq hV (fun h => by cases h) ?_; (repeat' first | (refine Br.dec (fun h => ?_) (fun h => ?_) <;> try (exfalso; omega)) | (refine Br.eqi (fun h => ?_) (fun h => ?_) <;> try (exfalso; omega)) | (simp (disch := (first | omega | (simp only [vlen]; first | done | omega))) only [vwr, htk2, ↓va0, ↓va1, ↓va2, ↓va3, vb0, vb1, vb2, vb3, vb4, vb5, vb6, vb7, vb8, vb9, vb10, vz0, vz1, vy0, vx0, ↓reduceIte, Nat.reduceBEq, Nat.reduceEqDiff, Nat.reduceLT, Nat.reduceLeDiff, Nat.reduceAdd, Nat.reduceMul, Nat.reduceSub, reduceCtorEq, Int.reduceToNat]) | (refine Br.mk (fun h => ?_) (fun h => ?_)) | (refine BrN.mk (fun h => ?_) ?_) | (refine AltVC.mk ?_ ?_)))
            all_goals
              refine CallVC.frz 4 ?_
              repeat' first | (refine Br.dec (fun h => ?_) (fun h => ?_) <;> try (exfalso; omega)) | (refine Br.eqi (fun h => ?_) (fun h => ?_) <;> try (exfalso; omega)) | (simp (disch := (first | omega | (simp only [vlen]; first | done | omega))) only [vwr, htk2, ↓va0, ↓va1, ↓va2, ↓va3, vb0, vb1, vb2, vb3, vb4, vb5, vb6, vb7, vb8, vb9, vb10, vz0, vz1, vy0, vx0, ↓reduceIte, Nat.reduceBEq, Nat.reduceEqDiff, Nat.reduceLT, Nat.reduceLeDiff, Nat.reduceAdd, Nat.reduceMul, Nat.reduceSub, reduceCtorEq, Int.reduceToNat]) | (refine Br.mk (fun h => ?_) (fun h => ?_)) | (refine BrN.mk (fun h => ?_) ?_) | (refine AltVC.mk ?_ ?_)
              refine CallVC.fl 5 ?_
              repeat' first | (refine Br.dec (fun h => ?_) (fun h => ?_) <;> try (exfalso; omega)) | (refine Br.eqi (fun h => ?_) (fun h => ?_) <;> try (exfalso; omega)) | (simp (disch := (first | omega | (simp only [vlen]; first | done | omega))) only [vwr, htk2, ↓va0, ↓va1, ↓va2, ↓va3, vb0, vb1, vb2, vb3, vb4, vb5, vb6, vb7, vb8, vb9, vb10, vz0, vz1, vy0, vx0, ↓reduceIte, Nat.reduceBEq, Nat.reduceEqDiff, Nat.reduceLT, Nat.reduceLeDiff, Nat.reduceAdd, Nat.reduceMul, Nat.reduceSub, reduceCtorEq, Int.reduceToNat]) | (refine Br.mk (fun h => ?_) (fun h => ?_)) | (refine BrN.mk (fun h => ?_) ?_) | (refine AltVC.mk ?_ ?_)
              refine CallVC.frz 5 ?_
              repeat' first | (refine Br.dec (fun h => ?_) (fun h => ?_) <;> try (exfalso; omega)) | (refine Br.eqi (fun h => ?_) (fun h => ?_) <;> try (exfalso; omega)) | (simp (disch := (first | omega | (simp only [vlen]; first | done | omega))) only [vwr, htk2, ↓va0, ↓va1, ↓va2, ↓va3, vb0, vb1, vb2, vb3, vb4, vb5, vb6, vb7, vb8, vb9, vb10, vz0, vz1, vy0, vx0, ↓reduceIte, Nat.reduceBEq, Nat.reduceEqDiff, Nat.reduceLT, Nat.reduceLeDiff, Nat.reduceAdd, Nat.reduceMul, Nat.reduceSub, reduceCtorEq, Int.reduceToNat]) | (refine Br.mk (fun h => ?_) (fun h => ?_)) | (refine BrN.mk (fun h => ?_) ?_) | (refine AltVC.mk ?_ ?_)
              rw [rows3]
              refine CallVC.eq hK ?_
              repeat' first | (refine Br.dec (fun h => ?_) (fun h => ?_) <;> try (exfalso; omega)) | (refine Br.eqi (fun h => ?_) (fun h => ?_) <;> try (exfalso; omega)) | (simp (disch := (first | omega | (simp only [vlen]; first | done | omega))) only [vwr, htk2, Nat.sub_zero, ↓va0, ↓va1, ↓va2, ↓va3, vb0, vb1, vb2, vb3, vb4, vb5, vb6, vb7, vb8, vb9, vb10, vz0, vz1, vy0, vx0, ↓reduceIte, Nat.reduceBEq, Nat.reduceEqDiff, Nat.reduceLT, Nat.reduceLeDiff, Nat.reduceAdd, Nat.reduceMul, Nat.reduceSub, reduceCtorEq, Int.reduceToNat]) | (refine Br.mk (fun h => ?_) (fun h => ?_)) | (refine BrN.mk (fun h => ?_) ?_) | (refine AltVC.mk ?_ ?_)
              rw [wr_snoc']
              refine loopK.mk (i + 1, _) (by simp (disch := (first | omega | (simp only [vlen]; first | done | omega))) only [↓va0, ↓va1, ↓va2, ↓va3, vb0, vb1, vb2, vb3, vb4, vb5, vb6, vb7, vb8, vb9, vb10, vz0, vz1, vy0, vx0, ↓reduceIte, Nat.reduceBEq, Nat.reduceEqDiff, Nat.reduceLT, Nat.reduceLeDiff, Nat.reduceAdd, Nat.reduceMul, Nat.reduceSub, reduceCtorEq, Int.reduceToNat]) ⟨by show i + 1 ≤ p.length; omega, hst2⟩ (by show p.length - (i + 1) < p.length - i; omega) ?_
              (simp (disch := (first | omega | (simp only [vlen]; first | done | omega))) only [Fits_u, Fits_m, Fits_nil, List.length_append, vwr, hm, ↓va0, ↓va1, ↓va2, ↓va3, vb0, vb1, vb2, vb3, vb4, vb5, vb6, vb7, vb8, vb9, vb10, vz0, vz1, vy0, vx0, ↓reduceIte, Nat.reduceBEq, Nat.reduceEqDiff, Nat.reduceLT, Nat.reduceLeDiff, Nat.reduceAdd, Nat.reduceMul, Nat.reduceSub, reduceCtorEq, Int.reduceToNat] <;> (repeat' first | rfl | apply And.intro))
      · have hii : i = p.length := by omega
        subst hii
        rw [List.take_length] at hst
        have hwg := hst.wg (by omega)
        by_cases h1 : st.length = 1
        · obtain ⟨q1, pb, e, la, st1, e1, e2, hst1, sb⟩ := hst.pop (by omega)
          have hs1 : st1 = [] := by
            have := congrArg List.length e2
            simp only [List.length_append, List.length_cons, List.length_nil] at this
            exact List.length_eq_zero_iff.mp (by omega)
          subst hs1
          have hq1 : q1 = [] := by
            generalize hz : ([] : List (List Int × Int)) = z at hst1
            cases hst1 with
            | nil => rfl
            | push h s => simp at hz
          subst hq1
          rw [List.nil_append] at e1 e2
          subst e1
          subst e2
          have ie := shR_it hcs (by omega) sb
          have hel := ie.ln
          by_cases h60 : 60 < e.length
          · repeat' first | (refine Br.dec (fun h => ?_) (fun h => ?_) <;> try (exfalso; omega)) | (refine Br.eqi (fun h => ?_) (fun h => ?_) <;> try (exfalso; omega)) | (simp (disch := (first | omega | (simp only [vlen]; first | done | omega))) only [vwr, ↓va0, ↓va1, ↓va2, ↓va3, vb0, vb1, vb2, vb3, vb4, vb5, vb6, vb7, vb8, vb9, vb10, vz0, vz1, vy0, vx0, ↓reduceIte, Nat.reduceBEq, Nat.reduceEqDiff, Nat.reduceLT, Nat.reduceLeDiff, Nat.reduceAdd, Nat.reduceMul, Nat.reduceSub, reduceCtorEq, Int.reduceToNat]) | (refine Br.mk (fun h => ?_) (fun h => ?_)) | (refine BrN.mk (fun h => ?_) ?_) | (refine AltVC.mk ?_ ?_)
            exact fin_mk (.inr (.inr ⟨h0, ie.po, e, la, sb, .inl ⟨h60, rfl⟩⟩))
          · repeat' first | (refine Br.dec (fun h => ?_) (fun h => ?_) <;> try (exfalso; omega)) | (refine Br.eqi (fun h => ?_) (fun h => ?_) <;> try (exfalso; omega)) | (simp (disch := (first | omega | (simp only [vlen]; first | done | omega))) only [vwr, ↓va0, ↓va1, ↓va2, ↓va3, vb0, vb1, vb2, vb3, vb4, vb5, vb6, vb7, vb8, vb9, vb10, vz0, vz1, vy0, vx0, ↓reduceIte, Nat.reduceBEq, Nat.reduceEqDiff, Nat.reduceLT, Nat.reduceLeDiff, Nat.reduceAdd, Nat.reduceMul, Nat.reduceSub, reduceCtorEq, Int.reduceToNat]) | (refine Br.mk (fun h => ?_) (fun h => ?_)) | (refine BrN.mk (fun h => ?_) ?_) | (refine AltVC.mk ?_ ?_)
            exact fin_mk (.inr (.inr ⟨h0, ie.po, e, la, sb, .inr ⟨by omega, rfl⟩⟩))
        · have hno : ¬ PO p := fun hp => by
            rw [(po_wg hp).1] at hwg; omega
          repeat' first | (refine Br.dec (fun h => ?_) (fun h => ?_) <;> try (exfalso; omega)) | (refine Br.eqi (fun h => ?_) (fun h => ?_) <;> try (exfalso; omega)) | (simp (disch := (first | omega | (simp only [vlen]; first | done | omega))) only [vwr, ↓va0, ↓va1, ↓va2, ↓va3, vb0, vb1, vb2, vb3, vb4, vb5, vb6, vb7, vb8, vb9, vb10, vz0, vz1, vy0, vx0, ↓reduceIte, Nat.reduceBEq, Nat.reduceEqDiff, Nat.reduceLT, Nat.reduceLeDiff, Nat.reduceAdd, Nat.reduceMul, Nat.reduceSub, reduceCtorEq, Int.reduceToNat]) | (refine Br.mk (fun h => ?_) (fun h => ?_)) | (refine BrN.mk (fun h => ?_) ?_) | (refine AltVC.mk ?_ ?_)
          exact fin_mk (.inr (.inl ⟨h0, hno, rfl⟩))
end Go.Proofs.Ytllkafockafdcaa
