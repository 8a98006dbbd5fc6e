/-
  climb.Read.
-/
import Derived.Test.YtllkafockafdcaaClimbR
namespace Go.Proofs.Ytllkafockafdcaa
open Go.Dm
set_option linter.unusedSimpArgs false
set_option linter.unnecessarySimpa false
set_option linter.unusedVariables false
set_option linter.defProp false
theorem bne_ft : (false != true) = true := (rfl)
theorem bne_tt : (true != true) = false := (rfl)
theorem bne_tf : (true != false) = true := (rfl)
theorem bne_ff : (false != false) = false := (rfl)
theorem obRev {T : List Int} {x : Int} : some (⟨1, [[D.own false 1 (i64s (T.reverse ++ [x]))]], true, true, .fix⟩ : Ob) = some ⟨1, [[D.own false 1 (i64s (x :: T).reverse)]], true, true, .fix⟩ := by rw [List.reverse_cons]
def vcs2 := And.intro vcl <| And.intro bne_ft <| And.intro bne_tt <| And.intro bne_tf bne_ff
def vcs3 := And.intro vcs2 vcn
theorem run_next {ops : List Opr} {l : List Int} {i : Nat} {c0 c c' : CSt} (h : runC ops (l.take i) c0 = some c) (hi : i < l.length) (hs : stp ops (l.getD i 0) c = some c') : runC ops (l.take (i + 1)) c0 = some c' := by
  rw [take_succ_getD hi 0, runC_app, h]
  show (stp ops (l.getD i 0) c).bind (runC ops []) = _
  rw [hs]; rfl
theorem run_fail {ops : List Opr} {l : List Int} {i : Nat} {c : CSt} (h : runC ops (l.take i) ([], [], true) = some c) (hi : i < l.length) (hs : stp ops (l.getD i 0) c = none) : accC ops l = none := by
  unfold accC
  conv => lhs; rw [bin_eq hi]
  rw [runC_app, h]
  show (match ((stp ops (l.getD i 0) c).bind (runC ops (l.drop (i + 1)))) with | none => none | some c => _) = _
  rw [hs]; rfl
theorem stp_wrong {ops : List Opr} {s : Int} {O T : List Int} {w : Bool} (h : w ≠ decide (100 ≤ s ∨ s = -1)) : stp ops s (O, T, w) = none := if_pos h
theorem stp_val {ops : List Opr} {s : Int} {O T : List Int} (h : 100 ≤ s) : stp ops s (O, T, true) = some (O ++ [s], T, false) := by
  unfold stp; rw [if_neg (by simp; omega), if_pos h]
theorem stp_open {ops : List Opr} {O T : List Int} : stp ops (-1) (O, T, true) = some (O, -1 :: T, true) := by
  unfold stp; rw [if_neg (by simp), if_neg (by omega), if_pos rfl]
theorem stp_close {ops : List Opr} {O T : List Int} : stp ops (-2) (O, T, false) = match T.dropWhile nO with
    | [] => none
    | _ :: r => some (O ++ T.takeWhile nO, r, false) := by
  unfold stp; rw [if_neg (by simp), if_neg (by omega), if_neg (by omega), if_pos rfl]
  show (match T.dropWhile nO with | [] => _ | _ :: r => _) = _
  cases T.dropWhile nO <;> rfl
theorem drop_sub {p : Int → Bool} {T : List Int} {t : Int} (h : t ∈ T.dropWhile p) : t ∈ T := (List.dropWhile_suffix p).subset h
theorem drop_len {p : Int → Bool} {T : List Int} : (T.dropWhile p).length + (T.takeWhile p).length = T.length := by
  have := congrArg List.length (List.takeWhile_append_dropWhile (p := p) (l := T))
  rw [List.length_append] at this; omega
def CrR (ops : List Opr) (l : List Int) (m : Bool) (d : D) : Prop := (opCode ops l m ≠ 0 ∧ d = .tu [.sl 1 [], iv .i64 (opCode ops l m)]) ∨ (opCode ops l m = 0 ∧ ((accC ops l = none ∧ d = .tu [.sl 1 [], iv .i64 5]) ∨ ∃ p, accC ops l = some p ∧ d = .tu [.sl 1 (i64s p), iv .i64 0]))
theorem code_ok {ops : List Opr} {l : List Int} {m : Bool} (h : opCode ops l m = 0) : ops.length ≤ 6 ∧ l.length ≤ 60 ∧ opsBad ops = false ∧ l.any (sgBad ops.length m) = false := by
  unfold opCode at h
  split at h
  · cases h
  · split at h
    · cases h
    · split at h
      · cases h
      · next h1 h2 h3 => exact ⟨by omega, by omega, by simpa using h2, by simpa using h3⟩
theorem code_sg {ops : List Opr} {l : List Int} {m : Bool} (h : opCode ops l m = 0) : ∀ s, s ∈ l → vS ops s := fun s hs => by
  have h4 := (code_ok h).2.2.2
  have : sgBad ops.length m s = false := by
    cases e : sgBad ops.length m s with
    | false => rfl
    | true => rw [List.any_eq_true.mpr ⟨s, hs, e⟩] at h4; cases h4
  unfold sgBad at this
  simp only [Bool.and_eq_false_iff, Bool.not_eq_false', decide_eq_false_iff_not, decide_eq_true_eq, Bool.and_eq_true] at this
  unfold vS
  rcases this with (g | g) | ⟨g, _⟩ <;> omega
theorem code_cons {ops : List Opr} {l : List Int} {m : Bool} (h : opCode ops l m = 0) : ConsO ops := by
  have h3 := (code_ok h).2.2.1
  have hlt : ∀ i j : Nat, j < i → i < ops.length → (ops.getD i default).level = (ops.getD j default).level → (ops.getD i default).right = (ops.getD j default).right := fun i j hj hi he => by
    have : opAt ops i = false := by
      cases e : opAt ops i with
      | false => rfl
      | true => rw [opsBad_hit hi e] at h3; cases h3
    have hm : ops.getD j default ∈ ops.take i := by
      have : ops.getD j default = (ops.take i).getD j default := by simp only [List.getD, List.getElem?_take_of_lt hj]
      rw [this]; exact getD_mem' (by rw [List.length_take]; omega)
    unfold opAt at this
    have h5 : opBad (ops.getD i default) (ops.getD j default) = false := by
      cases e : opBad (ops.getD i default) (ops.getD j default) with
      | false => rfl
      | true => rw [List.any_eq_true.mpr ⟨_, hm, e⟩] at this; cases this
    unfold opBad at h5
    rw [decide_eq_true he, Bool.true_and] at h5
    simpa using h5
  intro x y hx1 hx2 hy1 hy2 he
  unfold lv at he
  unfold rg
  rcases Nat.lt_trichotomy x.toNat y.toNat with h | h | h
  · exact (hlt _ _ h (by omega) he.symm).symm
  · rw [h]
  · exact hlt _ _ h (by omega) he
def crL (ops : List Opr) (O T : List Int) : List (Nat × Ob) := [(0, opsO ops), (2, lstO O), (3, lstO T.reverse)]
set_option maxRecDepth 10000 in
set_option maxHeartbeats 4000000 in
theorem climbRead_spec (ops : List Opr) (hn : ops.length ≤ 9223372036854775807) (l : List Int) (hl : l.length ≤ 9223372036854775807) : Dm.Spec Try.prog 19 [.sl 2 (tbl oprD ops), .sl 1 (i64s l)] (CrR ops l true) := by
  refine spec_of_vc mixed Try.func19 c19 (by rw [show Try.f19.ntmps = _ from Try.ntmps19]; simp) ?_
  unfold m19 r19
  have hC := climbCheck_spec ops hn l hl true
  by_cases h0 : opCode ops l true = 0
  rotate_left
  · repeat' first | (refine Br.dec (fun h => ?_) (fun h => ?_) <;> try (exfalso; omega)) | (refine Br.eqi (fun h => ?_) (fun h => ?_) <;> try (exfalso; omega)) | (simp (disch := (first | omega | (simp only [vlen]; first | done | omega))) only [vcs2, ↓va0, ↓va1, ↓va2, ↓va3, vb0, vb1, vb2, vb3, vb4, vb5, vb6, vb7, vb8, vb9, vb10, vz0, vz1, vy0, vx0, ↓reduceIte, Nat.reduceBEq, Nat.reduceEqDiff, Nat.reduceLT, Nat.reduceLeDiff, Nat.reduceAdd, Nat.reduceMul, Nat.reduceSub, reduceCtorEq, Int.reduceToNat]) | (refine Br.mk (fun h => ?_) (fun h => ?_)) | (refine BrN.mk (fun h => ?_) ?_) | (refine AltVC.mk ?_ ?_)
    refine CallVC.eq hC ?_
    repeat' first | (refine Br.dec (fun h => ?_) (fun h => ?_) <;> try (exfalso; omega)) | (refine Br.eqi (fun h => ?_) (fun h => ?_) <;> try (exfalso; omega)) | (simp (disch := (first | omega | (simp only [vlen]; first | done | omega))) only [vcs2, ↓va0, ↓va1, ↓va2, ↓va3, vb0, vb1, vb2, vb3, vb4, vb5, vb6, vb7, vb8, vb9, vb10, vz0, vz1, vy0, vx0, ↓reduceIte, Nat.reduceBEq, Nat.reduceEqDiff, Nat.reduceLT, Nat.reduceLeDiff, Nat.reduceAdd, Nat.reduceMul, Nat.reduceSub, reduceCtorEq, Int.reduceToNat]) | (refine Br.mk (fun h => ?_) (fun h => ?_)) | (refine BrN.mk (fun h => ?_) ?_) | (refine AltVC.mk ?_ ?_)
    exact fin_mk (.inl ⟨h0, rfl⟩)
  obtain ⟨hn6, hl60, _, _⟩ := code_ok h0
  have hvs := code_sg h0
  rw [h0] at hC
  repeat' first | (refine Br.dec (fun h => ?_) (fun h => ?_) <;> try (exfalso; omega)) | (refine Br.eqi (fun h => ?_) (fun h => ?_) <;> try (exfalso; omega)) | (simp (disch := (first | omega | (simp only [vlen]; first | done | omega))) only [vcs2, ↓va0, ↓va1, ↓va2, ↓va3, vb0, vb1, vb2, vb3, vb4, vb5, vb6, vb7, vb8, vb9, vb10, vz0, vz1, vy0, vx0, ↓reduceIte, Nat.reduceBEq, Nat.reduceEqDiff, Nat.reduceLT, Nat.reduceLeDiff, Nat.reduceAdd, Nat.reduceMul, Nat.reduceSub, reduceCtorEq, Int.reduceToNat]) | (refine Br.mk (fun h => ?_) (fun h => ?_)) | (refine BrN.mk (fun h => ?_) ?_) | (refine AltVC.mk ?_ ?_)
  refine CallVC.eq hC ?_
  repeat' first | (refine Br.dec (fun h => ?_) (fun h => ?_) <;> try (exfalso; omega)) | (refine Br.eqi (fun h => ?_) (fun h => ?_) <;> try (exfalso; omega)) | (simp (disch := (first | omega | (simp only [vlen]; first | done | omega))) only [vcs2, ↓va0, ↓va1, ↓va2, ↓va3, vb0, vb1, vb2, vb3, vb4, vb5, vb6, vb7, vb8, vb9, vb10, vz0, vz1, vy0, vx0, ↓reduceIte, Nat.reduceBEq, Nat.reduceEqDiff, Nat.reduceLT, Nat.reduceLeDiff, Nat.reduceAdd, Nat.reduceMul, Nat.reduceSub, reduceCtorEq, Int.reduceToNat]) | (refine Br.mk (fun h => ?_) (fun h => ?_)) | (refine BrN.mk (fun h => ?_) ?_) | (refine AltVC.mk ?_ ?_)
  refine LoopVC.nlo 2 0 0 1 ?_
  repeat' first | (refine Br.dec (fun h => ?_) (fun h => ?_) <;> try (exfalso; omega)) | (refine Br.eqi (fun h => ?_) (fun h => ?_) <;> try (exfalso; omega)) | (simp (disch := (first | omega | (simp only [vlen]; first | done | omega))) only [vcs2, ↓va0, ↓va1, ↓va2, ↓va3, vb0, vb1, vb2, vb3, vb4, vb5, vb6, vb7, vb8, vb9, vb10, vz0, vz1, vy0, vx0, ↓reduceIte, Nat.reduceBEq, Nat.reduceEqDiff, Nat.reduceLT, Nat.reduceLeDiff, Nat.reduceAdd, Nat.reduceMul, Nat.reduceSub, reduceCtorEq, Int.reduceToNat]) | (refine Br.mk (fun h => ?_) (fun h => ?_)) | (refine BrN.mk (fun h => ?_) ?_) | (refine AltVC.mk ?_ ?_)
  refine LoopVC.nlo 3 0 0 1 ?_
  repeat' first | (refine Br.dec (fun h => ?_) (fun h => ?_) <;> try (exfalso; omega)) | (refine Br.eqi (fun h => ?_) (fun h => ?_) <;> try (exfalso; omega)) | (simp (disch := (first | omega | (simp only [vlen]; first | done | omega))) only [vcs2, ↓va0, ↓va1, ↓va2, ↓va3, vb0, vb1, vb2, vb3, vb4, vb5, vb6, vb7, vb8, vb9, vb10, vz0, vz1, vy0, vx0, ↓reduceIte, Nat.reduceBEq, Nat.reduceEqDiff, Nat.reduceLT, Nat.reduceLeDiff, Nat.reduceAdd, Nat.reduceMul, Nat.reduceSub, reduceCtorEq, Int.reduceToNat]) | (refine Br.mk (fun h => ?_) (fun h => ?_)) | (refine BrN.mk (fun h => ?_) ?_) | (refine AltVC.mk ?_ ?_)
  refine LoopVC.mk (X := Nat × List Int × List Int × Bool) (fun x => [(2, .ptr 0 1 0 0), (7, .ptr 2 1 0 0), (8, .ptr 3 1 0 0), (9, .clo 33 [.ptr 3 1 0 0, .ptr 2 1 0 0]), (10, .v (.bool x.2.2.2)), (22, iv .i64 x.1)]) (fun x => crL ops x.2.1 x.2.2.1) (fun x => l.length - x.1) (fun x => x.1 ≤ l.length ∧ x.2.1.length + x.2.2.1.length ≤ x.1 ∧ (∀ t, t ∈ x.2.2.1 → tOk ops t) ∧ runC ops (l.take x.1) ([], [], true) = some (x.2.1, x.2.2.1, x.2.2.2)) (0, [], [], true) ⟨Nat.zero_le _, Nat.le_refl _, fun t h => by simp at h, rfl⟩ ?_ ?_
  · simp only [crL]
    (simp (disch := (first | omega | (simp only [vlen]; first | done | omega))) only [Fits_u, Fits_m, Fits_nil, List.length_append, vcs2, ↓va0, ↓va1, ↓va2, ↓va3, vb0, vb1, vb2, vb3, vb4, vb5, vb6, vb7, vb8, vb9, vb10, vz0, vz1, vy0, vx0, ↓reduceIte, Nat.reduceBEq, Nat.reduceEqDiff, Nat.reduceLT, Nat.reduceLeDiff, Nat.reduceAdd, Nat.reduceMul, Nat.reduceSub, reduceCtorEq, Int.reduceToNat] <;> (repeat' first | rfl | apply And.intro))
    all_goals first | rfl | skip
  · rintro ⟨i, O, T, w⟩ ⟨hi, hOT, hTk, hr⟩
    simp only at hi hOT hTk hr ⊢
    simp only [crL]
    have hTr : T.reverse.length = T.length := List.length_reverse
    by_cases hil : i < l.length
    · have hnx := fun c' h => run_next (c' := c') hr hil h
      have hfl := run_fail hr hil
      have hms : l.getD i 0 ∈ l := getD_mem' hil
      have hv := hvs _ hms
      obtain ⟨s, hs⟩ : ∃ s, l.getD i 0 = s := ⟨_, rfl⟩
      rw [hs] at hnx hfl hv
      by_cases hval : 100 ≤ s
      · cases w with
        | false =>
          have := hfl (stp_wrong (by simp; omega))
          repeat' first | (refine Br.dec (fun h => ?_) (fun h => ?_) <;> try (exfalso; omega)) | (refine Br.eqi (fun h => ?_) (fun h => ?_) <;> try (exfalso; omega)) | (simp (disch := (first | omega | (simp only [vlen]; first | done | omega))) only [vcs2, hs, ↓va0, ↓va1, ↓va2, ↓va3, vb0, vb1, vb2, vb3, vb4, vb5, vb6, vb7, vb8, vb9, vb10, vz0, vz1, vy0, vx0, ↓reduceIte, Nat.reduceBEq, Nat.reduceEqDiff, Nat.reduceLT, Nat.reduceLeDiff, Nat.reduceAdd, Nat.reduceMul, Nat.reduceSub, reduceCtorEq, Int.reduceToNat]) | (refine Br.mk (fun h => ?_) (fun h => ?_)) | (refine BrN.mk (fun h => ?_) ?_) | (refine AltVC.mk ?_ ?_)
          exact fin_mk (.inr ⟨h0, .inl ⟨this, rfl⟩⟩)
        | true =>
          have h2 := hnx _ (stp_val hval)
          repeat' first | (refine Br.dec (fun h => ?_) (fun h => ?_) <;> try (exfalso; omega)) | (refine Br.eqi (fun h => ?_) (fun h => ?_) <;> try (exfalso; omega)) | (simp (disch := (first | omega | (simp only [vlen]; first | done | omega))) only [vcs2, hs, ↓va0, ↓va1, ↓va2, ↓va3, vb0, vb1, vb2, vb3, vb4, vb5, vb6, vb7, vb8, vb9, vb10, vz0, vz1, vy0, vx0, ↓reduceIte, Nat.reduceBEq, Nat.reduceEqDiff, Nat.reduceLT, Nat.reduceLeDiff, Nat.reduceAdd, Nat.reduceMul, Nat.reduceSub, reduceCtorEq, Int.reduceToNat]) | (refine Br.mk (fun h => ?_) (fun h => ?_)) | (refine BrN.mk (fun h => ?_) ?_) | (refine AltVC.mk ?_ ?_)
          refine loopK.fold 5 2 0 0 true ?_
          repeat' first | (refine Br.dec (fun h => ?_) (fun h => ?_) <;> try (exfalso; omega)) | (refine Br.eqi (fun h => ?_) (fun h => ?_) <;> try (exfalso; omega)) | (simp (disch := (first | omega | (simp only [vlen]; first | done | omega))) only [vcs2, hs, ↓va0, ↓va1, ↓va2, ↓va3, vb0, vb1, vb2, vb3, vb4, vb5, vb6, vb7, vb8, vb9, vb10, vz0, vz1, vy0, vx0, ↓reduceIte, Nat.reduceBEq, Nat.reduceEqDiff, Nat.reduceLT, Nat.reduceLeDiff, Nat.reduceAdd, Nat.reduceMul, Nat.reduceSub, reduceCtorEq, Int.reduceToNat]) | (refine Br.mk (fun h => ?_) (fun h => ?_)) | (refine BrN.mk (fun h => ?_) ?_) | (refine AltVC.mk ?_ ?_)
          refine loopK.mk (i + 1, O ++ [s], T, false) (by simp (disch := (first | omega | (simp only [vlen]; first | done | omega))) only [↓va0, ↓va1, ↓va2, ↓va3, vb0, vb1, vb2, vb3, vb4, vb5, vb6, vb7, vb8, vb9, vb10, vz0, vz1, vy0, vx0, ↓reduceIte, Nat.reduceBEq, Nat.reduceEqDiff, Nat.reduceLT, Nat.reduceLeDiff, Nat.reduceAdd, Nat.reduceMul, Nat.reduceSub, reduceCtorEq, Int.reduceToNat]) ⟨by show i + 1 ≤ l.length; omega, by show (O ++ [s]).length + T.length ≤ i + 1; rw [snoc_len]; omega, hTk, h2⟩ (by show l.length - (i + 1) < l.length - i; omega) ?_
          (simp (disch := (first | omega | (simp only [vlen]; first | done | omega))) only [Fits_u, Fits_m, Fits_nil, List.length_append, vcs2, hs, ↓va0, ↓va1, ↓va2, ↓va3, vb0, vb1, vb2, vb3, vb4, vb5, vb6, vb7, vb8, vb9, vb10, vz0, vz1, vy0, vx0, ↓reduceIte, Nat.reduceBEq, Nat.reduceEqDiff, Nat.reduceLT, Nat.reduceLeDiff, Nat.reduceAdd, Nat.reduceMul, Nat.reduceSub, reduceCtorEq, Int.reduceToNat] <;> (repeat' first | rfl | apply And.intro))
          all_goals first | rfl | skip
      · by_cases hop : s = -1
        · subst hop
          cases w with
          | false =>
            have := hfl (stp_wrong (by simp))
            repeat' first | (refine Br.dec (fun h => ?_) (fun h => ?_) <;> try (exfalso; omega)) | (refine Br.eqi (fun h => ?_) (fun h => ?_) <;> try (exfalso; omega)) | (simp (disch := (first | omega | (simp only [vlen]; first | done | omega))) only [vcs2, hs, ↓va0, ↓va1, ↓va2, ↓va3, vb0, vb1, vb2, vb3, vb4, vb5, vb6, vb7, vb8, vb9, vb10, vz0, vz1, vy0, vx0, ↓reduceIte, Nat.reduceBEq, Nat.reduceEqDiff, Nat.reduceLT, Nat.reduceLeDiff, Nat.reduceAdd, Nat.reduceMul, Nat.reduceSub, reduceCtorEq, Int.reduceToNat]) | (refine Br.mk (fun h => ?_) (fun h => ?_)) | (refine BrN.mk (fun h => ?_) ?_) | (refine AltVC.mk ?_ ?_)
            exact fin_mk (.inr ⟨h0, .inl ⟨this, rfl⟩⟩)
          | true =>
            have h2 := hnx _ stp_open
            repeat' first | (refine Br.dec (fun h => ?_) (fun h => ?_) <;> try (exfalso; omega)) | (refine Br.eqi (fun h => ?_) (fun h => ?_) <;> try (exfalso; omega)) | (simp (disch := (first | omega | (simp only [vlen]; first | done | omega))) only [vcs2, hs, ↓va0, ↓va1, ↓va2, ↓va3, vb0, vb1, vb2, vb3, vb4, vb5, vb6, vb7, vb8, vb9, vb10, vz0, vz1, vy0, vx0, ↓reduceIte, Nat.reduceBEq, Nat.reduceEqDiff, Nat.reduceLT, Nat.reduceLeDiff, Nat.reduceAdd, Nat.reduceMul, Nat.reduceSub, reduceCtorEq, Int.reduceToNat]) | (refine Br.mk (fun h => ?_) (fun h => ?_)) | (refine BrN.mk (fun h => ?_) ?_) | (refine AltVC.mk ?_ ?_)
            refine loopK.fold 5 3 0 0 true ?_
            repeat' first | (refine Br.dec (fun h => ?_) (fun h => ?_) <;> try (exfalso; omega)) | (refine Br.eqi (fun h => ?_) (fun h => ?_) <;> try (exfalso; omega)) | (simp (disch := (first | omega | (simp only [vlen]; first | done | omega))) only [vcs2, hs, ↓va0, ↓va1, ↓va2, ↓va3, vb0, vb1, vb2, vb3, vb4, vb5, vb6, vb7, vb8, vb9, vb10, vz0, vz1, vy0, vx0, ↓reduceIte, Nat.reduceBEq, Nat.reduceEqDiff, Nat.reduceLT, Nat.reduceLeDiff, Nat.reduceAdd, Nat.reduceMul, Nat.reduceSub, reduceCtorEq, Int.reduceToNat]) | (refine Br.mk (fun h => ?_) (fun h => ?_)) | (refine BrN.mk (fun h => ?_) ?_) | (refine AltVC.mk ?_ ?_)
            refine loopK.mk (i + 1, O, -1 :: T, true) (by simp (disch := (first | omega | (simp only [vlen]; first | done | omega))) only [↓va0, ↓va1, ↓va2, ↓va3, vb0, vb1, vb2, vb3, vb4, vb5, vb6, vb7, vb8, vb9, vb10, vz0, vz1, vy0, vx0, ↓reduceIte, Nat.reduceBEq, Nat.reduceEqDiff, Nat.reduceLT, Nat.reduceLeDiff, Nat.reduceAdd, Nat.reduceMul, Nat.reduceSub, reduceCtorEq, Int.reduceToNat]) ⟨by show i + 1 ≤ l.length; omega, by show O.length + (-1 :: T).length ≤ i + 1; rw [List.length_cons]; omega, fun t ht => by rcases List.mem_cons.mp ht with h | h; exact .inl h; exact hTk t h, h2⟩ (by show l.length - (i + 1) < l.length - i; omega) ?_
            (simp (disch := (first | omega | (simp only [vlen]; first | done | omega))) only [Fits_u, Fits_m, Fits_nil, List.length_append, vcs2, hs, ↓va0, ↓va1, ↓va2, ↓va3, vb0, vb1, vb2, vb3, vb4, vb5, vb6, vb7, vb8, vb9, vb10, vz0, vz1, vy0, vx0, ↓reduceIte, Nat.reduceBEq, Nat.reduceEqDiff, Nat.reduceLT, Nat.reduceLeDiff, Nat.reduceAdd, Nat.reduceMul, Nat.reduceSub, reduceCtorEq, Int.reduceToNat] <;> (repeat' first | rfl | apply And.intro))
            all_goals first | rfl | (rw [List.reverse_cons]; done) | exact obRev | skip
        · have hs1 : (s == -1) = false := by simpa using hop
          cases w with
          | true =>
            have := hfl (stp_wrong (by simp; omega))
            repeat' first | (refine Br.dec (fun h => ?_) (fun h => ?_) <;> try (exfalso; omega)) | (refine Br.eqi (fun h => ?_) (fun h => ?_) <;> try (exfalso; omega)) | (simp (disch := (first | omega | (simp only [vlen]; first | done | omega))) only [vcs2, hs, hs1, ↓va0, ↓va1, ↓va2, ↓va3, vb0, vb1, vb2, vb3, vb4, vb5, vb6, vb7, vb8, vb9, vb10, vz0, vz1, vy0, vx0, ↓reduceIte, Nat.reduceBEq, Nat.reduceEqDiff, Nat.reduceLT, Nat.reduceLeDiff, Nat.reduceAdd, Nat.reduceMul, Nat.reduceSub, reduceCtorEq, Int.reduceToNat]) | (refine Br.mk (fun h => ?_) (fun h => ?_)) | (refine BrN.mk (fun h => ?_) ?_) | (refine AltVC.mk ?_ ?_)
            exact fin_mk (.inr ⟨h0, .inl ⟨this, rfl⟩⟩)
          | false =>
            by_cases hcl : s = -2
            · subst hcl
              have hE := emita_spec T O (by omega) (by omega)
              have hst := @stp_close ops O T
              repeat' first | (refine Br.dec (fun h => ?_) (fun h => ?_) <;> try (exfalso; omega)) | (refine Br.eqi (fun h => ?_) (fun h => ?_) <;> try (exfalso; omega)) | (simp (disch := (first | omega | (simp only [vlen]; first | done | omega))) only [vcs2, hs, hs1, ↓va0, ↓va1, ↓va2, ↓va3, vb0, vb1, vb2, vb3, vb4, vb5, vb6, vb7, vb8, vb9, vb10, vz0, vz1, vy0, vx0, ↓reduceIte, Nat.reduceBEq, Nat.reduceEqDiff, Nat.reduceLT, Nat.reduceLeDiff, Nat.reduceAdd, Nat.reduceMul, Nat.reduceSub, reduceCtorEq, Int.reduceToNat]) | (refine Br.mk (fun h => ?_) (fun h => ?_)) | (refine BrN.mk (fun h => ?_) ?_) | (refine AltVC.mk ?_ ?_)
              refine CallVC.lendE [3, 2] [.clo 34 [], .ptr 0 1 0 0, .ptr 1 1 0 0] [lstO T.reverse, lstO O] hE (by simp) (by rfl) (by (simp (disch := (first | omega | (simp only [vlen]; first | done | omega))) only [vle0, ↓va0, ↓va1, ↓va2, ↓va3, vb0, vb1, vb2, vb3, vb4, vb5, vb6, vb7, vb8, vb9, vb10, vz0, vz1, vy0, vx0, ↓reduceIte, Nat.reduceBEq, Nat.reduceEqDiff, Nat.reduceLT, Nat.reduceLeDiff, Nat.reduceAdd, Nat.reduceMul, Nat.reduceSub, reduceCtorEq, Int.reduceToNat] <;> (repeat' first | rfl | apply And.intro))) ?_
              rintro _ _ rfl
              have hdl := @drop_len nO T
              cases hT2 : T.dropWhile nO with
              | nil =>
                rw [hT2] at hst
                have := hfl hst
                rw [List.reverse_nil]
                repeat' first | (refine Br.dec (fun h => ?_) (fun h => ?_) <;> try (exfalso; omega)) | (refine Br.eqi (fun h => ?_) (fun h => ?_) <;> try (exfalso; omega)) | (simp (disch := (first | omega | (simp only [vlen]; first | done | omega))) only [vcs2, hs, ↓va0, ↓va1, ↓va2, ↓va3, vb0, vb1, vb2, vb3, vb4, vb5, vb6, vb7, vb8, vb9, vb10, vz0, vz1, vy0, vx0, ↓reduceIte, Nat.reduceBEq, Nat.reduceEqDiff, Nat.reduceLT, Nat.reduceLeDiff, Nat.reduceAdd, Nat.reduceMul, Nat.reduceSub, reduceCtorEq, Int.reduceToNat]) | (refine Br.mk (fun h => ?_) (fun h => ?_)) | (refine BrN.mk (fun h => ?_) ?_) | (refine AltVC.mk ?_ ?_)
                exact fin_mk (.inr ⟨h0, .inl ⟨this, rfl⟩⟩)
              | cons x r =>
                rw [hT2] at hst hdl
                have h2 := hnx _ hst
                have hrk : ∀ t, t ∈ r → tOk ops t := fun t ht => hTk t (drop_sub (p := nO) (by rw [hT2]; exact List.mem_cons_of_mem _ ht))
                rw [List.length_cons] at hdl
                rw [List.reverse_cons]
                obtain ⟨R, hR⟩ : ∃ R, r.reverse = R := ⟨_, rfl⟩
                have hRl : R.length = r.length := by rw [← hR, List.length_reverse]
                rw [hR]
                repeat' first | (refine Br.dec (fun h => ?_) (fun h => ?_) <;> try (exfalso; omega)) | (refine Br.eqi (fun h => ?_) (fun h => ?_) <;> try (exfalso; omega)) | (simp (disch := (first | omega | (simp only [vlen]; first | done | omega))) only [vcs3, hs, ↓va0, ↓va1, ↓va2, ↓va3, vb0, vb1, vb2, vb3, vb4, vb5, vb6, vb7, vb8, vb9, vb10, vz0, vz1, vy0, vx0, ↓reduceIte, Nat.reduceBEq, Nat.reduceEqDiff, Nat.reduceLT, Nat.reduceLeDiff, Nat.reduceAdd, Nat.reduceMul, Nat.reduceSub, reduceCtorEq, Int.reduceToNat]) | (refine Br.mk (fun h => ?_) (fun h => ?_)) | (refine BrN.mk (fun h => ?_) ?_) | (refine AltVC.mk ?_ ?_)
                refine loopK.fold 5 3 0 0 true ?_
                repeat' first | (refine Br.dec (fun h => ?_) (fun h => ?_) <;> try (exfalso; omega)) | (refine Br.eqi (fun h => ?_) (fun h => ?_) <;> try (exfalso; omega)) | (simp (disch := (first | omega | (simp only [vlen]; first | done | omega))) only [vcs3, hs, ↓va0, ↓va1, ↓va2, ↓va3, vb0, vb1, vb2, vb3, vb4, vb5, vb6, vb7, vb8, vb9, vb10, vz0, vz1, vy0, vx0, ↓reduceIte, Nat.reduceBEq, Nat.reduceEqDiff, Nat.reduceLT, Nat.reduceLeDiff, Nat.reduceAdd, Nat.reduceMul, Nat.reduceSub, reduceCtorEq, Int.reduceToNat]) | (refine Br.mk (fun h => ?_) (fun h => ?_)) | (refine BrN.mk (fun h => ?_) ?_) | (refine AltVC.mk ?_ ?_)
                refine loopK.mk (i + 1, O ++ T.takeWhile nO, r, false) (by simp (disch := (first | omega | (simp only [vlen]; first | done | omega))) only [↓va0, ↓va1, ↓va2, ↓va3, vb0, vb1, vb2, vb3, vb4, vb5, vb6, vb7, vb8, vb9, vb10, vz0, vz1, vy0, vx0, ↓reduceIte, Nat.reduceBEq, Nat.reduceEqDiff, Nat.reduceLT, Nat.reduceLeDiff, Nat.reduceAdd, Nat.reduceMul, Nat.reduceSub, reduceCtorEq, Int.reduceToNat]) ⟨by show i + 1 ≤ l.length; omega, by show (O ++ T.takeWhile nO).length + r.length ≤ i + 1; rw [List.length_append]; omega, hrk, h2⟩ (by show l.length - (i + 1) < l.length - i; omega) ?_
                (simp (disch := (first | omega | (simp only [vlen]; first | done | omega))) only [Fits_u, Fits_m, Fits_nil, List.length_append, vcs3, hR, ↓va0, ↓va1, ↓va2, ↓va3, vb0, vb1, vb2, vb3, vb4, vb5, vb6, vb7, vb8, vb9, vb10, vz0, vz1, vy0, vx0, ↓reduceIte, Nat.reduceBEq, Nat.reduceEqDiff, Nat.reduceLT, Nat.reduceLeDiff, Nat.reduceAdd, Nat.reduceMul, Nat.reduceSub, reduceCtorEq, Int.reduceToNat] <;> (repeat' first | rfl | apply And.intro))
                all_goals first | rfl | skip
            · have hso : isO s := by unfold vS at hv; unfold isO; omega
              have hsn : 0 ≤ s ∧ s < ops.length := by unfold vS at hv; omega
              have h2 := hnx _ (stp_op hso)
              have hE := emitS_spec ops hn6 s hsn T O hTk (by omega) (by omega)
              have hdl := @drop_len (pp ops s) T
              repeat' first | (refine Br.dec (fun h => ?_) (fun h => ?_) <;> try (exfalso; omega)) | (refine Br.eqi (fun h => ?_) (fun h => ?_) <;> try (exfalso; omega)) | (simp (disch := (first | omega | (simp only [vlen]; first | done | omega))) only [vcs2, hs, hs1, ↓va0, ↓va1, ↓va2, ↓va3, vb0, vb1, vb2, vb3, vb4, vb5, vb6, vb7, vb8, vb9, vb10, vz0, vz1, vy0, vx0, ↓reduceIte, Nat.reduceBEq, Nat.reduceEqDiff, Nat.reduceLT, Nat.reduceLeDiff, Nat.reduceAdd, Nat.reduceMul, Nat.reduceSub, reduceCtorEq, Int.reduceToNat]) | (refine Br.mk (fun h => ?_) (fun h => ?_)) | (refine BrN.mk (fun h => ?_) ?_) | (refine AltVC.mk ?_ ?_)
              refine CallVC.lendE [3, 2, 0, 4] [.clo 35 [.ptr 2 1 0 0, .ptr 3 1 0 0], .ptr 0 1 0 0, .ptr 1 1 0 0] [lstO T.reverse, lstO O, opsO ops, intO s] hE (by simp) (by rfl) (by (simp (disch := (first | omega | (simp only [vlen]; first | done | omega))) only [vle0, ↓va0, ↓va1, ↓va2, ↓va3, vb0, vb1, vb2, vb3, vb4, vb5, vb6, vb7, vb8, vb9, vb10, vz0, vz1, vy0, vx0, ↓reduceIte, Nat.reduceBEq, Nat.reduceEqDiff, Nat.reduceLT, Nat.reduceLeDiff, Nat.reduceAdd, Nat.reduceMul, Nat.reduceSub, reduceCtorEq, Int.reduceToNat] <;> (repeat' first | rfl | apply And.intro))) ?_
              rintro _ _ rfl
              have hT2k : ∀ t, t ∈ s :: T.dropWhile (pp ops s) → tOk ops t := fun t ht => by
                rcases List.mem_cons.mp ht with h | h
                · subst h; exact .inr hsn
                · exact hTk t (drop_sub h)
              obtain ⟨T2, hT2⟩ : ∃ T2, T.dropWhile (pp ops s) = T2 := ⟨_, rfl⟩
              rw [hT2] at hdl h2 hT2k ⊢
              obtain ⟨R, hR⟩ : ∃ R, T2.reverse = R := ⟨_, rfl⟩
              have hRl : R.length = T2.length := by rw [← hR, List.length_reverse]
              rw [hR]
              repeat' first | (refine Br.dec (fun h => ?_) (fun h => ?_) <;> try (exfalso; omega)) | (refine Br.eqi (fun h => ?_) (fun h => ?_) <;> try (exfalso; omega)) | (simp (disch := (first | omega | (simp only [vlen]; first | done | omega))) only [vcs2, hs, ↓va0, ↓va1, ↓va2, ↓va3, vb0, vb1, vb2, vb3, vb4, vb5, vb6, vb7, vb8, vb9, vb10, vz0, vz1, vy0, vx0, ↓reduceIte, Nat.reduceBEq, Nat.reduceEqDiff, Nat.reduceLT, Nat.reduceLeDiff, Nat.reduceAdd, Nat.reduceMul, Nat.reduceSub, reduceCtorEq, Int.reduceToNat]) | (refine Br.mk (fun h => ?_) (fun h => ?_)) | (refine BrN.mk (fun h => ?_) ?_) | (refine AltVC.mk ?_ ?_)
              refine loopK.fold 5 3 0 0 true ?_
              repeat' first | (refine Br.dec (fun h => ?_) (fun h => ?_) <;> try (exfalso; omega)) | (refine Br.eqi (fun h => ?_) (fun h => ?_) <;> try (exfalso; omega)) | (simp (disch := (first | omega | (simp only [vlen]; first | done | omega))) only [vcs2, hs, ↓va0, ↓va1, ↓va2, ↓va3, vb0, vb1, vb2, vb3, vb4, vb5, vb6, vb7, vb8, vb9, vb10, vz0, vz1, vy0, vx0, ↓reduceIte, Nat.reduceBEq, Nat.reduceEqDiff, Nat.reduceLT, Nat.reduceLeDiff, Nat.reduceAdd, Nat.reduceMul, Nat.reduceSub, reduceCtorEq, Int.reduceToNat]) | (refine Br.mk (fun h => ?_) (fun h => ?_)) | (refine BrN.mk (fun h => ?_) ?_) | (refine AltVC.mk ?_ ?_)
              refine loopK.mk (i + 1, O ++ T.takeWhile (pp ops s), s :: T2, true) (by simp (disch := (first | omega | (simp only [vlen]; first | done | omega))) only [↓va0, ↓va1, ↓va2, ↓va3, vb0, vb1, vb2, vb3, vb4, vb5, vb6, vb7, vb8, vb9, vb10, vz0, vz1, vy0, vx0, ↓reduceIte, Nat.reduceBEq, Nat.reduceEqDiff, Nat.reduceLT, Nat.reduceLeDiff, Nat.reduceAdd, Nat.reduceMul, Nat.reduceSub, reduceCtorEq, Int.reduceToNat]) ⟨by show i + 1 ≤ l.length; omega, by show (O ++ T.takeWhile (pp ops s)).length + (s :: T2).length ≤ i + 1; rw [List.length_append, List.length_cons]; omega, hT2k, h2⟩ (by show l.length - (i + 1) < l.length - i; omega) ?_
              (simp (disch := (first | omega | (simp only [vlen]; first | done | omega))) only [Fits_u, Fits_m, Fits_nil, List.length_append, vcs2, hs, ↓va0, ↓va1, ↓va2, ↓va3, vb0, vb1, vb2, vb3, vb4, vb5, vb6, vb7, vb8, vb9, vb10, vz0, vz1, vy0, vx0, ↓reduceIte, Nat.reduceBEq, Nat.reduceEqDiff, Nat.reduceLT, Nat.reduceLeDiff, Nat.reduceAdd, Nat.reduceMul, Nat.reduceSub, reduceCtorEq, Int.reduceToNat] <;> (repeat' first | rfl | apply And.intro))
              all_goals first | rfl | (subst hR; exact obRev) | skip
    · have hil2 : l.take i = l := List.take_of_length_le (by omega)
      rw [hil2] at hr
      have hacc : accC ops l = if w then none else if T.dropWhile nO = [] then some (O ++ T.takeWhile nO) else none := by unfold accC; rw [hr]
      cases w with
      | true =>
        repeat' first | (refine Br.dec (fun h => ?_) (fun h => ?_) <;> try (exfalso; omega)) | (refine Br.eqi (fun h => ?_) (fun h => ?_) <;> try (exfalso; omega)) | (simp (disch := (first | omega | (simp only [vlen]; first | done | omega))) only [vcs2, ↓va0, ↓va1, ↓va2, ↓va3, vb0, vb1, vb2, vb3, vb4, vb5, vb6, vb7, vb8, vb9, vb10, vz0, vz1, vy0, vx0, ↓reduceIte, Nat.reduceBEq, Nat.reduceEqDiff, Nat.reduceLT, Nat.reduceLeDiff, Nat.reduceAdd, Nat.reduceMul, Nat.reduceSub, reduceCtorEq, Int.reduceToNat]) | (refine Br.mk (fun h => ?_) (fun h => ?_)) | (refine BrN.mk (fun h => ?_) ?_) | (refine AltVC.mk ?_ ?_)
        exact fin_mk (.inr ⟨h0, .inl ⟨hacc, rfl⟩⟩)
      | false =>
        have hE := emitb_spec T O (by omega) (by omega)
        repeat' first | (refine Br.dec (fun h => ?_) (fun h => ?_) <;> try (exfalso; omega)) | (refine Br.eqi (fun h => ?_) (fun h => ?_) <;> try (exfalso; omega)) | (simp (disch := (first | omega | (simp only [vlen]; first | done | omega))) only [vcs2, ↓va0, ↓va1, ↓va2, ↓va3, vb0, vb1, vb2, vb3, vb4, vb5, vb6, vb7, vb8, vb9, vb10, vz0, vz1, vy0, vx0, ↓reduceIte, Nat.reduceBEq, Nat.reduceEqDiff, Nat.reduceLT, Nat.reduceLeDiff, Nat.reduceAdd, Nat.reduceMul, Nat.reduceSub, reduceCtorEq, Int.reduceToNat]) | (refine Br.mk (fun h => ?_) (fun h => ?_)) | (refine BrN.mk (fun h => ?_) ?_) | (refine AltVC.mk ?_ ?_)
        refine CallVC.lendE [3, 2] [.clo 37 [], .ptr 0 1 0 0, .ptr 1 1 0 0] [lstO T.reverse, lstO O] hE (by simp) (by rfl) (by (simp (disch := (first | omega | (simp only [vlen]; first | done | omega))) only [vle0, ↓va0, ↓va1, ↓va2, ↓va3, vb0, vb1, vb2, vb3, vb4, vb5, vb6, vb7, vb8, vb9, vb10, vz0, vz1, vy0, vx0, ↓reduceIte, Nat.reduceBEq, Nat.reduceEqDiff, Nat.reduceLT, Nat.reduceLeDiff, Nat.reduceAdd, Nat.reduceMul, Nat.reduceSub, reduceCtorEq, Int.reduceToNat] <;> (repeat' first | rfl | apply And.intro))) ?_
        rintro _ _ rfl
        obtain ⟨T2, hT2⟩ : ∃ T2, T.dropWhile nO = T2 := ⟨_, rfl⟩
        rw [hT2] at hacc ⊢
        by_cases hT0 : T2.length = 0
        · have hTn : T2 = [] := List.eq_nil_of_length_eq_zero hT0
          subst hTn
          rw [if_neg (by simp), if_pos rfl] at hacc
          rw [List.reverse_nil]
          repeat' first | (refine Br.dec (fun h => ?_) (fun h => ?_) <;> try (exfalso; omega)) | (refine Br.eqi (fun h => ?_) (fun h => ?_) <;> try (exfalso; omega)) | (simp (disch := (first | omega | (simp only [vlen]; first | done | omega))) only [vcs2, ↓va0, ↓va1, ↓va2, ↓va3, vb0, vb1, vb2, vb3, vb4, vb5, vb6, vb7, vb8, vb9, vb10, vz0, vz1, vy0, vx0, ↓reduceIte, Nat.reduceBEq, Nat.reduceEqDiff, Nat.reduceLT, Nat.reduceLeDiff, Nat.reduceAdd, Nat.reduceMul, Nat.reduceSub, reduceCtorEq, Int.reduceToNat]) | (refine Br.mk (fun h => ?_) (fun h => ?_)) | (refine BrN.mk (fun h => ?_) ?_) | (refine AltVC.mk ?_ ?_)
          exact fin_mk (.inr ⟨h0, .inr ⟨_, hacc, rfl⟩⟩)
        · rw [if_neg (by simp), if_neg (fun h => hT0 (by rw [h]; rfl))] at hacc
          obtain ⟨R, hR⟩ : ∃ R, T2.reverse = R := ⟨_, rfl⟩
          have hRl : R.length = T2.length := by rw [← hR, List.length_reverse]
          rw [hR]
          repeat' first | (refine Br.dec (fun h => ?_) (fun h => ?_) <;> try (exfalso; omega)) | (refine Br.eqi (fun h => ?_) (fun h => ?_) <;> try (exfalso; omega)) | (simp (disch := (first | omega | (simp only [vlen]; first | done | omega))) only [vcs2, ↓va0, ↓va1, ↓va2, ↓va3, vb0, vb1, vb2, vb3, vb4, vb5, vb6, vb7, vb8, vb9, vb10, vz0, vz1, vy0, vx0, ↓reduceIte, Nat.reduceBEq, Nat.reduceEqDiff, Nat.reduceLT, Nat.reduceLeDiff, Nat.reduceAdd, Nat.reduceMul, Nat.reduceSub, reduceCtorEq, Int.reduceToNat]) | (refine Br.mk (fun h => ?_) (fun h => ?_)) | (refine BrN.mk (fun h => ?_) ?_) | (refine AltVC.mk ?_ ?_)
          exact fin_mk (.inr ⟨h0, .inl ⟨hacc, rfl⟩⟩)
end Go.Proofs.Ytllkafockafdcaa
