/-
  Machines: the machine of all other words; the law MachineNot.
-/
import Derived.Test.YtbbpmodfbdibcaaMRun
namespace Go.Proofs.Ytbbpmodfbdibcaa
open Go.Dm
set_option linter.unusedSimpArgs false
set_option linter.unnecessarySimpa false
set_option linter.unusedVariables false

theorem ext_d {α : Type} {a b : List α} {d : α} (hl : a.length = b.length) (h : ∀ j, j < a.length → a.getD j d = b.getD j d) : a = b := by
  apply List.ext_getElem hl
  intro j h1 h2
  have := h j h1
  simpa [List.getD, h1, h2] using this
set_option maxRecDepth 10000 in
set_option maxHeartbeats 4000000 in
theorem cloneS_int (l : List Int) (h : l.length ≤ 1000000) : Dm.Spec Try.prog 66 [.sl 1 (i64s l)] (· = .sl 1 (i64s l)) := by
  refine spec_of_vc mixed Try.func66 c66 (by rw [show Try.f66.ntmps = _ from Try.ntmps66]; simp) ?_
  unfold m66 r66
  repeat' first | (refine Br.dec (fun h => ?_) (fun h => ?_) <;> try (exfalso; omega)) | (refine Br.eqi (fun h => ?_) (fun h => ?_) <;> try (exfalso; omega)) | (simp (disch := (first | omega | (simp only [List.length_cons, List.length_nil, List.length_append, List.length_map, List.length_replicate, List.length_take, List.length_drop, List.length_set, tab_length, tabD_len, i64s_len, bls_len, u8s_len, tbl_len, rows_len]; first | done | omega))) only [↓va0, ↓va1, ↓va2, ↓va3, vb0, vb1, vb2, vb3, vb4, vb5, vb6, vb7, vb8, vb9, vb10, vz0, vz1, vy0, vx0, ↓reduceIte, Nat.reduceBEq, Nat.reduceEqDiff, Nat.reduceLT, Nat.reduceLeDiff, Nat.reduceAdd, Nat.reduceMul, Nat.reduceSub, reduceCtorEq, Int.reduceToNat]) | (refine Br.mk (fun h => ?_) (fun h => ?_)) | (refine BrN.mk (fun h => ?_) ?_) | (refine AltVC.mk ?_ ?_)
  · have : l = [] := List.eq_nil_of_length_eq_zero (by assumption)
    subst this
    exact fin_mk rfl
  · exact fin_mk rfl
set_option maxRecDepth 10000 in
set_option maxHeartbeats 4000000 in
theorem intsM_spec (a b : List Int) (ha : a.length ≤ 9223372036854775807) (hb : b.length ≤ 9223372036854775807) : Dm.Spec Try.prog 23 [.sl 1 (i64s a), .sl 1 (i64s b)] (· = .v (.bool (decide (a = b)))) := by
  refine spec_of_vc mixed Try.func23 c23 (by rw [show Try.f23.ntmps = _ from Try.ntmps23]; simp) ?_
  unfold m23 r23
  repeat' first | (refine Br.dec (fun h => ?_) (fun h => ?_) <;> try (exfalso; omega)) | (refine Br.eqi (fun h => ?_) (fun h => ?_) <;> try (exfalso; omega)) | (simp (disch := (first | omega | (simp only [List.length_cons, List.length_nil, List.length_append, List.length_map, List.length_replicate, List.length_take, List.length_drop, List.length_set, tab_length, tabD_len, i64s_len, bls_len, u8s_len, tbl_len, rows_len]; first | done | omega))) only [↓va0, ↓va1, ↓va2, ↓va3, vb0, vb1, vb2, vb3, vb4, vb5, vb6, vb7, vb8, vb9, vb10, vz0, vz1, vy0, vx0, ↓reduceIte, Nat.reduceBEq, Nat.reduceEqDiff, Nat.reduceLT, Nat.reduceLeDiff, Nat.reduceAdd, Nat.reduceMul, Nat.reduceSub, reduceCtorEq, Int.reduceToNat]) | (refine Br.mk (fun h => ?_) (fun h => ?_)) | (refine BrN.mk (fun h => ?_) ?_) | (refine AltVC.mk ?_ ?_)
  · refine LoopVC.mk (X := Nat) (fun i => [(5, iv .i64 i)]) (fun _ => []) (fun i => a.length - i) (fun i => i ≤ a.length ∧ ∀ j, j < i → a.getD j 0 = b.getD j 0) 0 ⟨by omega, by omega⟩ ?_ ?_
    · (simp (disch := (first | omega | (simp only [List.length_cons, List.length_nil, List.length_append, List.length_map, List.length_replicate, List.length_take, List.length_drop, List.length_set, tab_length, tabD_len, i64s_len, bls_len, u8s_len, tbl_len, rows_len]; first | done | omega))) only [Fits_u, Fits_m, Fits_nil, List.length_append, ↓va0, ↓va1, ↓va2, ↓va3, vb0, vb1, vb2, vb3, vb4, vb5, vb6, vb7, vb8, vb9, vb10, vz0, vz1, vy0, vx0, ↓reduceIte, Nat.reduceBEq, Nat.reduceEqDiff, Nat.reduceLT, Nat.reduceLeDiff, Nat.reduceAdd, Nat.reduceMul, Nat.reduceSub, reduceCtorEq, Int.reduceToNat] <;> (repeat' first | rfl | apply And.intro))
    · rintro i ⟨h1, h2⟩
      repeat' first | (refine Br.dec (fun h => ?_) (fun h => ?_) <;> try (exfalso; omega)) | (refine Br.eqi (fun h => ?_) (fun h => ?_) <;> try (exfalso; omega)) | (simp (disch := (first | omega | (simp only [List.length_cons, List.length_nil, List.length_append, List.length_map, List.length_replicate, List.length_take, List.length_drop, List.length_set, tab_length, tabD_len, i64s_len, bls_len, u8s_len, tbl_len, rows_len]; first | done | omega))) only [↓va0, ↓va1, ↓va2, ↓va3, vb0, vb1, vb2, vb3, vb4, vb5, vb6, vb7, vb8, vb9, vb10, vz0, vz1, vy0, vx0, ↓reduceIte, Nat.reduceBEq, Nat.reduceEqDiff, Nat.reduceLT, Nat.reduceLeDiff, Nat.reduceAdd, Nat.reduceMul, Nat.reduceSub, reduceCtorEq, Int.reduceToNat]) | (refine Br.mk (fun h => ?_) (fun h => ?_)) | (refine BrN.mk (fun h => ?_) ?_) | (refine AltVC.mk ?_ ?_)
      · exact loopK.mk (i + 1) (by simp (disch := (first | omega | (simp only [List.length_cons, List.length_nil, List.length_append, List.length_map, List.length_replicate, List.length_take, List.length_drop, List.length_set, tab_length, tabD_len, i64s_len, bls_len, u8s_len, tbl_len, rows_len]; first | done | omega))) only [↓va0, ↓va1, ↓va2, ↓va3, vb0, vb1, vb2, vb3, vb4, vb5, vb6, vb7, vb8, vb9, vb10, vz0, vz1, vy0, vx0, ↓reduceIte, Nat.reduceBEq, Nat.reduceEqDiff, Nat.reduceLT, Nat.reduceLeDiff, Nat.reduceAdd, Nat.reduceMul, Nat.reduceSub, reduceCtorEq, Int.reduceToNat]) ⟨by omega, succ_all h2 (by assumption)⟩ (by omega) (by (simp (disch := (first | omega | (simp only [List.length_cons, List.length_nil, List.length_append, List.length_map, List.length_replicate, List.length_take, List.length_drop, List.length_set, tab_length, tabD_len, i64s_len, bls_len, u8s_len, tbl_len, rows_len]; first | done | omega))) only [Fits_u, Fits_m, Fits_nil, List.length_append, ↓va0, ↓va1, ↓va2, ↓va3, vb0, vb1, vb2, vb3, vb4, vb5, vb6, vb7, vb8, vb9, vb10, vz0, vz1, vy0, vx0, ↓reduceIte, Nat.reduceBEq, Nat.reduceEqDiff, Nat.reduceLT, Nat.reduceLeDiff, Nat.reduceAdd, Nat.reduceMul, Nat.reduceSub, reduceCtorEq, Int.reduceToNat] <;> (repeat' first | rfl | apply And.intro)))
      · exact fin_mk (vbEq (decide_eq_false (fun e => by subst e; contradiction)).symm)
      · exact fin_mk (vbEq (decide_eq_true (ext_d (d := 0) (by omega) (fun j hj => h2 j (by omega)))).symm)
  · exact fin_mk (vbEq (by rw [decide_eq_false (fun e => by subst e; omega)]))
set_option maxRecDepth 10000 in
set_option maxHeartbeats 4000000 in
theorem listsM_nil (z : Unit) : Dm.Spec Try.prog 41 [.nl, .nl] (· = .v (.bool true)) := by
  refine spec_of_vc mixed Try.func41 c41 (by rw [show Try.f41.ntmps = _ from Try.ntmps41]; simp) ?_
  unfold m41 r41
  repeat' first | (refine Br.dec (fun h => ?_) (fun h => ?_) <;> try (exfalso; omega)) | (refine Br.eqi (fun h => ?_) (fun h => ?_) <;> try (exfalso; omega)) | (simp (disch := (first | omega | (simp only [List.length_cons, List.length_nil, List.length_append, List.length_map, List.length_replicate, List.length_take, List.length_drop, List.length_set, tab_length, tabD_len, i64s_len, bls_len, u8s_len, tbl_len, rows_len]; first | done | omega))) only [↓va0, ↓va1, ↓va2, ↓va3, vb0, vb1, vb2, vb3, vb4, vb5, vb6, vb7, vb8, vb9, vb10, vz0, vz1, vy0, vx0, ↓reduceIte, Nat.reduceBEq, Nat.reduceEqDiff, Nat.reduceLT, Nat.reduceLeDiff, Nat.reduceAdd, Nat.reduceMul, Nat.reduceSub, reduceCtorEq, Int.reduceToNat]) | (refine Br.mk (fun h => ?_) (fun h => ?_)) | (refine BrN.mk (fun h => ?_) ?_) | (refine AltVC.mk ?_ ?_)
  refine LoopVC.mk (X := Unit) (fun i => [(5, iv .i64 0)]) (fun _ => []) (fun i => 0) (fun i => True) () trivial ?_ ?_
  · (simp (disch := (first | omega | (simp only [List.length_cons, List.length_nil, List.length_append, List.length_map, List.length_replicate, List.length_take, List.length_drop, List.length_set, tab_length, tabD_len, i64s_len, bls_len, u8s_len, tbl_len, rows_len]; first | done | omega))) only [Fits_u, Fits_m, Fits_nil, List.length_append, ↓va0, ↓va1, ↓va2, ↓va3, vb0, vb1, vb2, vb3, vb4, vb5, vb6, vb7, vb8, vb9, vb10, vz0, vz1, vy0, vx0, ↓reduceIte, Nat.reduceBEq, Nat.reduceEqDiff, Nat.reduceLT, Nat.reduceLeDiff, Nat.reduceAdd, Nat.reduceMul, Nat.reduceSub, reduceCtorEq, Int.reduceToNat] <;> (repeat' first | rfl | apply And.intro))
  · intro i h1
    repeat' first | (refine Br.dec (fun h => ?_) (fun h => ?_) <;> try (exfalso; omega)) | (refine Br.eqi (fun h => ?_) (fun h => ?_) <;> try (exfalso; omega)) | (simp (disch := (first | omega | (simp only [List.length_cons, List.length_nil, List.length_append, List.length_map, List.length_replicate, List.length_take, List.length_drop, List.length_set, tab_length, tabD_len, i64s_len, bls_len, u8s_len, tbl_len, rows_len]; first | done | omega))) only [↓va0, ↓va1, ↓va2, ↓va3, vb0, vb1, vb2, vb3, vb4, vb5, vb6, vb7, vb8, vb9, vb10, vz0, vz1, vy0, vx0, ↓reduceIte, Nat.reduceBEq, Nat.reduceEqDiff, Nat.reduceLT, Nat.reduceLeDiff, Nat.reduceAdd, Nat.reduceMul, Nat.reduceSub, reduceCtorEq, Int.reduceToNat]) | (refine Br.mk (fun h => ?_) (fun h => ?_)) | (refine BrN.mk (fun h => ?_) ?_) | (refine AltVC.mk ?_ ?_)
    exact fin_mk rfl
set_option maxRecDepth 10000 in
set_option maxHeartbeats 4000000 in
theorem listsM_spec (a b : List (List Int)) (ha : a.length ≤ 9223372036854775807) (hb : b.length ≤ 9223372036854775807) (ha' : ∀ l, l ∈ a → l.length ≤ 9223372036854775807) (hb' : ∀ l, l ∈ b → l.length ≤ 9223372036854775807) : Dm.Spec Try.prog 41 [.sl 1 (rows i64s a), .sl 1 (rows i64s b)] (· = .v (.bool (decide (a = b)))) := by
  refine spec_of_vc mixed Try.func41 c41 (by rw [show Try.f41.ntmps = _ from Try.ntmps41]; simp) ?_
  unfold m41 r41
  repeat' first | (refine Br.dec (fun h => ?_) (fun h => ?_) <;> try (exfalso; omega)) | (refine Br.eqi (fun h => ?_) (fun h => ?_) <;> try (exfalso; omega)) | (simp (disch := (first | omega | (simp only [List.length_cons, List.length_nil, List.length_append, List.length_map, List.length_replicate, List.length_take, List.length_drop, List.length_set, tab_length, tabD_len, i64s_len, bls_len, u8s_len, tbl_len, rows_len]; first | done | omega))) only [↓va0, ↓va1, ↓va2, ↓va3, vb0, vb1, vb2, vb3, vb4, vb5, vb6, vb7, vb8, vb9, vb10, vz0, vz1, vy0, vx0, ↓reduceIte, Nat.reduceBEq, Nat.reduceEqDiff, Nat.reduceLT, Nat.reduceLeDiff, Nat.reduceAdd, Nat.reduceMul, Nat.reduceSub, reduceCtorEq, Int.reduceToNat]) | (refine Br.mk (fun h => ?_) (fun h => ?_)) | (refine BrN.mk (fun h => ?_) ?_) | (refine AltVC.mk ?_ ?_)
  · refine LoopVC.mk (X := Nat) (fun i => [(5, iv .i64 i)]) (fun _ => []) (fun i => a.length - i) (fun i => i ≤ a.length ∧ ∀ j, j < i → a.getD j default = b.getD j default) 0 ⟨by omega, by omega⟩ ?_ ?_
    · (simp (disch := (first | omega | (simp only [List.length_cons, List.length_nil, List.length_append, List.length_map, List.length_replicate, List.length_take, List.length_drop, List.length_set, tab_length, tabD_len, i64s_len, bls_len, u8s_len, tbl_len, rows_len]; first | done | omega))) only [Fits_u, Fits_m, Fits_nil, List.length_append, ↓va0, ↓va1, ↓va2, ↓va3, vb0, vb1, vb2, vb3, vb4, vb5, vb6, vb7, vb8, vb9, vb10, vz0, vz1, vy0, vx0, ↓reduceIte, Nat.reduceBEq, Nat.reduceEqDiff, Nat.reduceLT, Nat.reduceLeDiff, Nat.reduceAdd, Nat.reduceMul, Nat.reduceSub, reduceCtorEq, Int.reduceToNat] <;> (repeat' first | rfl | apply And.intro))
    · rintro i ⟨h1, h2⟩
      repeat' first | (refine Br.dec (fun h => ?_) (fun h => ?_) <;> try (exfalso; omega)) | (refine Br.eqi (fun h => ?_) (fun h => ?_) <;> try (exfalso; omega)) | (simp (disch := (first | omega | (simp only [List.length_cons, List.length_nil, List.length_append, List.length_map, List.length_replicate, List.length_take, List.length_drop, List.length_set, tab_length, tabD_len, i64s_len, bls_len, u8s_len, tbl_len, rows_len]; first | done | omega))) only [↓va0, ↓va1, ↓va2, ↓va3, vb0, vb1, vb2, vb3, vb4, vb5, vb6, vb7, vb8, vb9, vb10, vz0, vz1, vy0, vx0, ↓reduceIte, Nat.reduceBEq, Nat.reduceEqDiff, Nat.reduceLT, Nat.reduceLeDiff, Nat.reduceAdd, Nat.reduceMul, Nat.reduceSub, reduceCtorEq, Int.reduceToNat]) | (refine Br.mk (fun h => ?_) (fun h => ?_)) | (refine BrN.mk (fun h => ?_) ?_) | (refine AltVC.mk ?_ ?_)
      · refine CallVC.eq (intsM_spec _ _ (ha' _ (getD_mem' (by omega))) (hb' _ (getD_mem' (by omega)))) ?_
        repeat' first | (refine Br.dec (fun h => ?_) (fun h => ?_) <;> try (exfalso; omega)) | (refine Br.eqi (fun h => ?_) (fun h => ?_) <;> try (exfalso; omega)) | (simp (disch := (first | omega | (simp only [List.length_cons, List.length_nil, List.length_append, List.length_map, List.length_replicate, List.length_take, List.length_drop, List.length_set, tab_length, tabD_len, i64s_len, bls_len, u8s_len, tbl_len, rows_len]; first | done | omega))) only [↓va0, ↓va1, ↓va2, ↓va3, vb0, vb1, vb2, vb3, vb4, vb5, vb6, vb7, vb8, vb9, vb10, vz0, vz1, vy0, vx0, ↓reduceIte, Nat.reduceBEq, Nat.reduceEqDiff, Nat.reduceLT, Nat.reduceLeDiff, Nat.reduceAdd, Nat.reduceMul, Nat.reduceSub, reduceCtorEq, Int.reduceToNat]) | (refine Br.mk (fun h => ?_) (fun h => ?_)) | (refine BrN.mk (fun h => ?_) ?_) | (refine AltVC.mk ?_ ?_)
        · exact loopK.mk (i + 1) (by simp (disch := (first | omega | (simp only [List.length_cons, List.length_nil, List.length_append, List.length_map, List.length_replicate, List.length_take, List.length_drop, List.length_set, tab_length, tabD_len, i64s_len, bls_len, u8s_len, tbl_len, rows_len]; first | done | omega))) only [↓va0, ↓va1, ↓va2, ↓va3, vb0, vb1, vb2, vb3, vb4, vb5, vb6, vb7, vb8, vb9, vb10, vz0, vz1, vy0, vx0, ↓reduceIte, Nat.reduceBEq, Nat.reduceEqDiff, Nat.reduceLT, Nat.reduceLeDiff, Nat.reduceAdd, Nat.reduceMul, Nat.reduceSub, reduceCtorEq, Int.reduceToNat]) ⟨by omega, succ_all h2 (by assumption)⟩ (by omega) (by (simp (disch := (first | omega | (simp only [List.length_cons, List.length_nil, List.length_append, List.length_map, List.length_replicate, List.length_take, List.length_drop, List.length_set, tab_length, tabD_len, i64s_len, bls_len, u8s_len, tbl_len, rows_len]; first | done | omega))) only [Fits_u, Fits_m, Fits_nil, List.length_append, ↓va0, ↓va1, ↓va2, ↓va3, vb0, vb1, vb2, vb3, vb4, vb5, vb6, vb7, vb8, vb9, vb10, vz0, vz1, vy0, vx0, ↓reduceIte, Nat.reduceBEq, Nat.reduceEqDiff, Nat.reduceLT, Nat.reduceLeDiff, Nat.reduceAdd, Nat.reduceMul, Nat.reduceSub, reduceCtorEq, Int.reduceToNat] <;> (repeat' first | rfl | apply And.intro)))
        · exact fin_mk (vbEq (decide_eq_false (fun e => by subst e; contradiction)).symm)
      · exact fin_mk (vbEq (decide_eq_true (ext_d (d := default) (by omega) (fun j hj => h2 j (by omega)))).symm)
  · exact fin_mk (vbEq (by rw [decide_eq_false (fun e => by subst e; omega)]))
abbrev mzD : List D := [iv .i64 0, iv .i64 0, .nl, iv .i64 0, iv .u32 0]
set_option maxRecDepth 10000 in
set_option maxHeartbeats 4000000 in
theorem same_nil (z : Unit) : Dm.Spec Try.prog 16 [.ag mzD, .ag mzD] (· = .v (.bool true)) := by
  refine spec_of_vc mixed Try.func16 c16 (by rw [show Try.f16.ntmps = _ from Try.ntmps16]; simp) ?_
  unfold m16 r16
  repeat' first | (refine Br.dec (fun h => ?_) (fun h => ?_) <;> try (exfalso; omega)) | (refine Br.eqi (fun h => ?_) (fun h => ?_) <;> try (exfalso; omega)) | (simp (disch := (first | omega | (simp only [List.length_cons, List.length_nil, List.length_append, List.length_map, List.length_replicate, List.length_take, List.length_drop, List.length_set, tab_length, tabD_len, i64s_len, bls_len, u8s_len, tbl_len, rows_len]; first | done | omega))) only [↓va0, ↓va1, ↓va2, ↓va3, vb0, vb1, vb2, vb3, vb4, vb5, vb6, vb7, vb8, vb9, vb10, vz0, vz1, vy0, vx0, ↓reduceIte, Nat.reduceBEq, Nat.reduceEqDiff, Nat.reduceLT, Nat.reduceLeDiff, Nat.reduceAdd, Nat.reduceMul, Nat.reduceSub, reduceCtorEq, Int.reduceToNat]) | (refine Br.mk (fun h => ?_) (fun h => ?_)) | (refine BrN.mk (fun h => ?_) ?_) | (refine AltVC.mk ?_ ?_)
  refine CallVC.eq (listsM_nil ()) ?_
  repeat' first | (refine Br.dec (fun h => ?_) (fun h => ?_) <;> try (exfalso; omega)) | (refine Br.eqi (fun h => ?_) (fun h => ?_) <;> try (exfalso; omega)) | (simp (disch := (first | omega | (simp only [List.length_cons, List.length_nil, List.length_append, List.length_map, List.length_replicate, List.length_take, List.length_drop, List.length_set, tab_length, tabD_len, i64s_len, bls_len, u8s_len, tbl_len, rows_len]; first | done | omega))) only [↓va0, ↓va1, ↓va2, ↓va3, vb0, vb1, vb2, vb3, vb4, vb5, vb6, vb7, vb8, vb9, vb10, vz0, vz1, vy0, vx0, ↓reduceIte, Nat.reduceBEq, Nat.reduceEqDiff, Nat.reduceLT, Nat.reduceLeDiff, Nat.reduceAdd, Nat.reduceMul, Nat.reduceSub, reduceCtorEq, Int.reduceToNat]) | (refine Br.mk (fun h => ?_) (fun h => ?_)) | (refine BrN.mk (fun h => ?_) ?_) | (refine AltVC.mk ?_ ?_)
  exact fin_mk rfl
set_option maxRecDepth 10000 in
set_option maxHeartbeats 4000000 in
theorem zeroM_spec (z : Unit) : Dm.Spec Try.prog 14 [.ag mzD] (· = .v (.bool true)) := by
  refine spec_of_vc mixed Try.func14 c14 (by rw [show Try.f14.ntmps = _ from Try.ntmps14]; simp) ?_
  unfold m14 r14
  repeat' first | (refine Br.dec (fun h => ?_) (fun h => ?_) <;> try (exfalso; omega)) | (refine Br.eqi (fun h => ?_) (fun h => ?_) <;> try (exfalso; omega)) | (simp (disch := (first | omega | (simp only [List.length_cons, List.length_nil, List.length_append, List.length_map, List.length_replicate, List.length_take, List.length_drop, List.length_set, tab_length, tabD_len, i64s_len, bls_len, u8s_len, tbl_len, rows_len]; first | done | omega))) only [↓va0, ↓va1, ↓va2, ↓va3, vb0, vb1, vb2, vb3, vb4, vb5, vb6, vb7, vb8, vb9, vb10, vz0, vz1, vy0, vx0, ↓reduceIte, Nat.reduceBEq, Nat.reduceEqDiff, Nat.reduceLT, Nat.reduceLeDiff, Nat.reduceAdd, Nat.reduceMul, Nat.reduceSub, reduceCtorEq, Int.reduceToNat]) | (refine Br.mk (fun h => ?_) (fun h => ?_)) | (refine BrN.mk (fun h => ?_) ?_) | (refine AltVC.mk ?_ ?_)
  refine CallVC.eq (same_nil ()) ?_
  repeat' first | (refine Br.dec (fun h => ?_) (fun h => ?_) <;> try (exfalso; omega)) | (refine Br.eqi (fun h => ?_) (fun h => ?_) <;> try (exfalso; omega)) | (simp (disch := (first | omega | (simp only [List.length_cons, List.length_nil, List.length_append, List.length_map, List.length_replicate, List.length_take, List.length_drop, List.length_set, tab_length, tabD_len, i64s_len, bls_len, u8s_len, tbl_len, rows_len]; first | done | omega))) only [↓va0, ↓va1, ↓va2, ↓va3, vb0, vb1, vb2, vb3, vb4, vb5, vb6, vb7, vb8, vb9, vb10, vz0, vz1, vy0, vx0, ↓reduceIte, Nat.reduceBEq, Nat.reduceEqDiff, Nat.reduceLT, Nat.reduceLeDiff, Nat.reduceAdd, Nat.reduceMul, Nat.reduceSub, reduceCtorEq, Int.reduceToNat]) | (refine Br.mk (fun h => ?_) (fun h => ?_)) | (refine BrN.mk (fun h => ?_) ?_) | (refine AltVC.mk ?_ ?_)
  exact fin_mk rfl
set_option maxRecDepth 10000 in
set_option maxHeartbeats 4000000 in
theorem sameM_spec (m : Dm.Machine) (hr : m.next.length ≤ 9223372036854775807) (hq : ∀ l, l ∈ m.next → l.length ≤ 9223372036854775807) : Dm.Spec Try.prog 16 [.ag (macD m), .ag (macD m)] (· = .v (.bool true)) := by
  refine spec_of_vc mixed Try.func16 c16 (by rw [show Try.f16.ntmps = _ from Try.ntmps16]; simp) ?_
  unfold m16 r16
  repeat' first | (refine Br.dec (fun h => ?_) (fun h => ?_) <;> try (exfalso; omega)) | (refine Br.eqi (fun h => ?_) (fun h => ?_) <;> try (exfalso; omega)) | (simp (disch := (first | omega | (simp only [List.length_cons, List.length_nil, List.length_append, List.length_map, List.length_replicate, List.length_take, List.length_drop, List.length_set, tab_length, tabD_len, i64s_len, bls_len, u8s_len, tbl_len, rows_len]; first | done | omega))) only [↓va0, ↓va1, ↓va2, ↓va3, vb0, vb1, vb2, vb3, vb4, vb5, vb6, vb7, vb8, vb9, vb10, vz0, vz1, vy0, vx0, ↓reduceIte, Nat.reduceBEq, Nat.reduceEqDiff, Nat.reduceLT, Nat.reduceLeDiff, Nat.reduceAdd, Nat.reduceMul, Nat.reduceSub, reduceCtorEq, Int.reduceToNat]) | (refine Br.mk (fun h => ?_) (fun h => ?_)) | (refine BrN.mk (fun h => ?_) ?_) | (refine AltVC.mk ?_ ?_)
  refine CallVC.eq (listsM_spec m.next m.next hr hr hq hq) ?_
  repeat' first | (refine Br.dec (fun h => ?_) (fun h => ?_) <;> try (exfalso; omega)) | (refine Br.eqi (fun h => ?_) (fun h => ?_) <;> try (exfalso; omega)) | (simp (disch := (first | omega | (simp only [List.length_cons, List.length_nil, List.length_append, List.length_map, List.length_replicate, List.length_take, List.length_drop, List.length_set, tab_length, tabD_len, i64s_len, bls_len, u8s_len, tbl_len, rows_len]; first | done | omega))) only [↓va0, ↓va1, ↓va2, ↓va3, vb0, vb1, vb2, vb3, vb4, vb5, vb6, vb7, vb8, vb9, vb10, vz0, vz1, vy0, vx0, ↓reduceIte, Nat.reduceBEq, Nat.reduceEqDiff, Nat.reduceLT, Nat.reduceLeDiff, Nat.reduceAdd, Nat.reduceMul, Nat.reduceSub, reduceCtorEq, Int.reduceToNat]) | (refine Br.mk (fun h => ?_) (fun h => ?_)) | (refine BrN.mk (fun h => ?_) ?_) | (refine AltVC.mk ?_ ?_)
  exact fin_mk rfl
theorem not32 {n f : Nat} (hn : n ≤ 7) (hf : f < 2 ^ n) : IntKind.u32.wrap ((BitVec.ofInt IntKind.u32.bits (IntKind.u32.wrap (IntKind.u32.wrap (1 * 2 ^ min n IntKind.u32.bits) - 1)) &&& ~~~BitVec.ofInt IntKind.u32.bits (f : Int)).toNat : Int) = 2 ^ n - 1 - (f : Int) := by
  have hp : 2 ^ n ≤ 2 ^ 7 := Nat.pow_le_pow_right (by omega) hn
  have hp2 : (2 : Int) ^ n = ((2 ^ n : Nat) : Int) := by simp
  have hp3 : 0 < 2 ^ n := Nat.pow_pos (by omega)
  rw [shlN (by omega), wrapu32_id (n := ((2 ^ n : Nat) : Int) - 1) (by omega), wrapu32_id]
  · rw [BitVec.toNat_and, BitVec.toNat_not, ofInt32 (by omega), ofInt32 (by omega)]
    have : ((((2 ^ n : Nat) : Int) - 1).toNat) &&& (2 ^ IntKind.u32.bits - 1 - (f : Int).toNat) = 2 ^ n - 1 - f := by
      rw [show (((2 ^ n : Nat) : Int) - 1).toNat = 2 ^ n - (0 + 1) by omega, show 2 ^ IntKind.u32.bits - 1 - (f : Int).toNat = 2 ^ 32 - (f + 1) by show 2 ^ 32 - 1 - (f : Int).toNat = _; omega, show 2 ^ n - 1 - f = 2 ^ n - (f + 1) by omega]
      apply Nat.eq_of_testBit_eq
      intro i
      rw [Nat.testBit_and, Nat.testBit_two_pow_sub_succ (by omega), Nat.testBit_two_pow_sub_succ (by omega), Nat.testBit_two_pow_sub_succ hf]
      by_cases h : i < n
      · simp [h, show i < 32 by omega]
      · simp [h]
    omega
  · have := (BitVec.ofInt IntKind.u32.bits (((2 ^ n : Nat) : Int) - 1) &&& ~~~BitVec.ofInt IntKind.u32.bits (f : Int)).isLt
    have e : 2 ^ IntKind.u32.bits = 4294967296 := by decide
    omega
def notM (m : Dm.Machine) : Dm.Machine := ⟨m.n, m.k, m.next, m.start, 2 ^ m.n.toNat - 1 - m.final⟩
end Go.Proofs.Ytbbpmodfbdibcaa
