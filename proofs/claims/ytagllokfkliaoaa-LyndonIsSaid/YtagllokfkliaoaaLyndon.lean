/-
  lyndon.Is: low words; the law LyndonIs.
-/
import Derived.Test.YtagllokfkliaoaaWords
import Derived.Test.YtagllokfkliaoaaCompare
import Derived.Test.YtagllokfkliaoaaEdit
namespace Go.Proofs.Ytagllokfkliaoaa
open Go.Dm
set_option linter.unusedSimpArgs false

theorem bcmp_step {a b : List UInt8} {i : Nat} (ha : i < a.length) (hb : i < b.length) (h : a.getD i 0 = b.getD i 0) : bcmp (a.drop i) (b.drop i) = bcmp (a.drop (i + 1)) (b.drop (i + 1)) := by
  rw [drop_cons' ha, drop_cons' hb, bcmp, if_pos h]
theorem bcmp_diff {a b : List UInt8} {i : Nat} (ha : i < a.length) (hb : i < b.length) (h : ¬ a.getD i 0 = b.getD i 0) : bcmp (a.drop i) (b.drop i) = if a.getD i 0 < b.getD i 0 then -1 else 1 := by
  rw [drop_cons' ha, drop_cons' hb, bcmp, if_neg h]
theorem bcmp_end {a b : List UInt8} {i : Nat} (ha : i ≤ a.length) (hb : i ≤ b.length) (h : i = a.length ∨ i = b.length) : bcmp (a.drop i) (b.drop i) < 0 ↔ a.length < b.length := by
  by_cases e1 : i = a.length
  · by_cases e2 : i = b.length
    · rw [List.drop_of_length_le (by omega), List.drop_of_length_le (by omega)]; simp [bcmp]; omega
    · rw [List.drop_of_length_le (by omega), drop_cons' (l := b) (by omega)]; simp [bcmp]; omega
  · rw [List.drop_of_length_le (l := b) (by omega), drop_cons' (l := a) (by omega)]; simp [bcmp]; omega

set_option maxHeartbeats 2000000 in
theorem less_vc (a b : List UInt8) (ha : a.length ≤ 1099511627776) : vc Try.prog m43 [.f (finQ r43 (· = .v (.bool (decide (bcmp a b < 0)))))] (S.init [.sl 1 (u8s a), .sl 1 (u8s b)]) := by
  unfold m43 r43
  repeat' first | (refine Br.dec (fun h => ?_) (fun h => ?_) <;> try (exfalso; omega)) | (refine Br.eqi (fun h => ?_) (fun h => ?_) <;> try (exfalso; omega)) | (simp (disch := (first | omega | (simp only [List.length_cons, List.length_nil, List.length_append, List.length_map, List.length_replicate, List.length_take, List.length_drop, List.length_set, tab_length, i64s_len, bls_len, u8s_len, tbl_len, rows_len] <;> omega))) only [↓va0, ↓va1, ↓va2, vb0, vb1, vb2, vb3, vb4, vb5, vb6, vb7, vb8, vz0, vz1, vy0, vx0, ↓reduceIte, Nat.reduceBEq, Nat.reduceEqDiff, Nat.reduceLT, Nat.reduceLeDiff, Nat.reduceAdd, Nat.reduceMul, Nat.reduceSub, reduceCtorEq, Int.reduceToNat])
  refine LoopVC.mk (X := Nat) (fun i => [(5, iv .i64 i)]) (fun _ => []) (fun i => a.length - i) (fun i => i ≤ a.length ∧ i ≤ b.length ∧ bcmp a b = bcmp (a.drop i) (b.drop i)) 0 ⟨by omega, by omega, by simp⟩ ?_ ?_
  · (simp (disch := (first | omega | (simp only [List.length_cons, List.length_nil, List.length_append, List.length_map, List.length_replicate, List.length_take, List.length_drop, List.length_set, tab_length, i64s_len, bls_len, u8s_len, tbl_len, rows_len] <;> omega))) only [Fits_u, Fits_m, Fits_nil, ↓va0, ↓va1, ↓va2, vb0, vb1, vb2, vb3, vb4, vb5, vb6, vb7, vb8, vz0, vz1, vy0, vx0, ↓reduceIte, Nat.reduceBEq, Nat.reduceEqDiff, Nat.reduceLT, Nat.reduceLeDiff, Nat.reduceAdd, Nat.reduceMul, Nat.reduceSub, reduceCtorEq, Int.reduceToNat] <;> try rfl)
  · rintro i ⟨h1, h2, h3⟩
    repeat' first | (refine Br.dec (fun h => ?_) (fun h => ?_) <;> try (exfalso; omega)) | (refine Br.eqi (fun h => ?_) (fun h => ?_) <;> try (exfalso; omega)) | (simp (disch := (first | omega | (simp only [List.length_cons, List.length_nil, List.length_append, List.length_map, List.length_replicate, List.length_take, List.length_drop, List.length_set, tab_length, i64s_len, bls_len, u8s_len, tbl_len, rows_len] <;> omega))) only [↓va0, ↓va1, ↓va2, vb0, vb1, vb2, vb3, vb4, vb5, vb6, vb7, vb8, vz0, vz1, vy0, vx0, ↓reduceIte, Nat.reduceBEq, Nat.reduceEqDiff, Nat.reduceLT, Nat.reduceLeDiff, Nat.reduceAdd, Nat.reduceMul, Nat.reduceSub, reduceCtorEq, Int.reduceToNat])
    · exact loopK.mk (i + 1) (by simp (disch := (first | omega | (simp only [List.length_cons, List.length_nil, List.length_append, List.length_map, List.length_replicate, List.length_take, List.length_drop, List.length_set, tab_length, i64s_len, bls_len, u8s_len, tbl_len, rows_len] <;> omega))) only [↓va0, ↓va1, ↓va2, vb0, vb1, vb2, vb3, vb4, vb5, vb6, vb7, vb8, vz0, vz1, vy0, vx0, ↓reduceIte, Nat.reduceBEq, Nat.reduceEqDiff, Nat.reduceLT, Nat.reduceLeDiff, Nat.reduceAdd, Nat.reduceMul, Nat.reduceSub, reduceCtorEq, Int.reduceToNat]) ⟨by omega, by omega, by rw [h3, bcmp_step (by omega) (by omega) (u8_inj (by assumption))]⟩ (by omega) (by (simp (disch := (first | omega | (simp only [List.length_cons, List.length_nil, List.length_append, List.length_map, List.length_replicate, List.length_take, List.length_drop, List.length_set, tab_length, i64s_len, bls_len, u8s_len, tbl_len, rows_len] <;> omega))) only [Fits_u, Fits_m, Fits_nil, ↓va0, ↓va1, ↓va2, vb0, vb1, vb2, vb3, vb4, vb5, vb6, vb7, vb8, vz0, vz1, vy0, vx0, ↓reduceIte, Nat.reduceBEq, Nat.reduceEqDiff, Nat.reduceLT, Nat.reduceLeDiff, Nat.reduceAdd, Nat.reduceMul, Nat.reduceSub, reduceCtorEq, Int.reduceToNat] <;> try rfl))
    · refine fin_mk (vbEq ?_)
      rw [h3, bcmp_diff (by omega) (by omega) (u8_ne (by assumption))]
      by_cases e : a.getD i 0 < b.getD i 0
      · rw [if_pos e, decide_eq_true (by have := UInt8.lt_iff_toNat_lt.1 e; omega)]; rfl
      · rw [if_neg e, decide_eq_false (fun e2 => e (UInt8.lt_iff_toNat_lt.2 (by omega)))]; rfl
    · refine fin_mk (vbEq ?_)
      rw [h3]
      congr 1
      exact propext ⟨fun e => (bcmp_end h1 h2 (by omega)).2 (by omega), fun e => by have := (bcmp_end h1 h2 (by omega)).1 e; omega⟩
    · refine fin_mk (vbEq ?_)
      rw [h3]
      congr 1
      exact propext ⟨fun e => (bcmp_end h1 h2 (by omega)).2 (by omega), fun e => by have := (bcmp_end h1 h2 (by omega)).1 e; omega⟩
theorem less_spec (a b : List UInt8) (ha : a.length ≤ 1099511627776) : Dm.Spec Try.prog 43 [.sl 1 (u8s a), .sl 1 (u8s b)] (· = .v (.bool (decide (bcmp a b < 0)))) :=
  spec_of_vc mixed Try.func43 c43 (by rw [show Try.f43.ntmps = _ from Try.ntmps43]; simp) (less_vc a b ha)

def isLyn (w : List UInt8) : Prop := (∀ i, i < w.length → 1 ≤ i → bcmp w (w.drop i) < 0) ∧ 0 < w.length
instance (w : List UInt8) : Decidable (isLyn w) := by unfold isLyn; infer_instance
theorem isLyn_no {w : List UInt8} {i : Nat} (h : i < w.length) (h1 : 1 ≤ i) (h2 : ¬ bcmp w (w.drop i) < 0) : decide (isLyn w) = false := by
  rw [decide_eq_false]
  exact fun h3 => h2 (h3.1 i h h1)
theorem isLyn_yes {w : List UInt8} {i : Nat} (h : w.length ≤ i) (h2 : ∀ j, j < i → 1 ≤ j → bcmp w (w.drop j) < 0) : decide (isLyn w) = decide (0 < (w.length : Int)) := by
  unfold isLyn
  congr 1
  apply propext
  constructor
  · rintro ⟨_, h3⟩; omega
  · intro h3; exact ⟨fun j hj h1 => h2 j (by omega) h1, by omega⟩

set_option maxHeartbeats 2000000 in
theorem low_vc (w : List UInt8) (hw : w.length ≤ 1099511627776) : vc Try.prog m30 [.f (finQ r30 (· = .v (.bool (decide (isLyn w)))))] (S.init [.sl 1 (u8s w)]) := by
  unfold m30 r30
  repeat' first | (refine Br.dec (fun h => ?_) (fun h => ?_) <;> try (exfalso; omega)) | (refine Br.eqi (fun h => ?_) (fun h => ?_) <;> try (exfalso; omega)) | (simp (disch := (first | omega | (simp only [List.length_cons, List.length_nil, List.length_append, List.length_map, List.length_replicate, List.length_take, List.length_drop, List.length_set, tab_length, i64s_len, bls_len, u8s_len, tbl_len, rows_len] <;> omega))) only [↓va0, ↓va1, ↓va2, vb0, vb1, vb2, vb3, vb4, vb5, vb6, vb7, vb8, vz0, vz1, vy0, vx0, ↓reduceIte, Nat.reduceBEq, Nat.reduceEqDiff, Nat.reduceLT, Nat.reduceLeDiff, Nat.reduceAdd, Nat.reduceMul, Nat.reduceSub, reduceCtorEq, Int.reduceToNat])
  refine LoopVC.mk (X := Nat) (fun i => [(3, iv .i64 i)]) (fun _ => []) (fun i => w.length - i) (fun i => 1 ≤ i ∧ (i ≤ w.length ∨ i = 1) ∧ ∀ j, j < i → 1 ≤ j → bcmp w (w.drop j) < 0) 1 ⟨by omega, by omega, by omega⟩ ?_ ?_
  · (simp (disch := (first | omega | (simp only [List.length_cons, List.length_nil, List.length_append, List.length_map, List.length_replicate, List.length_take, List.length_drop, List.length_set, tab_length, i64s_len, bls_len, u8s_len, tbl_len, rows_len] <;> omega))) only [Fits_u, Fits_m, Fits_nil, ↓va0, ↓va1, ↓va2, vb0, vb1, vb2, vb3, vb4, vb5, vb6, vb7, vb8, vz0, vz1, vy0, vx0, ↓reduceIte, Nat.reduceBEq, Nat.reduceEqDiff, Nat.reduceLT, Nat.reduceLeDiff, Nat.reduceAdd, Nat.reduceMul, Nat.reduceSub, reduceCtorEq, Int.reduceToNat] <;> try rfl)
  · rintro i ⟨h1, h2, h3⟩
    repeat' first | (refine Br.dec (fun h => ?_) (fun h => ?_) <;> try (exfalso; omega)) | (refine Br.eqi (fun h => ?_) (fun h => ?_) <;> try (exfalso; omega)) | (simp (disch := (first | omega | (simp only [List.length_cons, List.length_nil, List.length_append, List.length_map, List.length_replicate, List.length_take, List.length_drop, List.length_set, tab_length, i64s_len, bls_len, u8s_len, tbl_len, rows_len] <;> omega))) only [↓va0, ↓va1, ↓va2, vb0, vb1, vb2, vb3, vb4, vb5, vb6, vb7, vb8, vz0, vz1, vy0, vx0, ↓reduceIte, Nat.reduceBEq, Nat.reduceEqDiff, Nat.reduceLT, Nat.reduceLeDiff, Nat.reduceAdd, Nat.reduceMul, Nat.reduceSub, reduceCtorEq, Int.reduceToNat])
    · refine CallVC.eq (less_spec w (w.drop i) hw) ?_
      repeat' first | (refine Br.dec (fun h => ?_) (fun h => ?_) <;> try (exfalso; omega)) | (refine Br.eqi (fun h => ?_) (fun h => ?_) <;> try (exfalso; omega)) | (simp (disch := (first | omega | (simp only [List.length_cons, List.length_nil, List.length_append, List.length_map, List.length_replicate, List.length_take, List.length_drop, List.length_set, tab_length, i64s_len, bls_len, u8s_len, tbl_len, rows_len] <;> omega))) only [↓va0, ↓va1, ↓va2, vb0, vb1, vb2, vb3, vb4, vb5, vb6, vb7, vb8, vz0, vz1, vy0, vx0, ↓reduceIte, Nat.reduceBEq, Nat.reduceEqDiff, Nat.reduceLT, Nat.reduceLeDiff, Nat.reduceAdd, Nat.reduceMul, Nat.reduceSub, reduceCtorEq, Int.reduceToNat])
      · refine loopK.mk (i + 1) (by simp (disch := (first | omega | (simp only [List.length_cons, List.length_nil, List.length_append, List.length_map, List.length_replicate, List.length_take, List.length_drop, List.length_set, tab_length, i64s_len, bls_len, u8s_len, tbl_len, rows_len] <;> omega))) only [↓va0, ↓va1, ↓va2, vb0, vb1, vb2, vb3, vb4, vb5, vb6, vb7, vb8, vz0, vz1, vy0, vx0, ↓reduceIte, Nat.reduceBEq, Nat.reduceEqDiff, Nat.reduceLT, Nat.reduceLeDiff, Nat.reduceAdd, Nat.reduceMul, Nat.reduceSub, reduceCtorEq, Int.reduceToNat]) ⟨by omega, by omega, fun j hj hj1 => ?_⟩ (by omega) (by (simp (disch := (first | omega | (simp only [List.length_cons, List.length_nil, List.length_append, List.length_map, List.length_replicate, List.length_take, List.length_drop, List.length_set, tab_length, i64s_len, bls_len, u8s_len, tbl_len, rows_len] <;> omega))) only [Fits_u, Fits_m, Fits_nil, ↓va0, ↓va1, ↓va2, vb0, vb1, vb2, vb3, vb4, vb5, vb6, vb7, vb8, vz0, vz1, vy0, vx0, ↓reduceIte, Nat.reduceBEq, Nat.reduceEqDiff, Nat.reduceLT, Nat.reduceLeDiff, Nat.reduceAdd, Nat.reduceMul, Nat.reduceSub, reduceCtorEq, Int.reduceToNat] <;> try rfl))
        by_cases e : j = i
        · subst e; assumption
        · exact h3 j (by omega) hj1
      · refine fin_mk (vbEq ?_)
        rw [isLyn_no (i := i) (by omega) h1 (by assumption)]
    · refine fin_mk (vbEq ?_)
      rw [isLyn_yes (by omega) h3]
theorem low_spec (w : List UInt8) (hw : w.length ≤ 1099511627776) : Dm.Spec Try.prog 30 [.sl 1 (u8s w)] (· = .v (.bool (decide (isLyn w)))) :=
  spec_of_vc mixed Try.func30 c30 (by rw [show Try.f30.ntmps = _ from Try.ntmps30]; simp) (low_vc w hw)
set_option maxHeartbeats 2000000 in
theorem lynIs_vc (w : List UInt8) (hw : w.length ≤ 60) : vc Try.prog m29 [.f (finQ r29 (· = .tu [.v (.bool (decide (isLyn w))), .v (.int .i64 0)]))] (S.init [.sl 1 (u8s w)]) := by
  unfold m29 r29
  repeat' first | (refine Br.dec (fun h => ?_) (fun h => ?_) <;> try (exfalso; omega)) | (refine Br.eqi (fun h => ?_) (fun h => ?_) <;> try (exfalso; omega)) | (simp (disch := (first | omega | (simp only [List.length_cons, List.length_nil, List.length_append, List.length_map, List.length_replicate, List.length_take, List.length_drop, List.length_set, tab_length, i64s_len, bls_len, u8s_len, tbl_len, rows_len] <;> omega))) only [↓va0, ↓va1, ↓va2, vb0, vb1, vb2, vb3, vb4, vb5, vb6, vb7, vb8, vz0, vz1, vy0, vx0, ↓reduceIte, Nat.reduceBEq, Nat.reduceEqDiff, Nat.reduceLT, Nat.reduceLeDiff, Nat.reduceAdd, Nat.reduceMul, Nat.reduceSub, reduceCtorEq, Int.reduceToNat])
  refine CallVC.eqo (large1_spec w hw) (by simp (disch := (first | omega | (simp only [List.length_cons, List.length_nil, List.length_append, List.length_map, List.length_replicate, List.length_take, List.length_drop, List.length_set, tab_length, i64s_len, bls_len, u8s_len, tbl_len, rows_len] <;> omega))) only [↓va0, ↓va1, ↓va2, vb0, vb1, vb2, vb3, vb4, vb5, vb6, vb7, vb8, vz0, vz1, vy0, vx0, ↓reduceIte, Nat.reduceBEq, Nat.reduceEqDiff, Nat.reduceLT, Nat.reduceLeDiff, Nat.reduceAdd, Nat.reduceMul, Nat.reduceSub, reduceCtorEq, Int.reduceToNat]) ?_
  repeat' first | (refine Br.dec (fun h => ?_) (fun h => ?_) <;> try (exfalso; omega)) | (refine Br.eqi (fun h => ?_) (fun h => ?_) <;> try (exfalso; omega)) | (simp (disch := (first | omega | (simp only [List.length_cons, List.length_nil, List.length_append, List.length_map, List.length_replicate, List.length_take, List.length_drop, List.length_set, tab_length, i64s_len, bls_len, u8s_len, tbl_len, rows_len] <;> omega))) only [↓va0, ↓va1, ↓va2, vb0, vb1, vb2, vb3, vb4, vb5, vb6, vb7, vb8, vz0, vz1, vy0, vx0, ↓reduceIte, Nat.reduceBEq, Nat.reduceEqDiff, Nat.reduceLT, Nat.reduceLeDiff, Nat.reduceAdd, Nat.reduceMul, Nat.reduceSub, reduceCtorEq, Int.reduceToNat])
  refine LoopVC.mk (X := Nat) (fun i => [(5, iv .i64 i)]) (fun _ => []) (fun i => w.length - i) (fun i => 1 ≤ i ∧ (i ≤ w.length ∨ i = 1) ∧ ∀ j, j < i → 1 ≤ j → bcmp w (w.drop j) < 0) 1 ⟨by omega, by omega, by omega⟩ ?_ ?_
  · (simp (disch := (first | omega | (simp only [List.length_cons, List.length_nil, List.length_append, List.length_map, List.length_replicate, List.length_take, List.length_drop, List.length_set, tab_length, i64s_len, bls_len, u8s_len, tbl_len, rows_len] <;> omega))) only [Fits_u, Fits_m, Fits_nil, ↓va0, ↓va1, ↓va2, vb0, vb1, vb2, vb3, vb4, vb5, vb6, vb7, vb8, vz0, vz1, vy0, vx0, ↓reduceIte, Nat.reduceBEq, Nat.reduceEqDiff, Nat.reduceLT, Nat.reduceLeDiff, Nat.reduceAdd, Nat.reduceMul, Nat.reduceSub, reduceCtorEq, Int.reduceToNat] <;> try rfl)
  · rintro i ⟨h1, h2, h3⟩
    repeat' first | (refine Br.dec (fun h => ?_) (fun h => ?_) <;> try (exfalso; omega)) | (refine Br.eqi (fun h => ?_) (fun h => ?_) <;> try (exfalso; omega)) | (simp (disch := (first | omega | (simp only [List.length_cons, List.length_nil, List.length_append, List.length_map, List.length_replicate, List.length_take, List.length_drop, List.length_set, tab_length, i64s_len, bls_len, u8s_len, tbl_len, rows_len] <;> omega))) only [↓va0, ↓va1, ↓va2, vb0, vb1, vb2, vb3, vb4, vb5, vb6, vb7, vb8, vz0, vz1, vy0, vx0, ↓reduceIte, Nat.reduceBEq, Nat.reduceEqDiff, Nat.reduceLT, Nat.reduceLeDiff, Nat.reduceAdd, Nat.reduceMul, Nat.reduceSub, reduceCtorEq, Int.reduceToNat])
    · refine CallVC.eq (compare_spec w (w.drop i)) ?_
      repeat' first | (refine Br.dec (fun h => ?_) (fun h => ?_) <;> try (exfalso; omega)) | (refine Br.eqi (fun h => ?_) (fun h => ?_) <;> try (exfalso; omega)) | (simp (disch := (first | omega | (simp only [List.length_cons, List.length_nil, List.length_append, List.length_map, List.length_replicate, List.length_take, List.length_drop, List.length_set, tab_length, i64s_len, bls_len, u8s_len, tbl_len, rows_len] <;> omega))) only [↓va0, ↓va1, ↓va2, vb0, vb1, vb2, vb3, vb4, vb5, vb6, vb7, vb8, vz0, vz1, vy0, vx0, ↓reduceIte, Nat.reduceBEq, Nat.reduceEqDiff, Nat.reduceLT, Nat.reduceLeDiff, Nat.reduceAdd, Nat.reduceMul, Nat.reduceSub, reduceCtorEq, Int.reduceToNat])
      · refine fin_mk ?_
        rw [isLyn_no (i := i) (by omega) h1 (by omega)]
      · refine loopK.mk (i + 1) (by simp (disch := (first | omega | (simp only [List.length_cons, List.length_nil, List.length_append, List.length_map, List.length_replicate, List.length_take, List.length_drop, List.length_set, tab_length, i64s_len, bls_len, u8s_len, tbl_len, rows_len] <;> omega))) only [↓va0, ↓va1, ↓va2, vb0, vb1, vb2, vb3, vb4, vb5, vb6, vb7, vb8, vz0, vz1, vy0, vx0, ↓reduceIte, Nat.reduceBEq, Nat.reduceEqDiff, Nat.reduceLT, Nat.reduceLeDiff, Nat.reduceAdd, Nat.reduceMul, Nat.reduceSub, reduceCtorEq, Int.reduceToNat]) ⟨by omega, by omega, fun j hj hj1 => ?_⟩ (by omega) (by (simp (disch := (first | omega | (simp only [List.length_cons, List.length_nil, List.length_append, List.length_map, List.length_replicate, List.length_take, List.length_drop, List.length_set, tab_length, i64s_len, bls_len, u8s_len, tbl_len, rows_len] <;> omega))) only [Fits_u, Fits_m, Fits_nil, ↓va0, ↓va1, ↓va2, vb0, vb1, vb2, vb3, vb4, vb5, vb6, vb7, vb8, vz0, vz1, vy0, vx0, ↓reduceIte, Nat.reduceBEq, Nat.reduceEqDiff, Nat.reduceLT, Nat.reduceLeDiff, Nat.reduceAdd, Nat.reduceMul, Nat.reduceSub, reduceCtorEq, Int.reduceToNat] <;> try rfl))
        by_cases e : j = i
        · subst e; omega
        · exact h3 j (by omega) hj1
    · refine fin_mk ?_
      rw [isLyn_yes (by omega) h3]
theorem lynIs_spec (w : List UInt8) (hw : w.length ≤ 60) : Dm.Spec Try.prog 29 [.sl 1 (u8s w)] (· = .tu [.v (.bool (decide (isLyn w))), .v (.int .i64 0)]) :=
  spec_of_vc mixed Try.func29 c29 (by rw [show Try.f29.ntmps = _ from Try.ntmps29]; simp) (lynIs_vc w hw)
set_option maxHeartbeats 2000000 in
theorem lynIs_big_vc (w : List UInt8) (hw : 60 < w.length) : vc Try.prog m29 [.f (finQ r29 (· = .tu [.v (.bool false), .v (.int .i64 1)]))] (S.init [.sl 1 (u8s w)]) := by
  unfold m29 r29
  repeat' first | (refine Br.dec (fun h => ?_) (fun h => ?_) <;> try (exfalso; omega)) | (refine Br.eqi (fun h => ?_) (fun h => ?_) <;> try (exfalso; omega)) | (simp (disch := (first | omega | (simp only [List.length_cons, List.length_nil, List.length_append, List.length_map, List.length_replicate, List.length_take, List.length_drop, List.length_set, tab_length, i64s_len, bls_len, u8s_len, tbl_len, rows_len] <;> omega))) only [↓va0, ↓va1, ↓va2, vb0, vb1, vb2, vb3, vb4, vb5, vb6, vb7, vb8, vz0, vz1, vy0, vx0, ↓reduceIte, Nat.reduceBEq, Nat.reduceEqDiff, Nat.reduceLT, Nat.reduceLeDiff, Nat.reduceAdd, Nat.reduceMul, Nat.reduceSub, reduceCtorEq, Int.reduceToNat])
  refine CallVC.eqo (large1_big w hw) (by simp (disch := (first | omega | (simp only [List.length_cons, List.length_nil, List.length_append, List.length_map, List.length_replicate, List.length_take, List.length_drop, List.length_set, tab_length, i64s_len, bls_len, u8s_len, tbl_len, rows_len] <;> omega))) only [↓va0, ↓va1, ↓va2, vb0, vb1, vb2, vb3, vb4, vb5, vb6, vb7, vb8, vz0, vz1, vy0, vx0, ↓reduceIte, Nat.reduceBEq, Nat.reduceEqDiff, Nat.reduceLT, Nat.reduceLeDiff, Nat.reduceAdd, Nat.reduceMul, Nat.reduceSub, reduceCtorEq, Int.reduceToNat]) ?_
  repeat' first | (refine Br.dec (fun h => ?_) (fun h => ?_) <;> try (exfalso; omega)) | (refine Br.eqi (fun h => ?_) (fun h => ?_) <;> try (exfalso; omega)) | (simp (disch := (first | omega | (simp only [List.length_cons, List.length_nil, List.length_append, List.length_map, List.length_replicate, List.length_take, List.length_drop, List.length_set, tab_length, i64s_len, bls_len, u8s_len, tbl_len, rows_len] <;> omega))) only [↓va0, ↓va1, ↓va2, vb0, vb1, vb2, vb3, vb4, vb5, vb6, vb7, vb8, vz0, vz1, vy0, vx0, ↓reduceIte, Nat.reduceBEq, Nat.reduceEqDiff, Nat.reduceLT, Nat.reduceLeDiff, Nat.reduceAdd, Nat.reduceMul, Nat.reduceSub, reduceCtorEq, Int.reduceToNat])
  exact fin_mk rfl
theorem lynIs_big (w : List UInt8) (hw : 60 < w.length) : Dm.Spec Try.prog 29 [.sl 1 (u8s w)] (· = .tu [.v (.bool false), .v (.int .i64 1)]) :=
  spec_of_vc mixed Try.func29 c29 (by rw [show Try.f29.ntmps = _ from Try.ntmps29]; simp) (lynIs_big_vc w hw)
set_option maxHeartbeats 2000000 in
theorem lyndonIs_vc (w : List UInt8) : vc Try.prog m9 [.f (finQ r9 (· = .v (.bool true)))] (S.init [.sl 1 (u8s w)]) := by
  unfold m9 r9
  by_cases hw : 60 < w.length
  · repeat' first | (refine Br.dec (fun h => ?_) (fun h => ?_) <;> try (exfalso; omega)) | (refine Br.eqi (fun h => ?_) (fun h => ?_) <;> try (exfalso; omega)) | (simp (disch := (first | omega | (simp only [List.length_cons, List.length_nil, List.length_append, List.length_map, List.length_replicate, List.length_take, List.length_drop, List.length_set, tab_length, i64s_len, bls_len, u8s_len, tbl_len, rows_len] <;> omega))) only [↓va0, ↓va1, ↓va2, vb0, vb1, vb2, vb3, vb4, vb5, vb6, vb7, vb8, vz0, vz1, vy0, vx0, ↓reduceIte, Nat.reduceBEq, Nat.reduceEqDiff, Nat.reduceLT, Nat.reduceLeDiff, Nat.reduceAdd, Nat.reduceMul, Nat.reduceSub, reduceCtorEq, Int.reduceToNat])
    refine CallVC.eq (lynIs_big w hw) ?_
    repeat' first | (refine Br.dec (fun h => ?_) (fun h => ?_) <;> try (exfalso; omega)) | (refine Br.eqi (fun h => ?_) (fun h => ?_) <;> try (exfalso; omega)) | (simp (disch := (first | omega | (simp only [List.length_cons, List.length_nil, List.length_append, List.length_map, List.length_replicate, List.length_take, List.length_drop, List.length_set, tab_length, i64s_len, bls_len, u8s_len, tbl_len, rows_len] <;> omega))) only [↓va0, ↓va1, ↓va2, vb0, vb1, vb2, vb3, vb4, vb5, vb6, vb7, vb8, vz0, vz1, vy0, vx0, ↓reduceIte, Nat.reduceBEq, Nat.reduceEqDiff, Nat.reduceLT, Nat.reduceLeDiff, Nat.reduceAdd, Nat.reduceMul, Nat.reduceSub, reduceCtorEq, Int.reduceToNat])
    exact fin_mk rfl
  · repeat' first | (refine Br.dec (fun h => ?_) (fun h => ?_) <;> try (exfalso; omega)) | (refine Br.eqi (fun h => ?_) (fun h => ?_) <;> try (exfalso; omega)) | (simp (disch := (first | omega | (simp only [List.length_cons, List.length_nil, List.length_append, List.length_map, List.length_replicate, List.length_take, List.length_drop, List.length_set, tab_length, i64s_len, bls_len, u8s_len, tbl_len, rows_len] <;> omega))) only [↓va0, ↓va1, ↓va2, vb0, vb1, vb2, vb3, vb4, vb5, vb6, vb7, vb8, vz0, vz1, vy0, vx0, ↓reduceIte, Nat.reduceBEq, Nat.reduceEqDiff, Nat.reduceLT, Nat.reduceLeDiff, Nat.reduceAdd, Nat.reduceMul, Nat.reduceSub, reduceCtorEq, Int.reduceToNat])
    refine CallVC.eq (lynIs_spec w (by omega)) ?_
    repeat' first | (refine Br.dec (fun h => ?_) (fun h => ?_) <;> try (exfalso; omega)) | (refine Br.eqi (fun h => ?_) (fun h => ?_) <;> try (exfalso; omega)) | (simp (disch := (first | omega | (simp only [List.length_cons, List.length_nil, List.length_append, List.length_map, List.length_replicate, List.length_take, List.length_drop, List.length_set, tab_length, i64s_len, bls_len, u8s_len, tbl_len, rows_len] <;> omega))) only [↓va0, ↓va1, ↓va2, vb0, vb1, vb2, vb3, vb4, vb5, vb6, vb7, vb8, vz0, vz1, vy0, vx0, ↓reduceIte, Nat.reduceBEq, Nat.reduceEqDiff, Nat.reduceLT, Nat.reduceLeDiff, Nat.reduceAdd, Nat.reduceMul, Nat.reduceSub, reduceCtorEq, Int.reduceToNat])
    refine CallVC.eq (low_spec w (by omega)) ?_
    repeat' first | (refine Br.dec (fun h => ?_) (fun h => ?_) <;> try (exfalso; omega)) | (refine Br.eqi (fun h => ?_) (fun h => ?_) <;> try (exfalso; omega)) | (simp (disch := (first | omega | (simp only [List.length_cons, List.length_nil, List.length_append, List.length_map, List.length_replicate, List.length_take, List.length_drop, List.length_set, tab_length, i64s_len, bls_len, u8s_len, tbl_len, rows_len] <;> omega))) only [↓va0, ↓va1, ↓va2, vb0, vb1, vb2, vb3, vb4, vb5, vb6, vb7, vb8, vz0, vz1, vy0, vx0, ↓reduceIte, Nat.reduceBEq, Nat.reduceEqDiff, Nat.reduceLT, Nat.reduceLeDiff, Nat.reduceAdd, Nat.reduceMul, Nat.reduceSub, reduceCtorEq, Int.reduceToNat])
    exact fin_mk rfl
theorem lyndonIs_spec (w : List UInt8) (h : okL (fun _ => True) w) : Dm.Spec Try.prog 9 [.sl 1 (u8s w)] (· = .v (.bool true)) :=
  spec_of_vc mixed Try.func9 c9 (by rw [show Try.f9.ntmps = _ from Try.ntmps9]; simp) (lyndonIs_vc w)
end Go.Proofs.Ytagllokfkliaoaa
