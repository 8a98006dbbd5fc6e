/-
  edit.Far: by how few changes a word comes of another one; the law EditFars.
-/
import Derived.Test.YtinanpbhbafhcaaWords
namespace Go.Proofs.Ytinanpbhbafhcaa
open Go.Dm
set_option linter.unusedSimpArgs false
set_option linter.unnecessarySimpa false
set_option linter.unusedVariables false

/-- The distance of the first i bytes of u and the first j of v. -/
def lvR (u v : List UInt8) (i : Nat) (up : Nat → Nat) : Nat → Nat
  | 0 => i + 1
  | j + 1 => min (min (up (j + 1)) (lvR u v i up j) + 1) (up j + if u.getD i 0 = v.getD j 0 then 0 else 1)
def lv (u v : List UInt8) : Nat → Nat → Nat
  | 0 => fun j => j
  | i + 1 => lvR u v i (lv u v i)
theorem lv_z {u v : List UInt8} {j : Nat} : lv u v 0 j = j := rfl
theorem lv_s0 {u v : List UInt8} {i : Nat} : lv u v (i + 1) 0 = i + 1 := rfl
theorem lv_ss {u v : List UInt8} {i j : Nat} : lv u v (i + 1) (j + 1) = min (min (lv u v i (j + 1)) (lv u v (i + 1) j) + 1) (lv u v i j + if u.getD i 0 = v.getD j 0 then 0 else 1) := rfl
theorem lv_le {u v : List UInt8} : ∀ {i j : Nat}, lv u v i j ≤ i + j
  | 0, j => by rw [lv_z]; omega
  | i + 1, 0 => by rw [lv_s0]; omega
  | i + 1, j + 1 => by
      have := @lv_le u v i (j + 1)
      rw [lv_ss]
      omega

set_option maxRecDepth 10000 in
set_option maxHeartbeats 2000000 in
theorem far_vc (u v : List UInt8) (hw : u.length ≤ 60 ∧ v.length ≤ 60) : vc Try.prog m13 [.f (finQ r13 (· = .tu [.v (.int .i64 (lv u v u.length v.length)), .v (.int .i64 0)]))] (S.init [.sl 1 (u8s u), .sl 1 (u8s v)]) := by
  unfold m13 r13
  repeat' first | (refine Br.dec (fun h => ?_) (fun h => ?_) <;> try (exfalso; omega)) | (refine Br.eqi (fun h => ?_) (fun h => ?_) <;> try (exfalso; omega)) | (simp (disch := (first | omega | (simp only [List.length_cons, List.length_nil, List.length_append, List.length_map, List.length_replicate, List.length_take, List.length_drop, List.length_set, tab_length, tabD_len, i64s_len, bls_len, u8s_len, tbl_len, rows_len]; first | done | omega))) only [↓va0, ↓va1, ↓va2, ↓va3, vb0, vb1, vb2, vb3, vb4, vb5, vb6, vb7, vb8, vb9, vb10, vz0, vz1, vy0, vx0, ↓reduceIte, Nat.reduceBEq, Nat.reduceEqDiff, Nat.reduceLT, Nat.reduceLeDiff, Nat.reduceAdd, Nat.reduceMul, Nat.reduceSub, reduceCtorEq, Int.reduceToNat]) | (refine Br.mk (fun h => ?_) (fun h => ?_)) | (refine BrN.mk (fun h => ?_) ?_)
  refine CallVC.eqo (large2_spec u v hw) (by simp (disch := (first | omega | (simp only [List.length_cons, List.length_nil, List.length_append, List.length_map, List.length_replicate, List.length_take, List.length_drop, List.length_set, tab_length, tabD_len, i64s_len, bls_len, u8s_len, tbl_len, rows_len]; first | done | omega))) only [↓va0, ↓va1, ↓va2, ↓va3, vb0, vb1, vb2, vb3, vb4, vb5, vb6, vb7, vb8, vb9, vb10, vz0, vz1, vy0, vx0, ↓reduceIte, Nat.reduceBEq, Nat.reduceEqDiff, Nat.reduceLT, Nat.reduceLeDiff, Nat.reduceAdd, Nat.reduceMul, Nat.reduceSub, reduceCtorEq, Int.reduceToNat]) ?_
  repeat' first | (refine Br.dec (fun h => ?_) (fun h => ?_) <;> try (exfalso; omega)) | (refine Br.eqi (fun h => ?_) (fun h => ?_) <;> try (exfalso; omega)) | (simp (disch := (first | omega | (simp only [List.length_cons, List.length_nil, List.length_append, List.length_map, List.length_replicate, List.length_take, List.length_drop, List.length_set, tab_length, tabD_len, i64s_len, bls_len, u8s_len, tbl_len, rows_len]; first | done | omega))) only [↓va0, ↓va1, ↓va2, ↓va3, vb0, vb1, vb2, vb3, vb4, vb5, vb6, vb7, vb8, vb9, vb10, vz0, vz1, vy0, vx0, ↓reduceIte, Nat.reduceBEq, Nat.reduceEqDiff, Nat.reduceLT, Nat.reduceLeDiff, Nat.reduceAdd, Nat.reduceMul, Nat.reduceSub, reduceCtorEq, Int.reduceToNat]) | (refine Br.mk (fun h => ?_) (fun h => ?_)) | (refine BrN.mk (fun h => ?_) ?_)
  refine LoopVC.mk (X := Nat) (fun j => [(7, .ref 1 1 0 (v.length + 1)), (28, iv .i64 j)]) (fun j => [(1, ⟨1, i64s (tab (v.length + 1) fun q => if q < j then (q : Int) else 0), true, false, .arr⟩)]) (fun j => v.length + 1 - j) (fun j => j ≤ v.length + 1) 0 (by omega) ?_ ?_
  · (simp (disch := (first | omega | (simp only [List.length_cons, List.length_nil, List.length_append, List.length_map, List.length_replicate, List.length_take, List.length_drop, List.length_set, tab_length, tabD_len, i64s_len, bls_len, u8s_len, tbl_len, rows_len]; first | done | omega))) only [Fits_u, Fits_m, Fits_nil, List.length_append, ↓va0, ↓va1, ↓va2, ↓va3, vb0, vb1, vb2, vb3, vb4, vb5, vb6, vb7, vb8, vb9, vb10, vz0, vz1, vy0, vx0, ↓reduceIte, Nat.reduceBEq, Nat.reduceEqDiff, Nat.reduceLT, Nat.reduceLeDiff, Nat.reduceAdd, Nat.reduceMul, Nat.reduceSub, reduceCtorEq, Int.reduceToNat] <;> (repeat' first | rfl | apply And.intro))
  · rintro j hj
    repeat' first | (refine Br.dec (fun h => ?_) (fun h => ?_) <;> try (exfalso; omega)) | (refine Br.eqi (fun h => ?_) (fun h => ?_) <;> try (exfalso; omega)) | (simp (disch := (first | omega | (simp only [List.length_cons, List.length_nil, List.length_append, List.length_map, List.length_replicate, List.length_take, List.length_drop, List.length_set, tab_length, tabD_len, i64s_len, bls_len, u8s_len, tbl_len, rows_len]; first | done | omega))) only [↓va0, ↓va1, ↓va2, ↓va3, vb0, vb1, vb2, vb3, vb4, vb5, vb6, vb7, vb8, vb9, vb10, vz0, vz1, vy0, vx0, ↓reduceIte, Nat.reduceBEq, Nat.reduceEqDiff, Nat.reduceLT, Nat.reduceLeDiff, Nat.reduceAdd, Nat.reduceMul, Nat.reduceSub, reduceCtorEq, Int.reduceToNat]) | (refine Br.mk (fun h => ?_) (fun h => ?_)) | (refine BrN.mk (fun h => ?_) ?_)
    · refine loopK.mk (j + 1) (by simp (disch := (first | omega | (simp only [List.length_cons, List.length_nil, List.length_append, List.length_map, List.length_replicate, List.length_take, List.length_drop, List.length_set, tab_length, tabD_len, i64s_len, bls_len, u8s_len, tbl_len, rows_len]; first | done | omega))) only [↓va0, ↓va1, ↓va2, ↓va3, vb0, vb1, vb2, vb3, vb4, vb5, vb6, vb7, vb8, vb9, vb10, vz0, vz1, vy0, vx0, ↓reduceIte, Nat.reduceBEq, Nat.reduceEqDiff, Nat.reduceLT, Nat.reduceLeDiff, Nat.reduceAdd, Nat.reduceMul, Nat.reduceSub, reduceCtorEq, Int.reduceToNat]) (by omega) (by omega) ?_
      (simp (disch := (first | omega | (simp only [List.length_cons, List.length_nil, List.length_append, List.length_map, List.length_replicate, List.length_take, List.length_drop, List.length_set, tab_length, tabD_len, i64s_len, bls_len, u8s_len, tbl_len, rows_len]; first | done | omega))) only [Fits_u, Fits_m, Fits_nil, List.length_append, ↓va0, ↓va1, ↓va2, ↓va3, vb0, vb1, vb2, vb3, vb4, vb5, vb6, vb7, vb8, vb9, vb10, vz0, vz1, vy0, vx0, ↓reduceIte, Nat.reduceBEq, Nat.reduceEqDiff, Nat.reduceLT, Nat.reduceLeDiff, Nat.reduceAdd, Nat.reduceMul, Nat.reduceSub, reduceCtorEq, Int.reduceToNat] <;> (repeat' first | rfl | apply And.intro))
      exact obTab fun q hq => by
        by_cases e : q = j
        · subst e; rw [if_pos rfl, if_pos (by omega)]
        · rw [if_neg e]; (repeat' split) <;> first | rfl | omega
    · have e : (tab (v.length + 1) fun q => if q < j then (q : Int) else 0) = tab (v.length + 1) fun q => (lv u v 0 q : Int) := tab_ext fun q hq => by rw [if_pos (by omega), lv_z]
      rw [e]
      refine LoopVC.mk (X := Nat) (fun i => [(7, .ref 1 1 0 (v.length + 1)), (38, iv .i64 i)]) (fun i => [(1, ⟨1, i64s (tab (v.length + 1) fun q => (lv u v i q : Int)), true, false, .arr⟩)]) (fun i => u.length - i) (fun i => i ≤ u.length) 0 (by omega) ?_ ?_
      · (simp (disch := (first | omega | (simp only [List.length_cons, List.length_nil, List.length_append, List.length_map, List.length_replicate, List.length_take, List.length_drop, List.length_set, tab_length, tabD_len, i64s_len, bls_len, u8s_len, tbl_len, rows_len]; first | done | omega))) only [Fits_u, Fits_m, Fits_nil, List.length_append, ↓va0, ↓va1, ↓va2, ↓va3, vb0, vb1, vb2, vb3, vb4, vb5, vb6, vb7, vb8, vb9, vb10, vz0, vz1, vy0, vx0, ↓reduceIte, Nat.reduceBEq, Nat.reduceEqDiff, Nat.reduceLT, Nat.reduceLeDiff, Nat.reduceAdd, Nat.reduceMul, Nat.reduceSub, reduceCtorEq, Int.reduceToNat] <;> (repeat' first | rfl | apply And.intro))
      · rintro i hi
        repeat' first | (refine Br.dec (fun h => ?_) (fun h => ?_) <;> try (exfalso; omega)) | (refine Br.eqi (fun h => ?_) (fun h => ?_) <;> try (exfalso; omega)) | (simp (disch := (first | omega | (simp only [List.length_cons, List.length_nil, List.length_append, List.length_map, List.length_replicate, List.length_take, List.length_drop, List.length_set, tab_length, tabD_len, i64s_len, bls_len, u8s_len, tbl_len, rows_len]; first | done | omega))) only [↓va0, ↓va1, ↓va2, ↓va3, vb0, vb1, vb2, vb3, vb4, vb5, vb6, vb7, vb8, vb9, vb10, vz0, vz1, vy0, vx0, ↓reduceIte, Nat.reduceBEq, Nat.reduceEqDiff, Nat.reduceLT, Nat.reduceLeDiff, Nat.reduceAdd, Nat.reduceMul, Nat.reduceSub, reduceCtorEq, Int.reduceToNat]) | (refine Br.mk (fun h => ?_) (fun h => ?_)) | (refine BrN.mk (fun h => ?_) ?_)
        · refine LoopVC.mk (X := Nat) (fun j => [(7, .ref 1 1 0 (v.length + 1)), (11, iv .i64 (lv u v i j)), (52, iv .i64 j)]) (fun j => [(1, ⟨1, i64s (tab (v.length + 1) fun q => if q ≤ j then (lv u v (i + 1) q : Int) else (lv u v i q : Int)), true, false, .arr⟩)]) (fun j => v.length - j) (fun j => j ≤ v.length) 0 (by omega) ?_ ?_
          · (simp (disch := (first | omega | (simp only [List.length_cons, List.length_nil, List.length_append, List.length_map, List.length_replicate, List.length_take, List.length_drop, List.length_set, tab_length, tabD_len, i64s_len, bls_len, u8s_len, tbl_len, rows_len]; first | done | omega))) only [Fits_u, Fits_m, Fits_nil, List.length_append, ↓va0, ↓va1, ↓va2, ↓va3, vb0, vb1, vb2, vb3, vb4, vb5, vb6, vb7, vb8, vb9, vb10, vz0, vz1, vy0, vx0, ↓reduceIte, Nat.reduceBEq, Nat.reduceEqDiff, Nat.reduceLT, Nat.reduceLeDiff, Nat.reduceAdd, Nat.reduceMul, Nat.reduceSub, reduceCtorEq, Int.reduceToNat] <;> (repeat' first | rfl | apply And.intro))
            exact obTab fun q hq => by
              by_cases e2 : q = 0
              · subst e2; rw [if_pos rfl, if_pos (Nat.le_refl _), lv_s0]; rfl
              · rw [if_neg e2, if_neg (by omega)]
          · rintro j hj
            have b1 := @lv_le u v i j
            have b2 := @lv_le u v i (j + 1)
            have b3 := @lv_le u v (i + 1) j
            repeat' first | (refine Br.dec (fun h => ?_) (fun h => ?_) <;> try (exfalso; omega)) | (refine Br.eqi (fun h => ?_) (fun h => ?_) <;> try (exfalso; omega)) | (simp (disch := (first | omega | (simp only [List.length_cons, List.length_nil, List.length_append, List.length_map, List.length_replicate, List.length_take, List.length_drop, List.length_set, tab_length, tabD_len, i64s_len, bls_len, u8s_len, tbl_len, rows_len]; first | done | omega))) only [↓va0, ↓va1, ↓va2, ↓va3, vb0, vb1, vb2, vb3, vb4, vb5, vb6, vb7, vb8, vb9, vb10, vz0, vz1, vy0, vx0, ↓reduceIte, Nat.reduceBEq, Nat.reduceEqDiff, Nat.reduceLT, Nat.reduceLeDiff, Nat.reduceAdd, Nat.reduceMul, Nat.reduceSub, reduceCtorEq, Int.reduceToNat]) | (refine Br.mk (fun h => ?_) (fun h => ?_)) | (refine BrN.mk (fun h => ?_) ?_)
            · have hc : u.getD i 0 = v.getD j 0 := u8_inj (by assumption)
              refine loopK.mk (j + 1) (by simp (disch := (first | omega | (simp only [List.length_cons, List.length_nil, List.length_append, List.length_map, List.length_replicate, List.length_take, List.length_drop, List.length_set, tab_length, tabD_len, i64s_len, bls_len, u8s_len, tbl_len, rows_len]; first | done | omega))) only [↓va0, ↓va1, ↓va2, ↓va3, vb0, vb1, vb2, vb3, vb4, vb5, vb6, vb7, vb8, vb9, vb10, vz0, vz1, vy0, vx0, ↓reduceIte, Nat.reduceBEq, Nat.reduceEqDiff, Nat.reduceLT, Nat.reduceLeDiff, Nat.reduceAdd, Nat.reduceMul, Nat.reduceSub, reduceCtorEq, Int.reduceToNat]) (by omega) (by omega) ?_
              (simp (disch := (first | omega | (simp only [List.length_cons, List.length_nil, List.length_append, List.length_map, List.length_replicate, List.length_take, List.length_drop, List.length_set, tab_length, tabD_len, i64s_len, bls_len, u8s_len, tbl_len, rows_len]; first | done | omega))) only [Fits_u, Fits_m, Fits_nil, List.length_append, ↓va0, ↓va1, ↓va2, ↓va3, vb0, vb1, vb2, vb3, vb4, vb5, vb6, vb7, vb8, vb9, vb10, vz0, vz1, vy0, vx0, ↓reduceIte, Nat.reduceBEq, Nat.reduceEqDiff, Nat.reduceLT, Nat.reduceLeDiff, Nat.reduceAdd, Nat.reduceMul, Nat.reduceSub, reduceCtorEq, Int.reduceToNat] <;> (repeat' first | rfl | apply And.intro))
              · exact viEq (by rw [if_neg (by omega)])
              · exact obTab fun q hq => by
                  by_cases e2 : q = j + 1
                  · subst e2
                    rw [if_pos rfl, lv_ss, if_pos hc]
                    generalize lv u v i (j + 1) = x at *
                    generalize lv u v (i + 1) j = y at *
                    generalize lv u v i j = z at *
                    (repeat' split) <;> omega
                  · rw [if_neg e2]; (repeat' split) <;> first | rfl | omega
            · have hc : ¬ u.getD i 0 = v.getD j 0 := u8_ne (by assumption)
              refine loopK.mk (j + 1) (by simp (disch := (first | omega | (simp only [List.length_cons, List.length_nil, List.length_append, List.length_map, List.length_replicate, List.length_take, List.length_drop, List.length_set, tab_length, tabD_len, i64s_len, bls_len, u8s_len, tbl_len, rows_len]; first | done | omega))) only [↓va0, ↓va1, ↓va2, ↓va3, vb0, vb1, vb2, vb3, vb4, vb5, vb6, vb7, vb8, vb9, vb10, vz0, vz1, vy0, vx0, ↓reduceIte, Nat.reduceBEq, Nat.reduceEqDiff, Nat.reduceLT, Nat.reduceLeDiff, Nat.reduceAdd, Nat.reduceMul, Nat.reduceSub, reduceCtorEq, Int.reduceToNat]) (by omega) (by omega) ?_
              (simp (disch := (first | omega | (simp only [List.length_cons, List.length_nil, List.length_append, List.length_map, List.length_replicate, List.length_take, List.length_drop, List.length_set, tab_length, tabD_len, i64s_len, bls_len, u8s_len, tbl_len, rows_len]; first | done | omega))) only [Fits_u, Fits_m, Fits_nil, List.length_append, ↓va0, ↓va1, ↓va2, ↓va3, vb0, vb1, vb2, vb3, vb4, vb5, vb6, vb7, vb8, vb9, vb10, vz0, vz1, vy0, vx0, ↓reduceIte, Nat.reduceBEq, Nat.reduceEqDiff, Nat.reduceLT, Nat.reduceLeDiff, Nat.reduceAdd, Nat.reduceMul, Nat.reduceSub, reduceCtorEq, Int.reduceToNat] <;> (repeat' first | rfl | apply And.intro))
              · exact viEq (by rw [if_neg (by omega)])
              · exact obTab fun q hq => by
                  by_cases e2 : q = j + 1
                  · subst e2
                    rw [if_pos rfl, lv_ss, if_neg hc]
                    generalize lv u v i (j + 1) = x at *
                    generalize lv u v (i + 1) j = y at *
                    generalize lv u v i j = z at *
                    (repeat' split) <;> omega
                  · rw [if_neg e2]; (repeat' split) <;> first | rfl | omega
            · refine loopK.mk (i + 1) (by simp (disch := (first | omega | (simp only [List.length_cons, List.length_nil, List.length_append, List.length_map, List.length_replicate, List.length_take, List.length_drop, List.length_set, tab_length, tabD_len, i64s_len, bls_len, u8s_len, tbl_len, rows_len]; first | done | omega))) only [↓va0, ↓va1, ↓va2, ↓va3, vb0, vb1, vb2, vb3, vb4, vb5, vb6, vb7, vb8, vb9, vb10, vz0, vz1, vy0, vx0, ↓reduceIte, Nat.reduceBEq, Nat.reduceEqDiff, Nat.reduceLT, Nat.reduceLeDiff, Nat.reduceAdd, Nat.reduceMul, Nat.reduceSub, reduceCtorEq, Int.reduceToNat]) (by omega) (by omega) ?_
              (simp (disch := (first | omega | (simp only [List.length_cons, List.length_nil, List.length_append, List.length_map, List.length_replicate, List.length_take, List.length_drop, List.length_set, tab_length, tabD_len, i64s_len, bls_len, u8s_len, tbl_len, rows_len]; first | done | omega))) only [Fits_u, Fits_m, Fits_nil, List.length_append, ↓va0, ↓va1, ↓va2, ↓va3, vb0, vb1, vb2, vb3, vb4, vb5, vb6, vb7, vb8, vb9, vb10, vz0, vz1, vy0, vx0, ↓reduceIte, Nat.reduceBEq, Nat.reduceEqDiff, Nat.reduceLT, Nat.reduceLeDiff, Nat.reduceAdd, Nat.reduceMul, Nat.reduceSub, reduceCtorEq, Int.reduceToNat] <;> (repeat' first | rfl | apply And.intro))
              exact obTab fun q hq => by rw [if_pos (by omega)]
        · refine fin_mk ?_
          rw [show i = u.length by omega]
theorem far_spec (u v : List UInt8) (hw : u.length ≤ 60 ∧ v.length ≤ 60) : Dm.Spec Try.prog 13 [.sl 1 (u8s u), .sl 1 (u8s v)] (· = .tu [.v (.int .i64 (lv u v u.length v.length)), .v (.int .i64 0)]) :=
  spec_of_vc mixed Try.func13 c13 (by rw [show Try.f13.ntmps = _ from Try.ntmps13]; simp) (far_vc u v hw)
set_option maxRecDepth 10000 in
set_option maxHeartbeats 2000000 in
theorem far_big_vc (u v : List UInt8) (hw : 60 < u.length ∨ 60 < v.length) : vc Try.prog m13 [.f (finQ r13 (· = .tu [.v (.int .i64 0), .v (.int .i64 1)]))] (S.init [.sl 1 (u8s u), .sl 1 (u8s v)]) := by
  unfold m13 r13
  repeat' first | (refine Br.dec (fun h => ?_) (fun h => ?_) <;> try (exfalso; omega)) | (refine Br.eqi (fun h => ?_) (fun h => ?_) <;> try (exfalso; omega)) | (simp (disch := (first | omega | (simp only [List.length_cons, List.length_nil, List.length_append, List.length_map, List.length_replicate, List.length_take, List.length_drop, List.length_set, tab_length, tabD_len, i64s_len, bls_len, u8s_len, tbl_len, rows_len]; first | done | omega))) only [↓va0, ↓va1, ↓va2, ↓va3, vb0, vb1, vb2, vb3, vb4, vb5, vb6, vb7, vb8, vb9, vb10, vz0, vz1, vy0, vx0, ↓reduceIte, Nat.reduceBEq, Nat.reduceEqDiff, Nat.reduceLT, Nat.reduceLeDiff, Nat.reduceAdd, Nat.reduceMul, Nat.reduceSub, reduceCtorEq, Int.reduceToNat]) | (refine Br.mk (fun h => ?_) (fun h => ?_)) | (refine BrN.mk (fun h => ?_) ?_)
  refine CallVC.eqo (large2_big u v hw) (by simp (disch := (first | omega | (simp only [List.length_cons, List.length_nil, List.length_append, List.length_map, List.length_replicate, List.length_take, List.length_drop, List.length_set, tab_length, tabD_len, i64s_len, bls_len, u8s_len, tbl_len, rows_len]; first | done | omega))) only [↓va0, ↓va1, ↓va2, ↓va3, vb0, vb1, vb2, vb3, vb4, vb5, vb6, vb7, vb8, vb9, vb10, vz0, vz1, vy0, vx0, ↓reduceIte, Nat.reduceBEq, Nat.reduceEqDiff, Nat.reduceLT, Nat.reduceLeDiff, Nat.reduceAdd, Nat.reduceMul, Nat.reduceSub, reduceCtorEq, Int.reduceToNat]) ?_
  repeat' first | (refine Br.dec (fun h => ?_) (fun h => ?_) <;> try (exfalso; omega)) | (refine Br.eqi (fun h => ?_) (fun h => ?_) <;> try (exfalso; omega)) | (simp (disch := (first | omega | (simp only [List.length_cons, List.length_nil, List.length_append, List.length_map, List.length_replicate, List.length_take, List.length_drop, List.length_set, tab_length, tabD_len, i64s_len, bls_len, u8s_len, tbl_len, rows_len]; first | done | omega))) only [↓va0, ↓va1, ↓va2, ↓va3, vb0, vb1, vb2, vb3, vb4, vb5, vb6, vb7, vb8, vb9, vb10, vz0, vz1, vy0, vx0, ↓reduceIte, Nat.reduceBEq, Nat.reduceEqDiff, Nat.reduceLT, Nat.reduceLeDiff, Nat.reduceAdd, Nat.reduceMul, Nat.reduceSub, reduceCtorEq, Int.reduceToNat]) | (refine Br.mk (fun h => ?_) (fun h => ?_)) | (refine BrN.mk (fun h => ?_) ?_)
  exact fin_mk rfl
theorem far_big (u v : List UInt8) (hw : 60 < u.length ∨ 60 < v.length) : Dm.Spec Try.prog 13 [.sl 1 (u8s u), .sl 1 (u8s v)] (· = .tu [.v (.int .i64 0), .v (.int .i64 1)]) :=
  spec_of_vc mixed Try.func13 c13 (by rw [show Try.f13.ntmps = _ from Try.ntmps13]; simp) (far_big_vc u v hw)
end Go.Proofs.Ytinanpbhbafhcaa
