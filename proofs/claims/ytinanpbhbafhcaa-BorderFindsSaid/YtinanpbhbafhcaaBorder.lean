/-
  border.Borders: longest borders of the beginnings; the law BorderTells.
-/
import Derived.Test.YtinanpbhbafhcaaWords
namespace Go.Proofs.Ytinanpbhbafhcaa
open Go.Dm
set_option linter.unusedSimpArgs false
set_option linter.unnecessarySimpa false
set_option linter.unusedVariables false

/-- Is there a border of k bytes of the first n? -/
def isB (w : List UInt8) (n k : Nat) : Prop := k < n ∧ ∀ j, j < k → w.getD j 0 = w.getD (n - k + j) 0
instance (w : List UInt8) (n k : Nat) : Decidable (isB w n k) := by unfold isB; infer_instance
def bdF (w : List UInt8) (n : Nat) : Nat → Nat
  | 0 => 0
  | k + 1 => if isB w n (k + 1) then k + 1 else bdF w n k
/-- The longest border of the first n bytes. -/
def bd (w : List UInt8) (n : Nat) : Nat := bdF w n (n - 1)
theorem isB_zero {w : List UInt8} {n : Nat} (h : 0 < n) : isB w n 0 := ⟨h, by omega⟩
theorem bdF_is {w : List UInt8} {n k : Nat} (hn : 0 < n) (hk : isB w n k) : ∀ {m : Nat}, k ≤ m → (∀ j, k < j → j ≤ m → ¬ isB w n j) → bdF w n m = k
  | 0, h, _ => by simp [bdF]; omega
  | m + 1, h, hm => by
      by_cases e : k = m + 1
      · subst e; rw [bdF, if_pos hk]
      · rw [bdF, if_neg (hm (m + 1) (by omega) (by omega))]
        exact bdF_is hn hk (by omega) fun j h1 h2 => hm j h1 (by omega)
theorem bd_is {w : List UInt8} {n k : Nat} (hk : isB w n k) (hm : ∀ j, k < j → ¬ isB w n j) : bd w n = k :=
  bdF_is (by have := hk.1; omega) hk (by have := hk.1; omega) fun j h _ => hm j h
theorem bdF_spec {w : List UInt8} {n : Nat} (hn : 0 < n) : ∀ m, isB w n (bdF w n m) ∧ bdF w n m ≤ m ∧ ∀ j, bdF w n m < j → j ≤ m → ¬ isB w n j
  | 0 => ⟨isB_zero hn, by simp [bdF], by omega⟩
  | m + 1 => by
      by_cases e : isB w n (m + 1)
      · rw [bdF, if_pos e]; exact ⟨e, by omega, by omega⟩
      · rw [bdF, if_neg e]
        obtain ⟨h1, h2, h3⟩ := bdF_spec hn m
        refine ⟨h1, by omega, fun j hj hj2 => ?_⟩
        by_cases e2 : j = m + 1
        · subst e2; exact e
        · exact h3 j hj (by omega)
theorem bd_isB {w : List UInt8} {n : Nat} (hn : 0 < n) : isB w n (bd w n) := (bdF_spec hn _).1
theorem bd_max {w : List UInt8} {n j : Nat} (hn : 0 < n) (h : isB w n j) : j ≤ bd w n := by
  by_cases e : j ≤ bd w n
  · exact e
  · exact absurd h ((bdF_spec hn (n - 1)).2.2 j (by unfold bd at e; omega) (by have := h.1; omega))
theorem isB_of {w : List UInt8} {n k j : Nat} (h1 : isB w n k) (h2 : isB w n j) (h : j < k) : isB w k j := by
  refine ⟨h, fun i hi => ?_⟩
  have e1 := h2.2 i hi
  have e2 := h1.2 (k - j + i) (by omega)
  rw [e1, e2]
  congr 1
  have := h1.1
  omega
theorem isB_trans {w : List UInt8} {n k j : Nat} (h1 : isB w n k) (h2 : isB w k j) : isB w n j := by
  have a1 := h1.1
  have a2 := h2.1
  refine ⟨by omega, fun i hi => ?_⟩
  rw [h2.2 i hi, h1.2 (k - j + i) (by omega)]
  congr 1
  omega
theorem isB_ext {w : List UInt8} {n k : Nat} (h : isB w n k) (e : w.getD k 0 = w.getD n 0) : isB w (n + 1) (k + 1) := by
  have a := h.1
  refine ⟨by omega, fun i hi => ?_⟩
  by_cases e2 : i = k
  · subst e2; rw [e]; congr 1; omega
  · rw [h.2 i (by omega)]; congr 1; omega
theorem isB_red {w : List UInt8} {n k : Nat} (h : isB w (n + 1) (k + 1)) : isB w n k ∧ w.getD k 0 = w.getD n 0 := by
  have a := h.1
  refine ⟨⟨by omega, fun i hi => ?_⟩, ?_⟩
  · rw [h.2 i (by omega)]; congr 1; omega
  · rw [h.2 k (by omega)]; congr 1; omega
theorem bd_hit {w : List UInt8} {i k : Nat} (h : isB w i k) (hm : ∀ j, isB w i j → w.getD j 0 = w.getD i 0 → j ≤ k) (e : w.getD k 0 = w.getD i 0) : bd w (i + 1) = k + 1 := by
  refine bd_is (isB_ext h e) fun j hj hb => ?_
  obtain ⟨j, rfl⟩ : ∃ q, j = q + 1 := ⟨j - 1, by omega⟩
  obtain ⟨h1, h2⟩ := isB_red hb
  have := hm j h1 h2
  omega
theorem bd_miss {w : List UInt8} {i : Nat} (hm : ∀ j, isB w i j → w.getD j 0 = w.getD i 0 → j ≤ 0) (e : ¬ w.getD 0 0 = w.getD i 0) : bd w (i + 1) = 0 := by
  refine bd_is (isB_zero (by omega)) fun j hj hb => ?_
  obtain ⟨j, rfl⟩ : ∃ q, j = q + 1 := ⟨j - 1, by omega⟩
  obtain ⟨h1, h2⟩ := isB_red hb
  have := hm j h1 h2
  have e0 : j = 0 := by omega
  subst e0
  exact e h2
theorem bd_next {w : List UInt8} {i k : Nat} (h : isB w i k) (hk : 0 < k) (hm : ∀ j, isB w i j → w.getD j 0 = w.getD i 0 → j ≤ k) (e : ¬ w.getD k 0 = w.getD i 0) : isB w i (bd w k) ∧ ∀ j, isB w i j → w.getD j 0 = w.getD i 0 → j ≤ bd w k := by
  refine ⟨isB_trans h (bd_isB hk), fun j h1 h2 => ?_⟩
  have := hm j h1 h2
  by_cases e2 : j = k
  · subst e2; exact absurd h2 e
  · exact bd_max hk (isB_of h h1 (by omega))
theorem bd_one {w : List UInt8} : bd w 1 = 0 := rfl
theorem isB_eq {w : List UInt8} {n k : Nat} (hn : n ≤ w.length) (hk : k < n) : ((w.take n).take k = (w.take n).drop (n - k)) ↔ isB w n k := by
  constructor
  · intro h
    refine ⟨hk, fun j hj => ?_⟩
    have e1 : ((w.take n).take k).getD j 0 = w.getD j 0 := by simp [List.getD, List.getElem?_take, hj, show j < n by omega]
    have e2 : ((w.take n).drop (n - k)).getD j 0 = w.getD (n - k + j) 0 := by simp [List.getD, List.getElem?_take, show n - k + j < n by omega]
    rw [← e1, h, e2]
  · intro h
    apply List.ext_getElem
    · simp; omega
    · intro j h1 h2
      have hj : j < k := by simp at h1; omega
      have := h.2 j hj
      simp only [List.getElem_drop, List.getElem_take]
      simp only [List.getD, List.getElem?_eq_getElem (show j < w.length by omega), List.getElem?_eq_getElem (show n - k + j < w.length by omega), Option.getD_some] at this
      exact this

def bdT (w : List UInt8) (j : Nat) : Int := bd w (j + 1)
set_option maxRecDepth 10000 in
set_option maxHeartbeats 2000000 in
theorem lengths_vc (w : List UInt8) (hw : w.length ≤ 60) : vc Try.prog m36 [.f (finQ r36 (· = .sl 1 (i64s (tab w.length (bdT w)))))] (S.init [.sl 1 (u8s w)]) := by
  unfold m36 r36
  repeat' first | (refine Br.dec (fun h => ?_) (fun h => ?_) <;> try (exfalso; omega)) | (refine Br.eqi (fun h => ?_) (fun h => ?_) <;> try (exfalso; omega)) | (simp (disch := (first | omega | (simp only [List.length_cons, List.length_nil, List.length_append, List.length_map, List.length_replicate, List.length_take, List.length_drop, List.length_set, tab_length, tabD_len, i64s_len, bls_len, u8s_len, tbl_len, rows_len]; first | done | omega))) only [↓va0, ↓va1, ↓va2, vb0, vb1, vb2, vb3, vb4, vb5, vb6, vb7, vb8, vb9, vz0, vz1, vy0, vx0, ↓reduceIte, Nat.reduceBEq, Nat.reduceEqDiff, Nat.reduceLT, Nat.reduceLeDiff, Nat.reduceAdd, Nat.reduceMul, Nat.reduceSub, reduceCtorEq, Int.reduceToNat]) | (refine Br.mk (fun h => ?_) (fun h => ?_)) | (refine BrN.mk (fun h => ?_) ?_)
  refine LoopVC.mk (X := Nat × Nat) (fun x => [(3, .ref 1 1 0 w.length), (4, iv .i64 x.2), (5, iv .i64 x.1)]) (fun x => [(1, ⟨1, i64s (tab w.length fun j => if j < x.1 then bdT w j else 0), true, false, .arr⟩)]) (fun x => w.length - x.1) (fun x => 1 ≤ x.1 ∧ (x.1 ≤ w.length ∨ x.1 = 1) ∧ x.2 = bd w x.1) (1, 0) ⟨by simp, by simp, rfl⟩ ?_ ?_
  · (simp (disch := (first | omega | (simp only [List.length_cons, List.length_nil, List.length_append, List.length_map, List.length_replicate, List.length_take, List.length_drop, List.length_set, tab_length, tabD_len, i64s_len, bls_len, u8s_len, tbl_len, rows_len]; first | done | omega))) only [Fits_u, Fits_m, Fits_nil, List.length_append, ↓va0, ↓va1, ↓va2, vb0, vb1, vb2, vb3, vb4, vb5, vb6, vb7, vb8, vb9, vz0, vz1, vy0, vx0, ↓reduceIte, Nat.reduceBEq, Nat.reduceEqDiff, Nat.reduceLT, Nat.reduceLeDiff, Nat.reduceAdd, Nat.reduceMul, Nat.reduceSub, reduceCtorEq, Int.reduceToNat] <;> (repeat' first | rfl | apply And.intro))
    exact obTab fun j hj => by
      by_cases e : j = 0
      · subst e; rfl
      · rw [if_neg (by omega)]
  · rintro ⟨i, k⟩ ⟨h1, h2, h3⟩
    simp only at h1 h2 h3
    repeat' first | (refine Br.dec (fun h => ?_) (fun h => ?_) <;> try (exfalso; omega)) | (refine Br.eqi (fun h => ?_) (fun h => ?_) <;> try (exfalso; omega)) | (simp (disch := (first | omega | (simp only [List.length_cons, List.length_nil, List.length_append, List.length_map, List.length_replicate, List.length_take, List.length_drop, List.length_set, tab_length, tabD_len, i64s_len, bls_len, u8s_len, tbl_len, rows_len]; first | done | omega))) only [↓va0, ↓va1, ↓va2, vb0, vb1, vb2, vb3, vb4, vb5, vb6, vb7, vb8, vb9, vz0, vz1, vy0, vx0, ↓reduceIte, Nat.reduceBEq, Nat.reduceEqDiff, Nat.reduceLT, Nat.reduceLeDiff, Nat.reduceAdd, Nat.reduceMul, Nat.reduceSub, reduceCtorEq, Int.reduceToNat]) | (refine Br.mk (fun h => ?_) (fun h => ?_)) | (refine BrN.mk (fun h => ?_) ?_)
    · refine LoopVC.mk (X := Nat) (fun k => [(3, .ref 1 1 0 w.length), (4, iv .i64 k)]) (fun _ => [(1, ⟨1, i64s (tab w.length fun j => if j < i then bdT w j else 0), true, false, .arr⟩)]) (fun k => k) (fun k => isB w i k ∧ ∀ j, isB w i j → w.getD j 0 = w.getD i 0 → j ≤ k) k ⟨h3 ▸ bd_isB h1, fun j hj _ => h3 ▸ bd_max h1 hj⟩ ?_ ?_
      · (simp (disch := (first | omega | (simp only [List.length_cons, List.length_nil, List.length_append, List.length_map, List.length_replicate, List.length_take, List.length_drop, List.length_set, tab_length, tabD_len, i64s_len, bls_len, u8s_len, tbl_len, rows_len]; first | done | omega))) only [Fits_u, Fits_m, Fits_nil, List.length_append, ↓va0, ↓va1, ↓va2, vb0, vb1, vb2, vb3, vb4, vb5, vb6, vb7, vb8, vb9, vz0, vz1, vy0, vx0, ↓reduceIte, Nat.reduceBEq, Nat.reduceEqDiff, Nat.reduceLT, Nat.reduceLeDiff, Nat.reduceAdd, Nat.reduceMul, Nat.reduceSub, reduceCtorEq, Int.reduceToNat] <;> (repeat' first | rfl | apply And.intro))
      · rintro k ⟨h4, h5⟩
        have hki := h4.1
        repeat' first | (refine Br.dec (fun h => ?_) (fun h => ?_) <;> try (exfalso; omega)) | (refine Br.eqi (fun h => ?_) (fun h => ?_) <;> try (exfalso; omega)) | (simp (disch := (first | omega | (simp only [List.length_cons, List.length_nil, List.length_append, List.length_map, List.length_replicate, List.length_take, List.length_drop, List.length_set, tab_length, tabD_len, i64s_len, bls_len, u8s_len, tbl_len, rows_len]; first | done | omega))) only [↓va0, ↓va1, ↓va2, vb0, vb1, vb2, vb3, vb4, vb5, vb6, vb7, vb8, vb9, vz0, vz1, vy0, vx0, ↓reduceIte, Nat.reduceBEq, Nat.reduceEqDiff, Nat.reduceLT, Nat.reduceLeDiff, Nat.reduceAdd, Nat.reduceMul, Nat.reduceSub, reduceCtorEq, Int.reduceToNat]) | (refine Br.mk (fun h => ?_) (fun h => ?_)) | (refine BrN.mk (fun h => ?_) ?_)
        · have e := bd_hit h4 h5 (u8_inj (by assumption))
          refine loopK.mk (i + 1, k + 1) (by simp (disch := (first | omega | (simp only [List.length_cons, List.length_nil, List.length_append, List.length_map, List.length_replicate, List.length_take, List.length_drop, List.length_set, tab_length, tabD_len, i64s_len, bls_len, u8s_len, tbl_len, rows_len]; first | done | omega))) only [↓va0, ↓va1, ↓va2, vb0, vb1, vb2, vb3, vb4, vb5, vb6, vb7, vb8, vb9, vz0, vz1, vy0, vx0, ↓reduceIte, Nat.reduceBEq, Nat.reduceEqDiff, Nat.reduceLT, Nat.reduceLeDiff, Nat.reduceAdd, Nat.reduceMul, Nat.reduceSub, reduceCtorEq, Int.reduceToNat]) ⟨by simp only; omega, by simp only; omega, e.symm⟩ (by simp only; omega) ?_
          (simp (disch := (first | omega | (simp only [List.length_cons, List.length_nil, List.length_append, List.length_map, List.length_replicate, List.length_take, List.length_drop, List.length_set, tab_length, tabD_len, i64s_len, bls_len, u8s_len, tbl_len, rows_len]; first | done | omega))) only [Fits_u, Fits_m, Fits_nil, List.length_append, ↓va0, ↓va1, ↓va2, vb0, vb1, vb2, vb3, vb4, vb5, vb6, vb7, vb8, vb9, vz0, vz1, vy0, vx0, ↓reduceIte, Nat.reduceBEq, Nat.reduceEqDiff, Nat.reduceLT, Nat.reduceLeDiff, Nat.reduceAdd, Nat.reduceMul, Nat.reduceSub, reduceCtorEq, Int.reduceToNat] <;> (repeat' first | rfl | apply And.intro))
          exact obTab fun j hj => by
            by_cases e2 : j = i
            · subst e2; rw [if_pos rfl, if_pos (by omega), bdT, e]; rfl
            · rw [if_neg e2]; (repeat' split) <;> first | rfl | omega
        · have hn := bd_next h4 (by omega) h5 (u8_ne (by assumption))
          have hlt := hn.1.1
          have hb := (bd_isB (w := w) (n := k) (by omega)).1
          have e : (if k - 1 < i then bdT w (k - 1) else 0) = (bd w k : Int) := by rw [if_pos (by omega), bdT, show k - 1 + 1 = k by omega]
          rw [e]
          refine loopK.mk (bd w k) (by simp (disch := (first | omega | (simp only [List.length_cons, List.length_nil, List.length_append, List.length_map, List.length_replicate, List.length_take, List.length_drop, List.length_set, tab_length, tabD_len, i64s_len, bls_len, u8s_len, tbl_len, rows_len]; first | done | omega))) only [↓va0, ↓va1, ↓va2, vb0, vb1, vb2, vb3, vb4, vb5, vb6, vb7, vb8, vb9, vz0, vz1, vy0, vx0, ↓reduceIte, Nat.reduceBEq, Nat.reduceEqDiff, Nat.reduceLT, Nat.reduceLeDiff, Nat.reduceAdd, Nat.reduceMul, Nat.reduceSub, reduceCtorEq, Int.reduceToNat]) hn (by omega) ?_
          (simp (disch := (first | omega | (simp only [List.length_cons, List.length_nil, List.length_append, List.length_map, List.length_replicate, List.length_take, List.length_drop, List.length_set, tab_length, tabD_len, i64s_len, bls_len, u8s_len, tbl_len, rows_len]; first | done | omega))) only [Fits_u, Fits_m, Fits_nil, List.length_append, ↓va0, ↓va1, ↓va2, vb0, vb1, vb2, vb3, vb4, vb5, vb6, vb7, vb8, vb9, vz0, vz1, vy0, vx0, ↓reduceIte, Nat.reduceBEq, Nat.reduceEqDiff, Nat.reduceLT, Nat.reduceLeDiff, Nat.reduceAdd, Nat.reduceMul, Nat.reduceSub, reduceCtorEq, Int.reduceToNat] <;> (repeat' first | rfl | apply And.intro))
        · have e := bd_hit h4 h5 (u8_inj (by assumption))
          refine loopK.mk (i + 1, k + 1) (by simp (disch := (first | omega | (simp only [List.length_cons, List.length_nil, List.length_append, List.length_map, List.length_replicate, List.length_take, List.length_drop, List.length_set, tab_length, tabD_len, i64s_len, bls_len, u8s_len, tbl_len, rows_len]; first | done | omega))) only [↓va0, ↓va1, ↓va2, vb0, vb1, vb2, vb3, vb4, vb5, vb6, vb7, vb8, vb9, vz0, vz1, vy0, vx0, ↓reduceIte, Nat.reduceBEq, Nat.reduceEqDiff, Nat.reduceLT, Nat.reduceLeDiff, Nat.reduceAdd, Nat.reduceMul, Nat.reduceSub, reduceCtorEq, Int.reduceToNat]) ⟨by simp only; omega, by simp only; omega, e.symm⟩ (by simp only; omega) ?_
          (simp (disch := (first | omega | (simp only [List.length_cons, List.length_nil, List.length_append, List.length_map, List.length_replicate, List.length_take, List.length_drop, List.length_set, tab_length, tabD_len, i64s_len, bls_len, u8s_len, tbl_len, rows_len]; first | done | omega))) only [Fits_u, Fits_m, Fits_nil, List.length_append, ↓va0, ↓va1, ↓va2, vb0, vb1, vb2, vb3, vb4, vb5, vb6, vb7, vb8, vb9, vz0, vz1, vy0, vx0, ↓reduceIte, Nat.reduceBEq, Nat.reduceEqDiff, Nat.reduceLT, Nat.reduceLeDiff, Nat.reduceAdd, Nat.reduceMul, Nat.reduceSub, reduceCtorEq, Int.reduceToNat] <;> (repeat' first | rfl | apply And.intro))
          exact obTab fun j hj => by
            by_cases e2 : j = i
            · subst e2; rw [if_pos rfl, if_pos (by omega), bdT, e]; rfl
            · rw [if_neg e2]; (repeat' split) <;> first | rfl | omega
        · have e0 : k = 0 := by omega
          subst e0
          have e := bd_miss h5 (u8_ne (by assumption))
          refine loopK.mk (i + 1, 0) (by simp (disch := (first | omega | (simp only [List.length_cons, List.length_nil, List.length_append, List.length_map, List.length_replicate, List.length_take, List.length_drop, List.length_set, tab_length, tabD_len, i64s_len, bls_len, u8s_len, tbl_len, rows_len]; first | done | omega))) only [↓va0, ↓va1, ↓va2, vb0, vb1, vb2, vb3, vb4, vb5, vb6, vb7, vb8, vb9, vz0, vz1, vy0, vx0, ↓reduceIte, Nat.reduceBEq, Nat.reduceEqDiff, Nat.reduceLT, Nat.reduceLeDiff, Nat.reduceAdd, Nat.reduceMul, Nat.reduceSub, reduceCtorEq, Int.reduceToNat]) ⟨by simp only; omega, by simp only; omega, e.symm⟩ (by simp only; omega) ?_
          (simp (disch := (first | omega | (simp only [List.length_cons, List.length_nil, List.length_append, List.length_map, List.length_replicate, List.length_take, List.length_drop, List.length_set, tab_length, tabD_len, i64s_len, bls_len, u8s_len, tbl_len, rows_len]; first | done | omega))) only [Fits_u, Fits_m, Fits_nil, List.length_append, ↓va0, ↓va1, ↓va2, vb0, vb1, vb2, vb3, vb4, vb5, vb6, vb7, vb8, vb9, vz0, vz1, vy0, vx0, ↓reduceIte, Nat.reduceBEq, Nat.reduceEqDiff, Nat.reduceLT, Nat.reduceLeDiff, Nat.reduceAdd, Nat.reduceMul, Nat.reduceSub, reduceCtorEq, Int.reduceToNat] <;> (repeat' first | rfl | apply And.intro))
          exact obTab fun j hj => by
            by_cases e2 : j = i
            · subst e2; rw [if_pos rfl, if_pos (by omega), bdT, e]; rfl
            · rw [if_neg e2]; (repeat' split) <;> first | rfl | omega
    · refine fin_mk (slTab fun j hj => ?_)
      rw [if_pos (by omega)]
theorem lengths_spec (w : List UInt8) (hw : w.length ≤ 60) : Dm.Spec Try.prog 36 [.sl 1 (u8s w)] (· = .sl 1 (i64s (tab w.length (bdT w)))) :=
  spec_of_vc mixed Try.func36 c36 (by rw [show Try.f36.ntmps = _ from Try.ntmps36]; simp) (lengths_vc w hw)
end Go.Proofs.Ytinanpbhbafhcaa
