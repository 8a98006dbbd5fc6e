/-
  border.Find: where a word begins in another one; the law BorderFinds.
-/
import Derived.Test.YtinanpbhbafhcaaBorder
import Derived.Test.YtinanpbhbafhcaaEnds
namespace Go.Proofs.Ytinanpbhbafhcaa
open Go.Dm
set_option linter.unusedSimpArgs false
set_option linter.unnecessarySimpa false
set_option linter.unusedVariables false

/-- The first k bytes of w end the first n of t. -/
def isP (w t : List UInt8) (n k : Nat) : Prop := k ≤ w.length ∧ k ≤ n ∧ ∀ j, j < k → w.getD j 0 = t.getD (n - k + j) 0
theorem isP_zero {w t : List UInt8} {n : Nat} : isP w t n 0 := ⟨by omega, by omega, by omega⟩
theorem isP_B {w t : List UInt8} {n k j : Nat} (h1 : isP w t n k) (h2 : isP w t n j) (h : j < k) : isB w k j := by
  refine ⟨h, fun i hi => ?_⟩
  have a1 := h1.2.1
  have a2 := h2.2.1
  rw [h2.2.2 i hi, h1.2.2 (k - j + i) (by omega)]
  congr 1
  omega
theorem isP_down {w t : List UInt8} {n k j : Nat} (h1 : isP w t n k) (h2 : isB w k j) : isP w t n j := by
  have a1 := h1.1
  have a2 := h1.2.1
  have a3 := h2.1
  refine ⟨by omega, by omega, fun i hi => ?_⟩
  rw [h2.2 i hi, h1.2.2 (k - j + i) (by omega)]
  congr 1
  omega
theorem isP_ext {w t : List UInt8} {n k : Nat} (h : isP w t n k) (hk : k < w.length) (e : w.getD k 0 = t.getD n 0) : isP w t (n + 1) (k + 1) := by
  have a2 := h.2.1
  refine ⟨by omega, by omega, fun j hj => ?_⟩
  by_cases ej : j = k
  · subst ej; rw [e]; congr 1; omega
  · rw [h.2.2 j (by omega)]; congr 1; omega
theorem isP_red {w t : List UInt8} {n k : Nat} (h : isP w t (n + 1) (k + 1)) : isP w t n k ∧ k < w.length ∧ w.getD k 0 = t.getD n 0 := by
  have a1 := h.1
  have a2 := h.2.1
  refine ⟨⟨by omega, by omega, fun j hj => ?_⟩, by omega, ?_⟩
  · rw [h.2.2 j (by omega)]; congr 1; omega
  · rw [h.2.2 k (by omega)]; congr 1; omega
/-- It is the longest one. -/
def isM (w t : List UInt8) (n k : Nat) : Prop := isP w t n k ∧ ∀ j, isP w t n j → j ≤ k
/-- Those that may go on are no longer. -/
def isC (w t : List UInt8) (n k : Nat) : Prop := isP w t n k ∧ ∀ j, isP w t n j → j < w.length → w.getD j 0 = t.getD n 0 → j ≤ k
theorem isC_of {w t : List UInt8} {n k : Nat} (h : isM w t n k) : isC w t n k := ⟨h.1, fun j hj _ _ => h.2 j hj⟩
theorem isC_next {w t : List UInt8} {n k : Nat} (h : isC w t n k) (hk : 0 < k) (hc : k = w.length ∨ ¬ w.getD k 0 = t.getD n 0) : isC w t n (bd w k) := by
  refine ⟨isP_down h.1 (bd_isB hk), fun j hj hl he => ?_⟩
  have h1 := h.2 j hj hl he
  have h2 : j ≠ k := fun e => by subst e; rcases hc with hc | hc
                                 · omega
                                 · exact hc he
  exact bd_max hk (isP_B h.1 hj (by omega))
theorem isM_hit {w t : List UInt8} {n k : Nat} (h : isC w t n k) (hk : k < w.length) (e : w.getD k 0 = t.getD n 0) : isM w t (n + 1) (k + 1) := by
  refine ⟨isP_ext h.1 hk e, fun j hj => ?_⟩
  cases j with
  | zero => omega
  | succ j =>
    obtain ⟨a1, a2, a3⟩ := isP_red hj
    have := h.2 j a1 a2 a3
    omega
theorem isM_miss {w t : List UInt8} {n : Nat} (h : isC w t n 0) (e : ¬ w.getD 0 0 = t.getD n 0) : isM w t (n + 1) 0 := by
  refine ⟨isP_zero, fun j hj => ?_⟩
  cases j with
  | zero => omega
  | succ j =>
    obtain ⟨a1, a2, a3⟩ := isP_red hj
    have := h.2 j a1 a2 a3
    have e0 : j = 0 := by omega
    subst e0
    exact absurd a3 e
theorem occ_P {w t : List UInt8} {s : Nat} (h : s + w.length ≤ t.length) : occ t w s ↔ isP w t (s + w.length) w.length := by
  unfold occ isP
  constructor
  · rintro ⟨_, e⟩
    refine ⟨by omega, by omega, fun j hj => ?_⟩
    rw [show s + w.length - w.length + j = s + j by omega]
    conv => lhs; rw [← e]
    simp [List.getD, List.getElem?_take, hj]
  · rintro ⟨_, _, e⟩
    refine ⟨h, ?_⟩
    apply List.ext_getElem
    · rw [List.length_take, List.length_drop]; omega
    · intro i h1 h2
      have := e i h2
      rw [show s + w.length - w.length + i = s + i by omega] at this
      simp only [List.getD, List.getElem?_eq_getElem h2, List.getElem?_eq_getElem (show s + i < t.length by omega), Option.getD_some] at this
      simp [this]
theorem find_step {w t : List UInt8} {i k : Nat} (hw : 0 < w.length) (hi : i < t.length) (h : isM w t (i + 1) k) : plc t w (i + 2 - w.length) = plc t w (i + 1 - w.length) ++ if k = w.length then [((i : Int) + 1 - k)] else [] := by
  by_cases e : w.length ≤ i + 1
  · rw [show i + 2 - w.length = (i + 1 - w.length) + 1 by omega, plc_succ]
    have ho := occ_P (w := w) (t := t) (s := i + 1 - w.length) (by omega)
    rw [show i + 1 - w.length + w.length = i + 1 by omega] at ho
    by_cases hk : k = w.length
    · subst hk
      rw [if_pos (ho.2 h.1), if_pos rfl]
      congr 2
      omega
    · rw [if_neg hk, if_neg]
      intro hh
      have := h.2 _ (ho.1 hh)
      have := h.1.1
      omega
  · rw [show i + 2 - w.length = 0 by omega, show i + 1 - w.length = 0 by omega, if_neg (by have := h.1.2.1; omega), List.append_nil]
set_option maxRecDepth 10000 in
set_option maxHeartbeats 4000000 in
theorem find_spec (w t : List UInt8) (hw : w.length ≤ 60 ∧ t.length ≤ 60) : Dm.Spec Try.prog 23 [.sl 1 (u8s w), .sl 1 (u8s t)] (· = .tu [.sl 1 (i64s (plc t w (t.length + 1))), .v (.int .i64 0)]) := by
  refine spec_of_vc mixed Try.func23 c23 (by rw [show Try.f23.ntmps = _ from Try.ntmps23]; simp) ?_
  unfold m23 r23
  repeat' first | (refine Br.dec (fun h => ?_) (fun h => ?_) <;> try (exfalso; omega)) | (refine Br.eqi (fun h => ?_) (fun h => ?_) <;> try (exfalso; omega)) | (simp (disch := (first | omega | (simp only [List.length_cons, List.length_nil, List.length_append, List.length_map, List.length_replicate, List.length_take, List.length_drop, List.length_set, tab_length, tabD_len, i64s_len, bls_len, u8s_len, tbl_len, rows_len]; first | done | omega))) only [↓va0, ↓va1, ↓va2, vb0, vb1, vb2, vb3, vb4, vb5, vb6, vb7, vb8, vb9, vz0, vz1, vy0, vx0, ↓reduceIte, Nat.reduceBEq, Nat.reduceEqDiff, Nat.reduceLT, Nat.reduceLeDiff, Nat.reduceAdd, Nat.reduceMul, Nat.reduceSub, reduceCtorEq, Int.reduceToNat]) | (refine Br.mk (fun h => ?_) (fun h => ?_)) | (refine BrN.mk (fun h => ?_) ?_)
  refine CallVC.eqo (large2_spec w t hw) (by simp (disch := (first | omega | (simp only [List.length_cons, List.length_nil, List.length_append, List.length_map, List.length_replicate, List.length_take, List.length_drop, List.length_set, tab_length, tabD_len, i64s_len, bls_len, u8s_len, tbl_len, rows_len]; first | done | omega))) only [↓va0, ↓va1, ↓va2, vb0, vb1, vb2, vb3, vb4, vb5, vb6, vb7, vb8, vb9, vz0, vz1, vy0, vx0, ↓reduceIte, Nat.reduceBEq, Nat.reduceEqDiff, Nat.reduceLT, Nat.reduceLeDiff, Nat.reduceAdd, Nat.reduceMul, Nat.reduceSub, reduceCtorEq, Int.reduceToNat]) ?_
  repeat' first | (refine Br.dec (fun h => ?_) (fun h => ?_) <;> try (exfalso; omega)) | (refine Br.eqi (fun h => ?_) (fun h => ?_) <;> try (exfalso; omega)) | (simp (disch := (first | omega | (simp only [List.length_cons, List.length_nil, List.length_append, List.length_map, List.length_replicate, List.length_take, List.length_drop, List.length_set, tab_length, tabD_len, i64s_len, bls_len, u8s_len, tbl_len, rows_len]; first | done | omega))) only [↓va0, ↓va1, ↓va2, vb0, vb1, vb2, vb3, vb4, vb5, vb6, vb7, vb8, vb9, vz0, vz1, vy0, vx0, ↓reduceIte, Nat.reduceBEq, Nat.reduceEqDiff, Nat.reduceLT, Nat.reduceLeDiff, Nat.reduceAdd, Nat.reduceMul, Nat.reduceSub, reduceCtorEq, Int.reduceToNat]) | (refine Br.mk (fun h => ?_) (fun h => ?_)) | (refine BrN.mk (fun h => ?_) ?_)
  · have hw0 : w = [] := List.eq_nil_of_length_eq_zero (by omega)
    have hall : ∀ k, k ≤ t.length + 1 → plc t w k = tab k fun q => (q : Int) := by
      intro k
      induction k with
      | zero => intro _; rfl
      | succ k ih =>
        intro hk
        rw [plc_succ, if_pos ⟨by rw [hw0]; simp; omega, by rw [hw0]; simp⟩, ih (by omega), tab_succ]
    refine LoopVC.mk (X := Nat) (fun i => [(7, .ref 2 1 0 i), (26, iv .i64 i)]) (fun i => [(2, ⟨1, i64s (tab i fun q => (q : Int)), true, false, .arr⟩)]) (fun i => t.length + 1 - i) (fun i => i ≤ t.length + 1) 0 (by omega) ?_ ?_
    · (simp (disch := (first | omega | (simp only [List.length_cons, List.length_nil, List.length_append, List.length_map, List.length_replicate, List.length_take, List.length_drop, List.length_set, tab_length, tabD_len, i64s_len, bls_len, u8s_len, tbl_len, rows_len]; first | done | omega))) only [Fits_u, Fits_m, Fits_nil, List.length_append, ↓va0, ↓va1, ↓va2, vb0, vb1, vb2, vb3, vb4, vb5, vb6, vb7, vb8, vb9, vz0, vz1, vy0, vx0, ↓reduceIte, Nat.reduceBEq, Nat.reduceEqDiff, Nat.reduceLT, Nat.reduceLeDiff, Nat.reduceAdd, Nat.reduceMul, Nat.reduceSub, reduceCtorEq, Int.reduceToNat] <;> (repeat' first | rfl | apply And.intro))
    · rintro i hi
      repeat' first | (refine Br.dec (fun h => ?_) (fun h => ?_) <;> try (exfalso; omega)) | (refine Br.eqi (fun h => ?_) (fun h => ?_) <;> try (exfalso; omega)) | (simp (disch := (first | omega | (simp only [List.length_cons, List.length_nil, List.length_append, List.length_map, List.length_replicate, List.length_take, List.length_drop, List.length_set, tab_length, tabD_len, i64s_len, bls_len, u8s_len, tbl_len, rows_len]; first | done | omega))) only [↓va0, ↓va1, ↓va2, vb0, vb1, vb2, vb3, vb4, vb5, vb6, vb7, vb8, vb9, vz0, vz1, vy0, vx0, ↓reduceIte, Nat.reduceBEq, Nat.reduceEqDiff, Nat.reduceLT, Nat.reduceLeDiff, Nat.reduceAdd, Nat.reduceMul, Nat.reduceSub, reduceCtorEq, Int.reduceToNat]) | (refine Br.mk (fun h => ?_) (fun h => ?_)) | (refine BrN.mk (fun h => ?_) ?_)
      · refine loopK.mk (i + 1) (by simp (disch := (first | omega | (simp only [List.length_cons, List.length_nil, List.length_append, List.length_map, List.length_replicate, List.length_take, List.length_drop, List.length_set, tab_length, tabD_len, i64s_len, bls_len, u8s_len, tbl_len, rows_len]; first | done | omega))) only [↓va0, ↓va1, ↓va2, vb0, vb1, vb2, vb3, vb4, vb5, vb6, vb7, vb8, vb9, vz0, vz1, vy0, vx0, ↓reduceIte, Nat.reduceBEq, Nat.reduceEqDiff, Nat.reduceLT, Nat.reduceLeDiff, Nat.reduceAdd, Nat.reduceMul, Nat.reduceSub, reduceCtorEq, Int.reduceToNat]) (by omega) (by omega) ?_
        (simp (disch := (first | omega | (simp only [List.length_cons, List.length_nil, List.length_append, List.length_map, List.length_replicate, List.length_take, List.length_drop, List.length_set, tab_length, tabD_len, i64s_len, bls_len, u8s_len, tbl_len, rows_len]; first | done | omega))) only [Fits_u, Fits_m, Fits_nil, List.length_append, ↓va0, ↓va1, ↓va2, vb0, vb1, vb2, vb3, vb4, vb5, vb6, vb7, vb8, vb9, vz0, vz1, vy0, vx0, ↓reduceIte, Nat.reduceBEq, Nat.reduceEqDiff, Nat.reduceLT, Nat.reduceLeDiff, Nat.reduceAdd, Nat.reduceMul, Nat.reduceSub, reduceCtorEq, Int.reduceToNat] <;> (repeat' first | rfl | apply And.intro))
        rw [tab_succ]
      · refine fin_mk ?_
        rw [hall _ (by omega), show i = t.length + 1 by omega]
  · refine CallVC.eq (lengths_spec w (by omega)) ?_
    repeat' first | (refine Br.dec (fun h => ?_) (fun h => ?_) <;> try (exfalso; omega)) | (refine Br.eqi (fun h => ?_) (fun h => ?_) <;> try (exfalso; omega)) | (simp (disch := (first | omega | (simp only [List.length_cons, List.length_nil, List.length_append, List.length_map, List.length_replicate, List.length_take, List.length_drop, List.length_set, tab_length, tabD_len, i64s_len, bls_len, u8s_len, tbl_len, rows_len]; first | done | omega))) only [↓va0, ↓va1, ↓va2, vb0, vb1, vb2, vb3, vb4, vb5, vb6, vb7, vb8, vb9, vz0, vz1, vy0, vx0, ↓reduceIte, Nat.reduceBEq, Nat.reduceEqDiff, Nat.reduceLT, Nat.reduceLeDiff, Nat.reduceAdd, Nat.reduceMul, Nat.reduceSub, reduceCtorEq, Int.reduceToNat]) | (refine Br.mk (fun h => ?_) (fun h => ?_)) | (refine BrN.mk (fun h => ?_) ?_)
    refine LoopVC.mk (X := Nat × Nat) (fun x => [(7, .ref 2 1 0 (plc t w (x.1 + 1 - w.length)).length), (10, iv .i64 x.2), (39, iv .i64 x.1)]) (fun x => [(2, ⟨1, i64s (plc t w (x.1 + 1 - w.length)), true, false, .arr⟩)]) (fun x => t.length - x.1) (fun x => x.1 ≤ t.length ∧ isM w t x.1 x.2) (0, 0) ⟨by simp, isP_zero, fun j hj => hj.2.1⟩ ?_ ?_
    · (simp (disch := (first | omega | (simp only [List.length_cons, List.length_nil, List.length_append, List.length_map, List.length_replicate, List.length_take, List.length_drop, List.length_set, tab_length, tabD_len, i64s_len, bls_len, u8s_len, tbl_len, rows_len]; first | done | omega))) only [Fits_u, Fits_m, Fits_nil, List.length_append, ↓va0, ↓va1, ↓va2, vb0, vb1, vb2, vb3, vb4, vb5, vb6, vb7, vb8, vb9, vz0, vz1, vy0, vx0, ↓reduceIte, Nat.reduceBEq, Nat.reduceEqDiff, Nat.reduceLT, Nat.reduceLeDiff, Nat.reduceAdd, Nat.reduceMul, Nat.reduceSub, reduceCtorEq, Int.reduceToNat] <;> (repeat' first | rfl | apply And.intro))
      · rw [show 0 + 1 - w.length = 0 by omega]; rfl
      · rw [show 0 + 1 - w.length = 0 by omega]; rfl
    · rintro ⟨i, k⟩ ⟨h1, h2⟩
      simp only at h1 h2
      have hkw := h2.1.1
      have hpl := @plc_len t w (i + 1 - w.length)
      repeat' first | (refine Br.dec (fun h => ?_) (fun h => ?_) <;> try (exfalso; omega)) | (refine Br.eqi (fun h => ?_) (fun h => ?_) <;> try (exfalso; omega)) | (simp (disch := (first | omega | (simp only [List.length_cons, List.length_nil, List.length_append, List.length_map, List.length_replicate, List.length_take, List.length_drop, List.length_set, tab_length, tabD_len, i64s_len, bls_len, u8s_len, tbl_len, rows_len]; first | done | omega))) only [↓va0, ↓va1, ↓va2, vb0, vb1, vb2, vb3, vb4, vb5, vb6, vb7, vb8, vb9, vz0, vz1, vy0, vx0, ↓reduceIte, Nat.reduceBEq, Nat.reduceEqDiff, Nat.reduceLT, Nat.reduceLeDiff, Nat.reduceAdd, Nat.reduceMul, Nat.reduceSub, reduceCtorEq, Int.reduceToNat]) | (refine Br.mk (fun h => ?_) (fun h => ?_)) | (refine BrN.mk (fun h => ?_) ?_)
      · refine LoopVC.mk (X := Nat) (fun k => [(7, .ref 2 1 0 (plc t w (i + 1 - w.length)).length), (10, iv .i64 k)]) (fun k => [(2, ⟨1, i64s (plc t w (i + 1 - w.length)), true, false, .arr⟩)]) (fun k => k) (fun k => isC w t i k) k (isC_of h2) ?_ ?_
        · (simp (disch := (first | omega | (simp only [List.length_cons, List.length_nil, List.length_append, List.length_map, List.length_replicate, List.length_take, List.length_drop, List.length_set, tab_length, tabD_len, i64s_len, bls_len, u8s_len, tbl_len, rows_len]; first | done | omega))) only [Fits_u, Fits_m, Fits_nil, List.length_append, ↓va0, ↓va1, ↓va2, vb0, vb1, vb2, vb3, vb4, vb5, vb6, vb7, vb8, vb9, vz0, vz1, vy0, vx0, ↓reduceIte, Nat.reduceBEq, Nat.reduceEqDiff, Nat.reduceLT, Nat.reduceLeDiff, Nat.reduceAdd, Nat.reduceMul, Nat.reduceSub, reduceCtorEq, Int.reduceToNat] <;> (repeat' first | rfl | apply And.intro))
        · rintro q hq
          have hqw := hq.1.1
          have hqi := hq.1.2.1
          have hbT : 0 < q → bdT w (q - 1) = (bd w q : Int) := fun h => by rw [bdT, show q - 1 + 1 = q by omega]
          have hbd : 0 < q → bd w q < q := fun h => (bd_isB h).1
          repeat' first | (refine Br.dec (fun h => ?_) (fun h => ?_) <;> try (exfalso; omega)) | (refine Br.eqi (fun h => ?_) (fun h => ?_) <;> try (exfalso; omega)) | (simp (disch := (first | omega | (simp only [List.length_cons, List.length_nil, List.length_append, List.length_map, List.length_replicate, List.length_take, List.length_drop, List.length_set, tab_length, tabD_len, i64s_len, bls_len, u8s_len, tbl_len, rows_len]; first | done | omega))) only [↓va0, ↓va1, ↓va2, vb0, vb1, vb2, vb3, vb4, vb5, vb6, vb7, vb8, vb9, vz0, vz1, vy0, vx0, ↓reduceIte, Nat.reduceBEq, Nat.reduceEqDiff, Nat.reduceLT, Nat.reduceLeDiff, Nat.reduceAdd, Nat.reduceMul, Nat.reduceSub, reduceCtorEq, Int.reduceToNat]) | (refine Br.mk (fun h => ?_) (fun h => ?_)) | (refine BrN.mk (fun h => ?_) ?_)
          · rw [hbT (by omega)]
            exact loopK.mk (bd w q) (by simp (disch := (first | omega | (simp only [List.length_cons, List.length_nil, List.length_append, List.length_map, List.length_replicate, List.length_take, List.length_drop, List.length_set, tab_length, tabD_len, i64s_len, bls_len, u8s_len, tbl_len, rows_len]; first | done | omega))) only [↓va0, ↓va1, ↓va2, vb0, vb1, vb2, vb3, vb4, vb5, vb6, vb7, vb8, vb9, vz0, vz1, vy0, vx0, ↓reduceIte, Nat.reduceBEq, Nat.reduceEqDiff, Nat.reduceLT, Nat.reduceLeDiff, Nat.reduceAdd, Nat.reduceMul, Nat.reduceSub, reduceCtorEq, Int.reduceToNat]) (isC_next hq (by omega) (.inl (by omega))) (hbd (by omega)) (by (simp (disch := (first | omega | (simp only [List.length_cons, List.length_nil, List.length_append, List.length_map, List.length_replicate, List.length_take, List.length_drop, List.length_set, tab_length, tabD_len, i64s_len, bls_len, u8s_len, tbl_len, rows_len]; first | done | omega))) only [Fits_u, Fits_m, Fits_nil, List.length_append, ↓va0, ↓va1, ↓va2, vb0, vb1, vb2, vb3, vb4, vb5, vb6, vb7, vb8, vb9, vz0, vz1, vy0, vx0, ↓reduceIte, Nat.reduceBEq, Nat.reduceEqDiff, Nat.reduceLT, Nat.reduceLeDiff, Nat.reduceAdd, Nat.reduceMul, Nat.reduceSub, reduceCtorEq, Int.reduceToNat] <;> (repeat' first | rfl | apply And.intro)))
          · have hM := isM_hit hq (by omega) (u8_inj (by assumption))
            have hst := find_step (by omega) (by omega) hM
            rw [if_pos (by omega)] at hst
            refine loopK.mk (i + 1, q + 1) (by simp (disch := (first | omega | (simp only [List.length_cons, List.length_nil, List.length_append, List.length_map, List.length_replicate, List.length_take, List.length_drop, List.length_set, tab_length, tabD_len, i64s_len, bls_len, u8s_len, tbl_len, rows_len]; first | done | omega))) only [↓va0, ↓va1, ↓va2, vb0, vb1, vb2, vb3, vb4, vb5, vb6, vb7, vb8, vb9, vz0, vz1, vy0, vx0, ↓reduceIte, Nat.reduceBEq, Nat.reduceEqDiff, Nat.reduceLT, Nat.reduceLeDiff, Nat.reduceAdd, Nat.reduceMul, Nat.reduceSub, reduceCtorEq, Int.reduceToNat]) ⟨by simp only; omega, hM⟩ (by simp only; omega) ?_
            simp only
            rw [show i + 1 + 1 - w.length = i + 2 - w.length by omega, hst]
            (simp (disch := (first | omega | (simp only [List.length_cons, List.length_nil, List.length_append, List.length_map, List.length_replicate, List.length_take, List.length_drop, List.length_set, tab_length, tabD_len, i64s_len, bls_len, u8s_len, tbl_len, rows_len]; first | done | omega))) only [Fits_u, Fits_m, Fits_nil, List.length_append, ↓va0, ↓va1, ↓va2, vb0, vb1, vb2, vb3, vb4, vb5, vb6, vb7, vb8, vb9, vz0, vz1, vy0, vx0, ↓reduceIte, Nat.reduceBEq, Nat.reduceEqDiff, Nat.reduceLT, Nat.reduceLeDiff, Nat.reduceAdd, Nat.reduceMul, Nat.reduceSub, reduceCtorEq, Int.reduceToNat] <;> (repeat' first | rfl | apply And.intro))
          · have hM := isM_hit hq (by omega) (u8_inj (by assumption))
            have hst := find_step (by omega) (by omega) hM
            rw [if_neg (by omega), List.append_nil] at hst
            refine loopK.mk (i + 1, q + 1) (by simp (disch := (first | omega | (simp only [List.length_cons, List.length_nil, List.length_append, List.length_map, List.length_replicate, List.length_take, List.length_drop, List.length_set, tab_length, tabD_len, i64s_len, bls_len, u8s_len, tbl_len, rows_len]; first | done | omega))) only [↓va0, ↓va1, ↓va2, vb0, vb1, vb2, vb3, vb4, vb5, vb6, vb7, vb8, vb9, vz0, vz1, vy0, vx0, ↓reduceIte, Nat.reduceBEq, Nat.reduceEqDiff, Nat.reduceLT, Nat.reduceLeDiff, Nat.reduceAdd, Nat.reduceMul, Nat.reduceSub, reduceCtorEq, Int.reduceToNat]) ⟨by simp only; omega, hM⟩ (by simp only; omega) ?_
            simp only
            rw [show i + 1 + 1 - w.length = i + 2 - w.length by omega, hst]
            (simp (disch := (first | omega | (simp only [List.length_cons, List.length_nil, List.length_append, List.length_map, List.length_replicate, List.length_take, List.length_drop, List.length_set, tab_length, tabD_len, i64s_len, bls_len, u8s_len, tbl_len, rows_len]; first | done | omega))) only [Fits_u, Fits_m, Fits_nil, List.length_append, ↓va0, ↓va1, ↓va2, vb0, vb1, vb2, vb3, vb4, vb5, vb6, vb7, vb8, vb9, vz0, vz1, vy0, vx0, ↓reduceIte, Nat.reduceBEq, Nat.reduceEqDiff, Nat.reduceLT, Nat.reduceLeDiff, Nat.reduceAdd, Nat.reduceMul, Nat.reduceSub, reduceCtorEq, Int.reduceToNat] <;> (repeat' first | rfl | apply And.intro))
          · rw [hbT (by omega)]
            exact loopK.mk (bd w q) (by simp (disch := (first | omega | (simp only [List.length_cons, List.length_nil, List.length_append, List.length_map, List.length_replicate, List.length_take, List.length_drop, List.length_set, tab_length, tabD_len, i64s_len, bls_len, u8s_len, tbl_len, rows_len]; first | done | omega))) only [↓va0, ↓va1, ↓va2, vb0, vb1, vb2, vb3, vb4, vb5, vb6, vb7, vb8, vb9, vz0, vz1, vy0, vx0, ↓reduceIte, Nat.reduceBEq, Nat.reduceEqDiff, Nat.reduceLT, Nat.reduceLeDiff, Nat.reduceAdd, Nat.reduceMul, Nat.reduceSub, reduceCtorEq, Int.reduceToNat]) (isC_next hq (by omega) (.inr (u8_ne (by assumption)))) (hbd (by omega)) (by (simp (disch := (first | omega | (simp only [List.length_cons, List.length_nil, List.length_append, List.length_map, List.length_replicate, List.length_take, List.length_drop, List.length_set, tab_length, tabD_len, i64s_len, bls_len, u8s_len, tbl_len, rows_len]; first | done | omega))) only [Fits_u, Fits_m, Fits_nil, List.length_append, ↓va0, ↓va1, ↓va2, vb0, vb1, vb2, vb3, vb4, vb5, vb6, vb7, vb8, vb9, vz0, vz1, vy0, vx0, ↓reduceIte, Nat.reduceBEq, Nat.reduceEqDiff, Nat.reduceLT, Nat.reduceLeDiff, Nat.reduceAdd, Nat.reduceMul, Nat.reduceSub, reduceCtorEq, Int.reduceToNat] <;> (repeat' first | rfl | apply And.intro)))
          · have hM := isM_hit hq (by omega) (u8_inj (by assumption))
            have hst := find_step (by omega) (by omega) hM
            rw [if_pos (by omega)] at hst
            refine loopK.mk (i + 1, q + 1) (by simp (disch := (first | omega | (simp only [List.length_cons, List.length_nil, List.length_append, List.length_map, List.length_replicate, List.length_take, List.length_drop, List.length_set, tab_length, tabD_len, i64s_len, bls_len, u8s_len, tbl_len, rows_len]; first | done | omega))) only [↓va0, ↓va1, ↓va2, vb0, vb1, vb2, vb3, vb4, vb5, vb6, vb7, vb8, vb9, vz0, vz1, vy0, vx0, ↓reduceIte, Nat.reduceBEq, Nat.reduceEqDiff, Nat.reduceLT, Nat.reduceLeDiff, Nat.reduceAdd, Nat.reduceMul, Nat.reduceSub, reduceCtorEq, Int.reduceToNat]) ⟨by simp only; omega, hM⟩ (by simp only; omega) ?_
            simp only
            rw [show i + 1 + 1 - w.length = i + 2 - w.length by omega, hst]
            (simp (disch := (first | omega | (simp only [List.length_cons, List.length_nil, List.length_append, List.length_map, List.length_replicate, List.length_take, List.length_drop, List.length_set, tab_length, tabD_len, i64s_len, bls_len, u8s_len, tbl_len, rows_len]; first | done | omega))) only [Fits_u, Fits_m, Fits_nil, List.length_append, ↓va0, ↓va1, ↓va2, vb0, vb1, vb2, vb3, vb4, vb5, vb6, vb7, vb8, vb9, vz0, vz1, vy0, vx0, ↓reduceIte, Nat.reduceBEq, Nat.reduceEqDiff, Nat.reduceLT, Nat.reduceLeDiff, Nat.reduceAdd, Nat.reduceMul, Nat.reduceSub, reduceCtorEq, Int.reduceToNat] <;> (repeat' first | rfl | apply And.intro))
          · have hM := isM_hit hq (by omega) (u8_inj (by assumption))
            have hst := find_step (by omega) (by omega) hM
            rw [if_neg (by omega), List.append_nil] at hst
            refine loopK.mk (i + 1, q + 1) (by simp (disch := (first | omega | (simp only [List.length_cons, List.length_nil, List.length_append, List.length_map, List.length_replicate, List.length_take, List.length_drop, List.length_set, tab_length, tabD_len, i64s_len, bls_len, u8s_len, tbl_len, rows_len]; first | done | omega))) only [↓va0, ↓va1, ↓va2, vb0, vb1, vb2, vb3, vb4, vb5, vb6, vb7, vb8, vb9, vz0, vz1, vy0, vx0, ↓reduceIte, Nat.reduceBEq, Nat.reduceEqDiff, Nat.reduceLT, Nat.reduceLeDiff, Nat.reduceAdd, Nat.reduceMul, Nat.reduceSub, reduceCtorEq, Int.reduceToNat]) ⟨by simp only; omega, hM⟩ (by simp only; omega) ?_
            simp only
            rw [show i + 1 + 1 - w.length = i + 2 - w.length by omega, hst]
            (simp (disch := (first | omega | (simp only [List.length_cons, List.length_nil, List.length_append, List.length_map, List.length_replicate, List.length_take, List.length_drop, List.length_set, tab_length, tabD_len, i64s_len, bls_len, u8s_len, tbl_len, rows_len]; first | done | omega))) only [Fits_u, Fits_m, Fits_nil, List.length_append, ↓va0, ↓va1, ↓va2, vb0, vb1, vb2, vb3, vb4, vb5, vb6, vb7, vb8, vb9, vz0, vz1, vy0, vx0, ↓reduceIte, Nat.reduceBEq, Nat.reduceEqDiff, Nat.reduceLT, Nat.reduceLeDiff, Nat.reduceAdd, Nat.reduceMul, Nat.reduceSub, reduceCtorEq, Int.reduceToNat] <;> (repeat' first | rfl | apply And.intro))
          · have e0 : q = 0 := by omega
            subst e0
            have hM := isM_miss hq (u8_ne (by assumption))
            have hst := find_step (by omega) (by omega) hM
            rw [if_neg (by omega), List.append_nil] at hst
            refine loopK.mk (i + 1, 0) (by simp (disch := (first | omega | (simp only [List.length_cons, List.length_nil, List.length_append, List.length_map, List.length_replicate, List.length_take, List.length_drop, List.length_set, tab_length, tabD_len, i64s_len, bls_len, u8s_len, tbl_len, rows_len]; first | done | omega))) only [↓va0, ↓va1, ↓va2, vb0, vb1, vb2, vb3, vb4, vb5, vb6, vb7, vb8, vb9, vz0, vz1, vy0, vx0, ↓reduceIte, Nat.reduceBEq, Nat.reduceEqDiff, Nat.reduceLT, Nat.reduceLeDiff, Nat.reduceAdd, Nat.reduceMul, Nat.reduceSub, reduceCtorEq, Int.reduceToNat]) ⟨by simp only; omega, hM⟩ (by simp only; omega) ?_
            simp only
            rw [show i + 1 + 1 - w.length = i + 2 - w.length by omega, hst]
            (simp (disch := (first | omega | (simp only [List.length_cons, List.length_nil, List.length_append, List.length_map, List.length_replicate, List.length_take, List.length_drop, List.length_set, tab_length, tabD_len, i64s_len, bls_len, u8s_len, tbl_len, rows_len]; first | done | omega))) only [Fits_u, Fits_m, Fits_nil, List.length_append, ↓va0, ↓va1, ↓va2, vb0, vb1, vb2, vb3, vb4, vb5, vb6, vb7, vb8, vb9, vz0, vz1, vy0, vx0, ↓reduceIte, Nat.reduceBEq, Nat.reduceEqDiff, Nat.reduceLT, Nat.reduceLeDiff, Nat.reduceAdd, Nat.reduceMul, Nat.reduceSub, reduceCtorEq, Int.reduceToNat] <;> (repeat' first | rfl | apply And.intro))
      · refine fin_mk ?_
        have e : i = t.length := by omega
        subst e
        rw [plc_ext (i := t.length + 1 - w.length) (k := t.length + 1) (by omega) fun j hj ho => by have := ho.1; omega]
set_option maxRecDepth 10000 in
set_option maxHeartbeats 4000000 in
theorem find_big (w t : List UInt8) (hw : 60 < w.length ∨ 60 < t.length) : Dm.Spec Try.prog 23 [.sl 1 (u8s w), .sl 1 (u8s t)] (· = .tu [.sl 1 [], .v (.int .i64 1)]) := by
  refine spec_of_vc mixed Try.func23 c23 (by rw [show Try.f23.ntmps = _ from Try.ntmps23]; simp) ?_
  unfold m23 r23
  repeat' first | (refine Br.dec (fun h => ?_) (fun h => ?_) <;> try (exfalso; omega)) | (refine Br.eqi (fun h => ?_) (fun h => ?_) <;> try (exfalso; omega)) | (simp (disch := (first | omega | (simp only [List.length_cons, List.length_nil, List.length_append, List.length_map, List.length_replicate, List.length_take, List.length_drop, List.length_set, tab_length, tabD_len, i64s_len, bls_len, u8s_len, tbl_len, rows_len]; first | done | omega))) only [↓va0, ↓va1, ↓va2, vb0, vb1, vb2, vb3, vb4, vb5, vb6, vb7, vb8, vb9, vz0, vz1, vy0, vx0, ↓reduceIte, Nat.reduceBEq, Nat.reduceEqDiff, Nat.reduceLT, Nat.reduceLeDiff, Nat.reduceAdd, Nat.reduceMul, Nat.reduceSub, reduceCtorEq, Int.reduceToNat]) | (refine Br.mk (fun h => ?_) (fun h => ?_)) | (refine BrN.mk (fun h => ?_) ?_)
  refine CallVC.eqo (large2_big w t hw) (by simp (disch := (first | omega | (simp only [List.length_cons, List.length_nil, List.length_append, List.length_map, List.length_replicate, List.length_take, List.length_drop, List.length_set, tab_length, tabD_len, i64s_len, bls_len, u8s_len, tbl_len, rows_len]; first | done | omega))) only [↓va0, ↓va1, ↓va2, vb0, vb1, vb2, vb3, vb4, vb5, vb6, vb7, vb8, vb9, vz0, vz1, vy0, vx0, ↓reduceIte, Nat.reduceBEq, Nat.reduceEqDiff, Nat.reduceLT, Nat.reduceLeDiff, Nat.reduceAdd, Nat.reduceMul, Nat.reduceSub, reduceCtorEq, Int.reduceToNat]) ?_
  repeat' first | (refine Br.dec (fun h => ?_) (fun h => ?_) <;> try (exfalso; omega)) | (refine Br.eqi (fun h => ?_) (fun h => ?_) <;> try (exfalso; omega)) | (simp (disch := (first | omega | (simp only [List.length_cons, List.length_nil, List.length_append, List.length_map, List.length_replicate, List.length_take, List.length_drop, List.length_set, tab_length, tabD_len, i64s_len, bls_len, u8s_len, tbl_len, rows_len]; first | done | omega))) only [↓va0, ↓va1, ↓va2, vb0, vb1, vb2, vb3, vb4, vb5, vb6, vb7, vb8, vb9, vz0, vz1, vy0, vx0, ↓reduceIte, Nat.reduceBEq, Nat.reduceEqDiff, Nat.reduceLT, Nat.reduceLeDiff, Nat.reduceAdd, Nat.reduceMul, Nat.reduceSub, reduceCtorEq, Int.reduceToNat]) | (refine Br.mk (fun h => ?_) (fun h => ?_)) | (refine BrN.mk (fun h => ?_) ?_)
  exact fin_mk rfl
set_option maxRecDepth 10000 in
set_option maxHeartbeats 4000000 in
theorem borderFinds_spec (w : List UInt8) (hu : okL (fun _ => True) w) (t : List UInt8) (hv : okL (fun _ => True) t) : Dm.Spec Try.prog 8 [.sl 1 (u8s w), .sl 1 (u8s t)] (· = .v (.bool true)) := by
  refine spec_of_vc mixed Try.func8 c8 (by rw [show Try.f8.ntmps = _ from Try.ntmps8]; simp) ?_
  unfold m8 r8
  by_cases hw : 60 < w.length ∨ 60 < t.length
  · repeat' first | (refine Br.dec (fun h => ?_) (fun h => ?_) <;> try (exfalso; omega)) | (refine Br.eqi (fun h => ?_) (fun h => ?_) <;> try (exfalso; omega)) | (simp (disch := (first | omega | (simp only [List.length_cons, List.length_nil, List.length_append, List.length_map, List.length_replicate, List.length_take, List.length_drop, List.length_set, tab_length, tabD_len, i64s_len, bls_len, u8s_len, tbl_len, rows_len]; first | done | omega))) only [↓va0, ↓va1, ↓va2, vb0, vb1, vb2, vb3, vb4, vb5, vb6, vb7, vb8, vb9, vz0, vz1, vy0, vx0, ↓reduceIte, Nat.reduceBEq, Nat.reduceEqDiff, Nat.reduceLT, Nat.reduceLeDiff, Nat.reduceAdd, Nat.reduceMul, Nat.reduceSub, reduceCtorEq, Int.reduceToNat]) | (refine Br.mk (fun h => ?_) (fun h => ?_)) | (refine BrN.mk (fun h => ?_) ?_)
    refine CallVC.eq (find_big w t hw) ?_
    rcases hw with h | h
    · repeat' first | (refine Br.dec (fun h => ?_) (fun h => ?_) <;> try (exfalso; omega)) | (refine Br.eqi (fun h => ?_) (fun h => ?_) <;> try (exfalso; omega)) | (simp (disch := (first | omega | (simp only [List.length_cons, List.length_nil, List.length_append, List.length_map, List.length_replicate, List.length_take, List.length_drop, List.length_set, tab_length, tabD_len, i64s_len, bls_len, u8s_len, tbl_len, rows_len]; first | done | omega))) only [↓va0, ↓va1, ↓va2, vb0, vb1, vb2, vb3, vb4, vb5, vb6, vb7, vb8, vb9, vz0, vz1, vy0, vx0, ↓reduceIte, Nat.reduceBEq, Nat.reduceEqDiff, Nat.reduceLT, Nat.reduceLeDiff, Nat.reduceAdd, Nat.reduceMul, Nat.reduceSub, reduceCtorEq, Int.reduceToNat]) | (refine Br.mk (fun h => ?_) (fun h => ?_)) | (refine BrN.mk (fun h => ?_) ?_)
      exact fin_mk rfl
    · repeat' first | (refine Br.dec (fun h => ?_) (fun h => ?_) <;> try (exfalso; omega)) | (refine Br.eqi (fun h => ?_) (fun h => ?_) <;> try (exfalso; omega)) | (simp (disch := (first | omega | (simp only [List.length_cons, List.length_nil, List.length_append, List.length_map, List.length_replicate, List.length_take, List.length_drop, List.length_set, tab_length, tabD_len, i64s_len, bls_len, u8s_len, tbl_len, rows_len]; first | done | omega))) only [↓va0, ↓va1, ↓va2, vb0, vb1, vb2, vb3, vb4, vb5, vb6, vb7, vb8, vb9, vz0, vz1, vy0, vx0, ↓reduceIte, Nat.reduceBEq, Nat.reduceEqDiff, Nat.reduceLT, Nat.reduceLeDiff, Nat.reduceAdd, Nat.reduceMul, Nat.reduceSub, reduceCtorEq, Int.reduceToNat]) | (refine Br.mk (fun h => ?_) (fun h => ?_)) | (refine BrN.mk (fun h => ?_) ?_)
      all_goals exact fin_mk rfl
  · have hp := @plc_len t w (t.length + 1)
    repeat' first | (refine Br.dec (fun h => ?_) (fun h => ?_) <;> try (exfalso; omega)) | (refine Br.eqi (fun h => ?_) (fun h => ?_) <;> try (exfalso; omega)) | (simp (disch := (first | omega | (simp only [List.length_cons, List.length_nil, List.length_append, List.length_map, List.length_replicate, List.length_take, List.length_drop, List.length_set, tab_length, tabD_len, i64s_len, bls_len, u8s_len, tbl_len, rows_len]; first | done | omega))) only [↓va0, ↓va1, ↓va2, vb0, vb1, vb2, vb3, vb4, vb5, vb6, vb7, vb8, vb9, vz0, vz1, vy0, vx0, ↓reduceIte, Nat.reduceBEq, Nat.reduceEqDiff, Nat.reduceLT, Nat.reduceLeDiff, Nat.reduceAdd, Nat.reduceMul, Nat.reduceSub, reduceCtorEq, Int.reduceToNat]) | (refine Br.mk (fun h => ?_) (fun h => ?_)) | (refine BrN.mk (fun h => ?_) ?_)
    refine CallVC.eq (find_spec w t (by omega)) ?_
    repeat' first | (refine Br.dec (fun h => ?_) (fun h => ?_) <;> try (exfalso; omega)) | (refine Br.eqi (fun h => ?_) (fun h => ?_) <;> try (exfalso; omega)) | (simp (disch := (first | omega | (simp only [List.length_cons, List.length_nil, List.length_append, List.length_map, List.length_replicate, List.length_take, List.length_drop, List.length_set, tab_length, tabD_len, i64s_len, bls_len, u8s_len, tbl_len, rows_len]; first | done | omega))) only [↓va0, ↓va1, ↓va2, vb0, vb1, vb2, vb3, vb4, vb5, vb6, vb7, vb8, vb9, vz0, vz1, vy0, vx0, ↓reduceIte, Nat.reduceBEq, Nat.reduceEqDiff, Nat.reduceLT, Nat.reduceLeDiff, Nat.reduceAdd, Nat.reduceMul, Nat.reduceSub, reduceCtorEq, Int.reduceToNat]) | (refine Br.mk (fun h => ?_) (fun h => ?_)) | (refine BrN.mk (fun h => ?_) ?_)
    refine CallVC.eq (places_spec w t (by omega)) ?_
    repeat' first | (refine Br.dec (fun h => ?_) (fun h => ?_) <;> try (exfalso; omega)) | (refine Br.eqi (fun h => ?_) (fun h => ?_) <;> try (exfalso; omega)) | (simp (disch := (first | omega | (simp only [List.length_cons, List.length_nil, List.length_append, List.length_map, List.length_replicate, List.length_take, List.length_drop, List.length_set, tab_length, tabD_len, i64s_len, bls_len, u8s_len, tbl_len, rows_len]; first | done | omega))) only [↓va0, ↓va1, ↓va2, vb0, vb1, vb2, vb3, vb4, vb5, vb6, vb7, vb8, vb9, vz0, vz1, vy0, vx0, ↓reduceIte, Nat.reduceBEq, Nat.reduceEqDiff, Nat.reduceLT, Nat.reduceLeDiff, Nat.reduceAdd, Nat.reduceMul, Nat.reduceSub, reduceCtorEq, Int.reduceToNat]) | (refine Br.mk (fun h => ?_) (fun h => ?_)) | (refine BrN.mk (fun h => ?_) ?_)
    refine CallVC.eq (ints_spec _ _ (by omega)) ?_
    repeat' first | (refine Br.dec (fun h => ?_) (fun h => ?_) <;> try (exfalso; omega)) | (refine Br.eqi (fun h => ?_) (fun h => ?_) <;> try (exfalso; omega)) | (simp (disch := (first | omega | (simp only [List.length_cons, List.length_nil, List.length_append, List.length_map, List.length_replicate, List.length_take, List.length_drop, List.length_set, tab_length, tabD_len, i64s_len, bls_len, u8s_len, tbl_len, rows_len]; first | done | omega))) only [↓va0, ↓va1, ↓va2, vb0, vb1, vb2, vb3, vb4, vb5, vb6, vb7, vb8, vb9, vz0, vz1, vy0, vx0, ↓reduceIte, Nat.reduceBEq, Nat.reduceEqDiff, Nat.reduceLT, Nat.reduceLeDiff, Nat.reduceAdd, Nat.reduceMul, Nat.reduceSub, reduceCtorEq, Int.reduceToNat]) | (refine Br.mk (fun h => ?_) (fun h => ?_)) | (refine BrN.mk (fun h => ?_) ?_)
    exact fin_mk (vbEq (by simp))
end Go.Proofs.Ytinanpbhbafhcaa
