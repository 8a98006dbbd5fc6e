/-
  bracket.Rank, bracket.Word: how many right brackets come ahead, and the right ones that stand at a place; the laws BracketRanks, BracketWords.
-/
import Derived.Test.YtllkafockafdcaaBracket
import Derived.Test.YtllkafockafdcaaMany
namespace Go.Proofs.Ytllkafockafdcaa
open Go.Dm
set_option linter.unusedSimpArgs false
set_option linter.unnecessarySimpa false
set_option linter.unusedVariables false

/-- How many go on from so deep, with so many left. -/
def nestI : Nat → Int → Nat
  | 0, d => if d = 0 then 1 else 0
  | k + 1, d => if d < 0 ∨ (k : Int) + 1 < d then 0 else nestI k (d + 1) + nestI k (d - 1)
theorem nestI_out {d : Int} : ∀ {k : Nat}, d < 0 ∨ (k : Int) < d → nestI k d = 0
  | 0, h => by rw [nestI, if_neg (by omega)]
  | k + 1, h => by rw [nestI, if_pos (by omega)]
theorem wy_nest {s : Nat} : ∀ {k h : Nat}, k ≤ s → wy s k h = nestI k h
  | 0, h, _ => by
    rw [wy, nestI]
    by_cases e : h = 0
    · rw [if_pos e, if_pos (by omega)]
    · rw [if_neg e, if_neg (by omega)]
  | k + 1, h, hk => by
    rw [wy, nestI]
    by_cases e : (h : Int) < 0 ∨ (k : Int) + 1 < h
    · rw [if_pos e]
      split
      · rw [wy_nest (by omega), nestI_out (by omega)]
        split
        · rw [wy_nest (by omega), nestI_out (by omega)]
        · rfl
      · rfl
    · rw [if_neg e, if_pos (by omega), wy_nest (by omega), show ((h + 1 : Nat) : Int) = (h : Int) + 1 by omega]
      congr 1
      split
      · rw [wy_nest (by omega), show ((h - 1 : Nat) : Int) = (h : Int) - 1 by omega]
      · rw [nestI_out (by omega)]
theorem nestI_le : ∀ {k : Nat} {d : Int}, nestI k d ≤ 2 ^ k
  | 0, d => by rw [nestI]; split <;> simp
  | k + 1, d => by
    rw [nestI]
    have a := @nestI_le k (d + 1)
    have b := @nestI_le k (d - 1)
    have c : 2 ^ (k + 1) = 2 ^ k + 2 ^ k := by omega
    split <;> omega
theorem nestI_small {k : Nat} {d : Int} (hk : k ≤ 16) : nestI k d ≤ 65536 := Nat.le_trans nestI_le (show 2 ^ k ≤ 2 ^ 16 from Nat.pow_le_pow_right (by omega) hk)
/-- How many come ahead. -/
def nst : List Bool → Int → Int
  | [], _ => 0
  | b :: l, d => if b then nst l (d + 1) else nestI l.length (d + 1) + nst l (d - 1)
theorem nst_t {l : List Bool} {d : Int} {i : Nat} (h : i < l.length) (hb : l.getD i false = true) : nst (l.drop i) d = nst (l.drop (i + 1)) (d + 1) := by
  rw [dropB h, hb, nst, if_pos rfl]
theorem nst_f {l : List Bool} {d : Int} {i : Nat} (h : i < l.length) (hb : l.getD i false = false) : nst (l.drop i) d = nestI (l.length - 1 - i) (d + 1) + nst (l.drop (i + 1)) (d - 1) := by
  rw [dropB h, hb, nst, if_neg (by simp), List.length_drop, show l.length - (i + 1) = l.length - 1 - i by omega]

set_option maxRecDepth 10000 in
set_option maxHeartbeats 4000000 in
theorem nest_spec : ∀ (k : Nat) (d : Int), k ≤ 16 → -1000 ≤ d - k ∧ d + k ≤ 1000 → Dm.Spec Try.prog 29 [iv .i64 k, iv .i64 d] (· = .v (.int .i64 (nestI k d))) := by
  intro k
  induction k with
  | zero =>
    intro d hk hd
    refine spec_of_vc mixed Try.func29 c29 (by rw [show Try.f29.ntmps = _ from Try.ntmps29]; simp) ?_; unfold m29 r29
    repeat' first | (refine Br.dec (fun h => ?_) (fun h => ?_) <;> try (exfalso; omega)) | (refine Br.eqi (fun h => ?_) (fun h => ?_) <;> try (exfalso; omega)) | (simp (disch := (first | omega | (simp only [List.length_cons, List.length_nil, List.length_append, List.length_map, List.length_replicate, List.length_take, List.length_drop, List.length_set, tab_length, tabD_len, i64s_len, bls_len, u8s_len, tbl_len, rows_len]; first | done | omega))) only [↓va0, ↓va1, ↓va2, vb0, vb1, vb2, vb3, vb4, vb5, vb6, vb7, vb8, vb9, vz0, vz1, vy0, vx0, ↓reduceIte, Nat.reduceBEq, Nat.reduceEqDiff, Nat.reduceLT, Nat.reduceLeDiff, Nat.reduceAdd, Nat.reduceMul, Nat.reduceSub, reduceCtorEq, Int.reduceToNat]) | (refine Br.mk (fun h => ?_) (fun h => ?_)) | (refine BrN.mk (fun h => ?_) ?_)
    all_goals first
      | exact fin_mk (viEq (by rw [nestI, if_neg (by omega)]; rfl))
      | exact fin_mk (viEq (by rw [nestI, if_pos (by omega)]; rfl))
  | succ k ih =>
    intro d hk hd
    have b1 := @nestI_small k (d + 1) (by omega)
    have b2 := @nestI_small k (d - 1) (by omega)
    refine spec_of_vc mixed Try.func29 c29 (by rw [show Try.f29.ntmps = _ from Try.ntmps29]; simp) ?_; unfold m29 r29
    repeat' first | (refine Br.dec (fun h => ?_) (fun h => ?_) <;> try (exfalso; omega)) | (refine Br.eqi (fun h => ?_) (fun h => ?_) <;> try (exfalso; omega)) | (simp (disch := (first | omega | (simp only [List.length_cons, List.length_nil, List.length_append, List.length_map, List.length_replicate, List.length_take, List.length_drop, List.length_set, tab_length, tabD_len, i64s_len, bls_len, u8s_len, tbl_len, rows_len]; first | done | omega))) only [↓va0, ↓va1, ↓va2, vb0, vb1, vb2, vb3, vb4, vb5, vb6, vb7, vb8, vb9, vz0, vz1, vy0, vx0, ↓reduceIte, Nat.reduceBEq, Nat.reduceEqDiff, Nat.reduceLT, Nat.reduceLeDiff, Nat.reduceAdd, Nat.reduceMul, Nat.reduceSub, reduceCtorEq, Int.reduceToNat]) | (refine Br.mk (fun h => ?_) (fun h => ?_)) | (refine BrN.mk (fun h => ?_) ?_)
    all_goals first
      | exact fin_mk (viEq (by rw [nestI, if_pos (by omega)]; rfl))
      | skip
    rw [show ((k : Int) + 1 - 1) = k by omega]
    refine CallVC.eq (ih (d + 1) (by omega) (by omega)) ?_
    repeat' first | (refine Br.dec (fun h => ?_) (fun h => ?_) <;> try (exfalso; omega)) | (refine Br.eqi (fun h => ?_) (fun h => ?_) <;> try (exfalso; omega)) | (simp (disch := (first | omega | (simp only [List.length_cons, List.length_nil, List.length_append, List.length_map, List.length_replicate, List.length_take, List.length_drop, List.length_set, tab_length, tabD_len, i64s_len, bls_len, u8s_len, tbl_len, rows_len]; first | done | omega))) only [↓va0, ↓va1, ↓va2, vb0, vb1, vb2, vb3, vb4, vb5, vb6, vb7, vb8, vb9, vz0, vz1, vy0, vx0, ↓reduceIte, Nat.reduceBEq, Nat.reduceEqDiff, Nat.reduceLT, Nat.reduceLeDiff, Nat.reduceAdd, Nat.reduceMul, Nat.reduceSub, reduceCtorEq, Int.reduceToNat]) | (refine Br.mk (fun h => ?_) (fun h => ?_)) | (refine BrN.mk (fun h => ?_) ?_)
    rw [show ((k : Int) + 1 - 1) = k by omega]
    refine CallVC.eq (ih (d - 1) (by omega) (by omega)) ?_
    repeat' first | (refine Br.dec (fun h => ?_) (fun h => ?_) <;> try (exfalso; omega)) | (refine Br.eqi (fun h => ?_) (fun h => ?_) <;> try (exfalso; omega)) | (simp (disch := (first | omega | (simp only [List.length_cons, List.length_nil, List.length_append, List.length_map, List.length_replicate, List.length_take, List.length_drop, List.length_set, tab_length, tabD_len, i64s_len, bls_len, u8s_len, tbl_len, rows_len]; first | done | omega))) only [↓va0, ↓va1, ↓va2, vb0, vb1, vb2, vb3, vb4, vb5, vb6, vb7, vb8, vb9, vz0, vz1, vy0, vx0, ↓reduceIte, Nat.reduceBEq, Nat.reduceEqDiff, Nat.reduceLT, Nat.reduceLeDiff, Nat.reduceAdd, Nat.reduceMul, Nat.reduceSub, reduceCtorEq, Int.reduceToNat]) | (refine Br.mk (fun h => ?_) (fun h => ?_)) | (refine BrN.mk (fun h => ?_) ?_)
    exact fin_mk (viEq (by rw [nestI, if_neg (by omega)]; omega))
set_option maxRecDepth 10000 in
set_option maxHeartbeats 4000000 in
theorem nested_spec (l : List Bool) (hl : l.length ≤ 16) : Dm.Spec Try.prog 14 [.sl 1 (bls l)] (· = .v (.int .i64 (nst l 0))) := by
  refine spec_of_vc mixed Try.func14 c14 (by rw [show Try.f14.ntmps = _ from Try.ntmps14]; simp) ?_
  unfold m14 r14
  repeat' first | (refine Br.dec (fun h => ?_) (fun h => ?_) <;> try (exfalso; omega)) | (refine Br.eqi (fun h => ?_) (fun h => ?_) <;> try (exfalso; omega)) | (simp (disch := (first | omega | (simp only [List.length_cons, List.length_nil, List.length_append, List.length_map, List.length_replicate, List.length_take, List.length_drop, List.length_set, tab_length, tabD_len, i64s_len, bls_len, u8s_len, tbl_len, rows_len]; first | done | omega))) only [↓va0, ↓va1, ↓va2, vb0, vb1, vb2, vb3, vb4, vb5, vb6, vb7, vb8, vb9, vz0, vz1, vy0, vx0, ↓reduceIte, Nat.reduceBEq, Nat.reduceEqDiff, Nat.reduceLT, Nat.reduceLeDiff, Nat.reduceAdd, Nat.reduceMul, Nat.reduceSub, reduceCtorEq, Int.reduceToNat]) | (refine Br.mk (fun h => ?_) (fun h => ?_)) | (refine BrN.mk (fun h => ?_) ?_)
  refine LoopVC.mk (X := Int × Int × Nat) (fun x => [(3, iv .i64 x.1), (4, iv .i64 x.2.1), (9, iv .i64 x.2.2)]) (fun _ => []) (fun x => l.length - x.2.2) (fun x => x.2.2 ≤ l.length ∧ 0 ≤ x.1 ∧ x.1 ≤ 65536 * x.2.2 ∧ -(x.2.2 : Int) ≤ x.2.1 ∧ x.2.1 ≤ x.2.2 ∧ nst l 0 = x.1 + nst (l.drop x.2.2) x.2.1) (0, 0, 0) ⟨by simp, by simp, by simp, by simp, by simp, by simp⟩ ?_ ?_
  · (simp (disch := (first | omega | (simp only [List.length_cons, List.length_nil, List.length_append, List.length_map, List.length_replicate, List.length_take, List.length_drop, List.length_set, tab_length, tabD_len, i64s_len, bls_len, u8s_len, tbl_len, rows_len]; first | done | omega))) only [Fits_u, Fits_m, Fits_nil, List.length_append, ↓va0, ↓va1, ↓va2, vb0, vb1, vb2, vb3, vb4, vb5, vb6, vb7, vb8, vb9, vz0, vz1, vy0, vx0, ↓reduceIte, Nat.reduceBEq, Nat.reduceEqDiff, Nat.reduceLT, Nat.reduceLeDiff, Nat.reduceAdd, Nat.reduceMul, Nat.reduceSub, reduceCtorEq, Int.reduceToNat] <;> (repeat' first | rfl | apply And.intro))
  · rintro ⟨a, d, i⟩ ⟨h1, h2, h3, h4, h5, h6⟩
    simp only at h1 h2 h3 h4 h5 h6
    have b1 := @nestI_small (l.length - 1 - i) (d + 1) (by omega)
    repeat' first | (refine Br.dec (fun h => ?_) (fun h => ?_) <;> try (exfalso; omega)) | (refine Br.eqi (fun h => ?_) (fun h => ?_) <;> try (exfalso; omega)) | (simp (disch := (first | omega | (simp only [List.length_cons, List.length_nil, List.length_append, List.length_map, List.length_replicate, List.length_take, List.length_drop, List.length_set, tab_length, tabD_len, i64s_len, bls_len, u8s_len, tbl_len, rows_len]; first | done | omega))) only [↓va0, ↓va1, ↓va2, vb0, vb1, vb2, vb3, vb4, vb5, vb6, vb7, vb8, vb9, vz0, vz1, vy0, vx0, ↓reduceIte, Nat.reduceBEq, Nat.reduceEqDiff, Nat.reduceLT, Nat.reduceLeDiff, Nat.reduceAdd, Nat.reduceMul, Nat.reduceSub, reduceCtorEq, Int.reduceToNat]) | (refine Br.mk (fun h => ?_) (fun h => ?_)) | (refine BrN.mk (fun h => ?_) ?_)
    · refine loopK.mk (a, d + 1, i + 1) (by simp (disch := (first | omega | (simp only [List.length_cons, List.length_nil, List.length_append, List.length_map, List.length_replicate, List.length_take, List.length_drop, List.length_set, tab_length, tabD_len, i64s_len, bls_len, u8s_len, tbl_len, rows_len]; first | done | omega))) only [↓va0, ↓va1, ↓va2, vb0, vb1, vb2, vb3, vb4, vb5, vb6, vb7, vb8, vb9, vz0, vz1, vy0, vx0, ↓reduceIte, Nat.reduceBEq, Nat.reduceEqDiff, Nat.reduceLT, Nat.reduceLeDiff, Nat.reduceAdd, Nat.reduceMul, Nat.reduceSub, reduceCtorEq, Int.reduceToNat]) ⟨by simp only; omega, h2, by simp only; omega, by simp only; omega, by simp only; omega, by simp only; rw [h6, nst_t (by omega) (by assumption)]⟩ (by simp only; omega) (by (simp (disch := (first | omega | (simp only [List.length_cons, List.length_nil, List.length_append, List.length_map, List.length_replicate, List.length_take, List.length_drop, List.length_set, tab_length, tabD_len, i64s_len, bls_len, u8s_len, tbl_len, rows_len]; first | done | omega))) only [Fits_u, Fits_m, Fits_nil, List.length_append, ↓va0, ↓va1, ↓va2, vb0, vb1, vb2, vb3, vb4, vb5, vb6, vb7, vb8, vb9, vz0, vz1, vy0, vx0, ↓reduceIte, Nat.reduceBEq, Nat.reduceEqDiff, Nat.reduceLT, Nat.reduceLeDiff, Nat.reduceAdd, Nat.reduceMul, Nat.reduceSub, reduceCtorEq, Int.reduceToNat] <;> (repeat' first | rfl | apply And.intro)))
    · rw [show ((l.length : Int) - 1 - (i : Int)) = ((l.length - 1 - i : Nat) : Int) by omega]
      refine CallVC.eq (nest_spec (l.length - 1 - i) (d + 1) (by omega) (by omega)) ?_
      repeat' first | (refine Br.dec (fun h => ?_) (fun h => ?_) <;> try (exfalso; omega)) | (refine Br.eqi (fun h => ?_) (fun h => ?_) <;> try (exfalso; omega)) | (simp (disch := (first | omega | (simp only [List.length_cons, List.length_nil, List.length_append, List.length_map, List.length_replicate, List.length_take, List.length_drop, List.length_set, tab_length, tabD_len, i64s_len, bls_len, u8s_len, tbl_len, rows_len]; first | done | omega))) only [↓va0, ↓va1, ↓va2, vb0, vb1, vb2, vb3, vb4, vb5, vb6, vb7, vb8, vb9, vz0, vz1, vy0, vx0, ↓reduceIte, Nat.reduceBEq, Nat.reduceEqDiff, Nat.reduceLT, Nat.reduceLeDiff, Nat.reduceAdd, Nat.reduceMul, Nat.reduceSub, reduceCtorEq, Int.reduceToNat]) | (refine Br.mk (fun h => ?_) (fun h => ?_)) | (refine BrN.mk (fun h => ?_) ?_)
      refine loopK.mk (a + nestI (l.length - 1 - i) (d + 1), d - 1, i + 1) (by simp (disch := (first | omega | (simp only [List.length_cons, List.length_nil, List.length_append, List.length_map, List.length_replicate, List.length_take, List.length_drop, List.length_set, tab_length, tabD_len, i64s_len, bls_len, u8s_len, tbl_len, rows_len]; first | done | omega))) only [↓va0, ↓va1, ↓va2, vb0, vb1, vb2, vb3, vb4, vb5, vb6, vb7, vb8, vb9, vz0, vz1, vy0, vx0, ↓reduceIte, Nat.reduceBEq, Nat.reduceEqDiff, Nat.reduceLT, Nat.reduceLeDiff, Nat.reduceAdd, Nat.reduceMul, Nat.reduceSub, reduceCtorEq, Int.reduceToNat]) ⟨by simp only; omega, by simp only; omega, by simp only; omega, by simp only; omega, by simp only; omega, by simp only; rw [h6, nst_f (by omega) (by assumption)]; omega⟩ (by simp only; omega) (by (simp (disch := (first | omega | (simp only [List.length_cons, List.length_nil, List.length_append, List.length_map, List.length_replicate, List.length_take, List.length_drop, List.length_set, tab_length, tabD_len, i64s_len, bls_len, u8s_len, tbl_len, rows_len]; first | done | omega))) only [Fits_u, Fits_m, Fits_nil, List.length_append, ↓va0, ↓va1, ↓va2, vb0, vb1, vb2, vb3, vb4, vb5, vb6, vb7, vb8, vb9, vz0, vz1, vy0, vx0, ↓reduceIte, Nat.reduceBEq, Nat.reduceEqDiff, Nat.reduceLT, Nat.reduceLeDiff, Nat.reduceAdd, Nat.reduceMul, Nat.reduceSub, reduceCtorEq, Int.reduceToNat] <;> (repeat' first | rfl | apply And.intro)))
    · refine fin_mk (viEq ?_)
      rw [h6, List.drop_eq_nil_of_le (by omega), nst]; omega
/-- The table of ways, as a table of rows. -/
theorem wrows_tab {s n : Nat} : rows i64s (wrows s n) = tabD n fun k => .sl 1 (i64s (tab (s + 2) fun h => (wy s k h : Int))) := rows_tabD
theorem ways_tab (s : Nat) (hs : s ≤ 16) : Dm.Spec Try.prog 27 [iv .i64 s] (· = .sl 1 (tabD (s + 1) fun k => .sl 1 (i64s (tab (s + 2) fun h => (wy s k h : Int))))) := by
  have := ways_spec s hs
  rw [wrows_tab] at this
  exact this
theorem bal_t {l : List Bool} {i : Nat} {n : Int} (hn : 0 ≤ n) (h : i < l.length) (hb : l.getD i false = true) : bal (l.drop i) n = bal (l.drop (i + 1)) (n + 1) := by
  rw [bal_step h, hb, if_pos rfl, if_neg (by omega)]
theorem bal_f {l : List Bool} {i : Nat} {n : Int} (h : i < l.length) (hb : l.getD i false = false) (ht : bal (l.drop i) n = true) : 1 ≤ n ∧ bal (l.drop (i + 1)) (n - 1) = true := by
  rw [bal_step h, hb] at ht
  simp only [Bool.false_eq_true, if_false] at ht
  by_cases e : n - 1 < 0
  · rw [if_pos e] at ht; cases ht
  · rw [if_neg e] at ht; exact ⟨by omega, ht⟩
set_option maxRecDepth 10000 in
set_option maxHeartbeats 4000000 in
theorem rank_spec (l : List Bool) (hl : l.length ≤ 16) (hb : bal l 0 = true) : Dm.Spec Try.prog 15 [.sl 1 (bls l)] (· = .tu [.v (.int .i64 (nst l 0)), .v (.int .i64 0)]) := by
  refine spec_of_vc mixed Try.func15 c15 (by rw [show Try.f15.ntmps = _ from Try.ntmps15]; simp) ?_
  unfold m15 r15
  repeat' first | (refine Br.dec (fun h => ?_) (fun h => ?_) <;> try (exfalso; omega)) | (refine Br.eqi (fun h => ?_) (fun h => ?_) <;> try (exfalso; omega)) | (simp (disch := (first | omega | (simp only [List.length_cons, List.length_nil, List.length_append, List.length_map, List.length_replicate, List.length_take, List.length_drop, List.length_set, tab_length, tabD_len, i64s_len, bls_len, u8s_len, tbl_len, rows_len]; first | done | omega))) only [↓va0, ↓va1, ↓va2, vb0, vb1, vb2, vb3, vb4, vb5, vb6, vb7, vb8, vb9, vz0, vz1, vy0, vx0, ↓reduceIte, Nat.reduceBEq, Nat.reduceEqDiff, Nat.reduceLT, Nat.reduceLeDiff, Nat.reduceAdd, Nat.reduceMul, Nat.reduceSub, reduceCtorEq, Int.reduceToNat]) | (refine Br.mk (fun h => ?_) (fun h => ?_)) | (refine BrN.mk (fun h => ?_) ?_)
  refine CallVC.eq (balanced_spec l (by omega)) ?_
  rw [hb]
  repeat' first | (refine Br.dec (fun h => ?_) (fun h => ?_) <;> try (exfalso; omega)) | (refine Br.eqi (fun h => ?_) (fun h => ?_) <;> try (exfalso; omega)) | (simp (disch := (first | omega | (simp only [List.length_cons, List.length_nil, List.length_append, List.length_map, List.length_replicate, List.length_take, List.length_drop, List.length_set, tab_length, tabD_len, i64s_len, bls_len, u8s_len, tbl_len, rows_len]; first | done | omega))) only [↓va0, ↓va1, ↓va2, vb0, vb1, vb2, vb3, vb4, vb5, vb6, vb7, vb8, vb9, vz0, vz1, vy0, vx0, ↓reduceIte, Nat.reduceBEq, Nat.reduceEqDiff, Nat.reduceLT, Nat.reduceLeDiff, Nat.reduceAdd, Nat.reduceMul, Nat.reduceSub, reduceCtorEq, Int.reduceToNat]) | (refine Br.mk (fun h => ?_) (fun h => ?_)) | (refine BrN.mk (fun h => ?_) ?_)
  refine CallVC.eq (ways_tab l.length (by omega)) ?_
  repeat' first | (refine Br.dec (fun h => ?_) (fun h => ?_) <;> try (exfalso; omega)) | (refine Br.eqi (fun h => ?_) (fun h => ?_) <;> try (exfalso; omega)) | (simp (disch := (first | omega | (simp only [List.length_cons, List.length_nil, List.length_append, List.length_map, List.length_replicate, List.length_take, List.length_drop, List.length_set, tab_length, tabD_len, i64s_len, bls_len, u8s_len, tbl_len, rows_len]; first | done | omega))) only [↓va0, ↓va1, ↓va2, vb0, vb1, vb2, vb3, vb4, vb5, vb6, vb7, vb8, vb9, vz0, vz1, vy0, vx0, ↓reduceIte, Nat.reduceBEq, Nat.reduceEqDiff, Nat.reduceLT, Nat.reduceLeDiff, Nat.reduceAdd, Nat.reduceMul, Nat.reduceSub, reduceCtorEq, Int.reduceToNat]) | (refine Br.mk (fun h => ?_) (fun h => ?_)) | (refine BrN.mk (fun h => ?_) ?_)
  refine LoopVC.mk (X := Int × Nat × Nat) (fun x => [(5, iv .i64 x.1), (6, iv .i64 x.2.1), (20, iv .i64 x.2.2)]) (fun _ => []) (fun x => l.length - x.2.2) (fun x => x.2.2 ≤ l.length ∧ 0 ≤ x.1 ∧ x.1 ≤ 65536 * x.2.2 ∧ x.2.1 ≤ x.2.2 ∧ bal (l.drop x.2.2) x.2.1 = true ∧ nst l 0 = x.1 + nst (l.drop x.2.2) x.2.1) (0, 0, 0) ⟨by simp, by simp, by simp, by simp, by simpa using hb, by simp⟩ ?_ ?_
  · (simp (disch := (first | omega | (simp only [List.length_cons, List.length_nil, List.length_append, List.length_map, List.length_replicate, List.length_take, List.length_drop, List.length_set, tab_length, tabD_len, i64s_len, bls_len, u8s_len, tbl_len, rows_len]; first | done | omega))) only [Fits_u, Fits_m, Fits_nil, List.length_append, ↓va0, ↓va1, ↓va2, vb0, vb1, vb2, vb3, vb4, vb5, vb6, vb7, vb8, vb9, vz0, vz1, vy0, vx0, ↓reduceIte, Nat.reduceBEq, Nat.reduceEqDiff, Nat.reduceLT, Nat.reduceLeDiff, Nat.reduceAdd, Nat.reduceMul, Nat.reduceSub, reduceCtorEq, Int.reduceToNat] <;> (repeat' first | rfl | apply And.intro))
  · rintro ⟨a, d, i⟩ ⟨h1, h2, h3, h4, h5, h6⟩
    simp only at h1 h2 h3 h4 h5 h6
    have b1 := @nestI_small (l.length - 1 - i) (d + 1) (by omega)
    have hw : wy l.length (l.length - 1 - i) (d + 1) = nestI (l.length - 1 - i) ((d : Int) + 1) := wy_nest (by omega)
    have hT : ((l.length : Int) - 1 - (i : Int)).toNat = l.length - 1 - i := by omega
    repeat' first | (refine Br.dec (fun h => ?_) (fun h => ?_) <;> try (exfalso; omega)) | (refine Br.eqi (fun h => ?_) (fun h => ?_) <;> try (exfalso; omega)) | (simp (disch := (first | omega | (simp only [List.length_cons, List.length_nil, List.length_append, List.length_map, List.length_replicate, List.length_take, List.length_drop, List.length_set, tab_length, tabD_len, i64s_len, bls_len, u8s_len, tbl_len, rows_len]; first | done | omega))) only [↓va0, ↓va1, ↓va2, vb0, vb1, vb2, vb3, vb4, vb5, vb6, vb7, vb8, vb9, vz0, vz1, vy0, vx0, ↓reduceIte, Nat.reduceBEq, Nat.reduceEqDiff, Nat.reduceLT, Nat.reduceLeDiff, Nat.reduceAdd, Nat.reduceMul, Nat.reduceSub, reduceCtorEq, Int.reduceToNat]) | (refine Br.mk (fun h => ?_) (fun h => ?_)) | (refine BrN.mk (fun h => ?_) ?_)
    · have hbi : l.getD i false = true := by assumption
      refine CallVC.eq (height_spec _) ?_
      rw [hbi]
      repeat' first | (refine Br.dec (fun h => ?_) (fun h => ?_) <;> try (exfalso; omega)) | (refine Br.eqi (fun h => ?_) (fun h => ?_) <;> try (exfalso; omega)) | (simp (disch := (first | omega | (simp only [List.length_cons, List.length_nil, List.length_append, List.length_map, List.length_replicate, List.length_take, List.length_drop, List.length_set, tab_length, tabD_len, i64s_len, bls_len, u8s_len, tbl_len, rows_len]; first | done | omega))) only [↓va0, ↓va1, ↓va2, vb0, vb1, vb2, vb3, vb4, vb5, vb6, vb7, vb8, vb9, vz0, vz1, vy0, vx0, ↓reduceIte, Nat.reduceBEq, Nat.reduceEqDiff, Nat.reduceLT, Nat.reduceLeDiff, Nat.reduceAdd, Nat.reduceMul, Nat.reduceSub, reduceCtorEq, Int.reduceToNat]) | (refine Br.mk (fun h => ?_) (fun h => ?_)) | (refine BrN.mk (fun h => ?_) ?_)
      refine loopK.mk (a, d + 1, i + 1) (by simp (disch := (first | omega | (simp only [List.length_cons, List.length_nil, List.length_append, List.length_map, List.length_replicate, List.length_take, List.length_drop, List.length_set, tab_length, tabD_len, i64s_len, bls_len, u8s_len, tbl_len, rows_len]; first | done | omega))) only [↓va0, ↓va1, ↓va2, vb0, vb1, vb2, vb3, vb4, vb5, vb6, vb7, vb8, vb9, vz0, vz1, vy0, vx0, ↓reduceIte, Nat.reduceBEq, Nat.reduceEqDiff, Nat.reduceLT, Nat.reduceLeDiff, Nat.reduceAdd, Nat.reduceMul, Nat.reduceSub, reduceCtorEq, Int.reduceToNat]) ⟨by simp only; omega, h2, by simp only; omega, by simp only; omega, ?_, ?_⟩ (by simp only; omega) (by (simp (disch := (first | omega | (simp only [List.length_cons, List.length_nil, List.length_append, List.length_map, List.length_replicate, List.length_take, List.length_drop, List.length_set, tab_length, tabD_len, i64s_len, bls_len, u8s_len, tbl_len, rows_len]; first | done | omega))) only [Fits_u, Fits_m, Fits_nil, List.length_append, ↓va0, ↓va1, ↓va2, vb0, vb1, vb2, vb3, vb4, vb5, vb6, vb7, vb8, vb9, vz0, vz1, vy0, vx0, ↓reduceIte, Nat.reduceBEq, Nat.reduceEqDiff, Nat.reduceLT, Nat.reduceLeDiff, Nat.reduceAdd, Nat.reduceMul, Nat.reduceSub, reduceCtorEq, Int.reduceToNat] <;> (repeat' first | rfl | apply And.intro)))
      · simp only
        rw [bal_t (by omega) (by omega) hbi] at h5
        exact h5
      · simp only
        rw [h6, nst_t (by omega) hbi]; rfl
    · have hbi : l.getD i false = false := by assumption
      obtain ⟨q1, q2⟩ := bal_f (by omega) hbi h5
      refine CallVC.eq (height_spec _) ?_
      rw [hbi, hT, hw]
      repeat' first | (refine Br.dec (fun h => ?_) (fun h => ?_) <;> try (exfalso; omega)) | (refine Br.eqi (fun h => ?_) (fun h => ?_) <;> try (exfalso; omega)) | (simp (disch := (first | omega | (simp only [List.length_cons, List.length_nil, List.length_append, List.length_map, List.length_replicate, List.length_take, List.length_drop, List.length_set, tab_length, tabD_len, i64s_len, bls_len, u8s_len, tbl_len, rows_len]; first | done | omega))) only [↓va0, ↓va1, ↓va2, vb0, vb1, vb2, vb3, vb4, vb5, vb6, vb7, vb8, vb9, vz0, vz1, vy0, vx0, ↓reduceIte, Nat.reduceBEq, Nat.reduceEqDiff, Nat.reduceLT, Nat.reduceLeDiff, Nat.reduceAdd, Nat.reduceMul, Nat.reduceSub, reduceCtorEq, Int.reduceToNat]) | (refine Br.mk (fun h => ?_) (fun h => ?_)) | (refine BrN.mk (fun h => ?_) ?_)
      refine loopK.mk (a + nestI (l.length - 1 - i) ((d : Int) + 1), d - 1, i + 1) (by simp (disch := (first | omega | (simp only [List.length_cons, List.length_nil, List.length_append, List.length_map, List.length_replicate, List.length_take, List.length_drop, List.length_set, tab_length, tabD_len, i64s_len, bls_len, u8s_len, tbl_len, rows_len]; first | done | omega))) only [↓va0, ↓va1, ↓va2, vb0, vb1, vb2, vb3, vb4, vb5, vb6, vb7, vb8, vb9, vz0, vz1, vy0, vx0, ↓reduceIte, Nat.reduceBEq, Nat.reduceEqDiff, Nat.reduceLT, Nat.reduceLeDiff, Nat.reduceAdd, Nat.reduceMul, Nat.reduceSub, reduceCtorEq, Int.reduceToNat]) ⟨by simp only; omega, by simp only; omega, by simp only; omega, by simp only; omega, ?_, ?_⟩ (by simp only; omega) ?_
      · simp only
        rw [show ((d - 1 : Nat) : Int) = (d : Int) - 1 by omega]; exact q2
      · simp only
        rw [h6, nst_f (by omega) hbi, show ((d - 1 : Nat) : Int) = (d : Int) - 1 by omega]; omega
      · (simp (disch := (first | omega | (simp only [List.length_cons, List.length_nil, List.length_append, List.length_map, List.length_replicate, List.length_take, List.length_drop, List.length_set, tab_length, tabD_len, i64s_len, bls_len, u8s_len, tbl_len, rows_len]; first | done | omega))) only [Fits_u, Fits_m, Fits_nil, List.length_append, ↓va0, ↓va1, ↓va2, vb0, vb1, vb2, vb3, vb4, vb5, vb6, vb7, vb8, vb9, vz0, vz1, vy0, vx0, ↓reduceIte, Nat.reduceBEq, Nat.reduceEqDiff, Nat.reduceLT, Nat.reduceLeDiff, Nat.reduceAdd, Nat.reduceMul, Nat.reduceSub, reduceCtorEq, Int.reduceToNat] <;> (repeat' first | rfl | apply And.intro))
        exact viEq (by omega)
    · refine fin_mk ?_
      rw [h6, List.drop_eq_nil_of_le (by omega), nst, Int.add_zero]
set_option maxRecDepth 10000 in
set_option maxHeartbeats 4000000 in
theorem rank_no (l : List Bool) (hl : l.length ≤ 16) (hb : bal l 0 = false) : Dm.Spec Try.prog 15 [.sl 1 (bls l)] (· = .tu [.v (.int .i64 0), .v (.int .i64 3)]) := by
  refine spec_of_vc mixed Try.func15 c15 (by rw [show Try.f15.ntmps = _ from Try.ntmps15]; simp) ?_
  unfold m15 r15
  repeat' first | (refine Br.dec (fun h => ?_) (fun h => ?_) <;> try (exfalso; omega)) | (refine Br.eqi (fun h => ?_) (fun h => ?_) <;> try (exfalso; omega)) | (simp (disch := (first | omega | (simp only [List.length_cons, List.length_nil, List.length_append, List.length_map, List.length_replicate, List.length_take, List.length_drop, List.length_set, tab_length, tabD_len, i64s_len, bls_len, u8s_len, tbl_len, rows_len]; first | done | omega))) only [↓va0, ↓va1, ↓va2, vb0, vb1, vb2, vb3, vb4, vb5, vb6, vb7, vb8, vb9, vz0, vz1, vy0, vx0, ↓reduceIte, Nat.reduceBEq, Nat.reduceEqDiff, Nat.reduceLT, Nat.reduceLeDiff, Nat.reduceAdd, Nat.reduceMul, Nat.reduceSub, reduceCtorEq, Int.reduceToNat]) | (refine Br.mk (fun h => ?_) (fun h => ?_)) | (refine BrN.mk (fun h => ?_) ?_)
  refine CallVC.eq (balanced_spec l (by omega)) ?_
  rw [hb]
  repeat' first | (refine Br.dec (fun h => ?_) (fun h => ?_) <;> try (exfalso; omega)) | (refine Br.eqi (fun h => ?_) (fun h => ?_) <;> try (exfalso; omega)) | (simp (disch := (first | omega | (simp only [List.length_cons, List.length_nil, List.length_append, List.length_map, List.length_replicate, List.length_take, List.length_drop, List.length_set, tab_length, tabD_len, i64s_len, bls_len, u8s_len, tbl_len, rows_len]; first | done | omega))) only [↓va0, ↓va1, ↓va2, vb0, vb1, vb2, vb3, vb4, vb5, vb6, vb7, vb8, vb9, vz0, vz1, vy0, vx0, ↓reduceIte, Nat.reduceBEq, Nat.reduceEqDiff, Nat.reduceLT, Nat.reduceLeDiff, Nat.reduceAdd, Nat.reduceMul, Nat.reduceSub, reduceCtorEq, Int.reduceToNat]) | (refine Br.mk (fun h => ?_) (fun h => ?_)) | (refine BrN.mk (fun h => ?_) ?_)
  exact fin_mk rfl
set_option maxRecDepth 10000 in
set_option maxHeartbeats 4000000 in
theorem rank_big (l : List Bool) (hl : 16 < l.length) : Dm.Spec Try.prog 15 [.sl 1 (bls l)] (· = .tu [.v (.int .i64 0), .v (.int .i64 1)]) := by
  refine spec_of_vc mixed Try.func15 c15 (by rw [show Try.f15.ntmps = _ from Try.ntmps15]; simp) ?_
  unfold m15 r15
  repeat' first | (refine Br.dec (fun h => ?_) (fun h => ?_) <;> try (exfalso; omega)) | (refine Br.eqi (fun h => ?_) (fun h => ?_) <;> try (exfalso; omega)) | (simp (disch := (first | omega | (simp only [List.length_cons, List.length_nil, List.length_append, List.length_map, List.length_replicate, List.length_take, List.length_drop, List.length_set, tab_length, tabD_len, i64s_len, bls_len, u8s_len, tbl_len, rows_len]; first | done | omega))) only [↓va0, ↓va1, ↓va2, vb0, vb1, vb2, vb3, vb4, vb5, vb6, vb7, vb8, vb9, vz0, vz1, vy0, vx0, ↓reduceIte, Nat.reduceBEq, Nat.reduceEqDiff, Nat.reduceLT, Nat.reduceLeDiff, Nat.reduceAdd, Nat.reduceMul, Nat.reduceSub, reduceCtorEq, Int.reduceToNat]) | (refine Br.mk (fun h => ?_) (fun h => ?_)) | (refine BrN.mk (fun h => ?_) ?_)
  exact fin_mk rfl
set_option maxRecDepth 10000 in
set_option maxHeartbeats 4000000 in
theorem bracketRanks_spec (l : List Bool) (h : okL (fun _ => True) l) : Dm.Spec Try.prog 5 [.sl 1 (bls l)] (· = .v (.bool true)) := by
  refine spec_of_vc mixed Try.func5 c5 (by rw [show Try.f5.ntmps = _ from Try.ntmps5]; simp) ?_
  unfold m5 r5
  by_cases hw : 16 < l.length
  · repeat' first | (refine Br.dec (fun h => ?_) (fun h => ?_) <;> try (exfalso; omega)) | (refine Br.eqi (fun h => ?_) (fun h => ?_) <;> try (exfalso; omega)) | (simp (disch := (first | omega | (simp only [List.length_cons, List.length_nil, List.length_append, List.length_map, List.length_replicate, List.length_take, List.length_drop, List.length_set, tab_length, tabD_len, i64s_len, bls_len, u8s_len, tbl_len, rows_len]; first | done | omega))) only [↓va0, ↓va1, ↓va2, vb0, vb1, vb2, vb3, vb4, vb5, vb6, vb7, vb8, vb9, vz0, vz1, vy0, vx0, ↓reduceIte, Nat.reduceBEq, Nat.reduceEqDiff, Nat.reduceLT, Nat.reduceLeDiff, Nat.reduceAdd, Nat.reduceMul, Nat.reduceSub, reduceCtorEq, Int.reduceToNat]) | (refine Br.mk (fun h => ?_) (fun h => ?_)) | (refine BrN.mk (fun h => ?_) ?_)
    refine CallVC.eq (rank_big l hw) ?_
    repeat' first | (refine Br.dec (fun h => ?_) (fun h => ?_) <;> try (exfalso; omega)) | (refine Br.eqi (fun h => ?_) (fun h => ?_) <;> try (exfalso; omega)) | (simp (disch := (first | omega | (simp only [List.length_cons, List.length_nil, List.length_append, List.length_map, List.length_replicate, List.length_take, List.length_drop, List.length_set, tab_length, tabD_len, i64s_len, bls_len, u8s_len, tbl_len, rows_len]; first | done | omega))) only [↓va0, ↓va1, ↓va2, vb0, vb1, vb2, vb3, vb4, vb5, vb6, vb7, vb8, vb9, vz0, vz1, vy0, vx0, ↓reduceIte, Nat.reduceBEq, Nat.reduceEqDiff, Nat.reduceLT, Nat.reduceLeDiff, Nat.reduceAdd, Nat.reduceMul, Nat.reduceSub, reduceCtorEq, Int.reduceToNat]) | (refine Br.mk (fun h => ?_) (fun h => ?_)) | (refine BrN.mk (fun h => ?_) ?_)
    all_goals exact fin_mk rfl
  · cases hb : bal l 0
    · repeat' first | (refine Br.dec (fun h => ?_) (fun h => ?_) <;> try (exfalso; omega)) | (refine Br.eqi (fun h => ?_) (fun h => ?_) <;> try (exfalso; omega)) | (simp (disch := (first | omega | (simp only [List.length_cons, List.length_nil, List.length_append, List.length_map, List.length_replicate, List.length_take, List.length_drop, List.length_set, tab_length, tabD_len, i64s_len, bls_len, u8s_len, tbl_len, rows_len]; first | done | omega))) only [↓va0, ↓va1, ↓va2, vb0, vb1, vb2, vb3, vb4, vb5, vb6, vb7, vb8, vb9, vz0, vz1, vy0, vx0, ↓reduceIte, Nat.reduceBEq, Nat.reduceEqDiff, Nat.reduceLT, Nat.reduceLeDiff, Nat.reduceAdd, Nat.reduceMul, Nat.reduceSub, reduceCtorEq, Int.reduceToNat]) | (refine Br.mk (fun h => ?_) (fun h => ?_)) | (refine BrN.mk (fun h => ?_) ?_)
      refine CallVC.eq (rank_no l (by omega) hb) ?_
      repeat' first | (refine Br.dec (fun h => ?_) (fun h => ?_) <;> try (exfalso; omega)) | (refine Br.eqi (fun h => ?_) (fun h => ?_) <;> try (exfalso; omega)) | (simp (disch := (first | omega | (simp only [List.length_cons, List.length_nil, List.length_append, List.length_map, List.length_replicate, List.length_take, List.length_drop, List.length_set, tab_length, tabD_len, i64s_len, bls_len, u8s_len, tbl_len, rows_len]; first | done | omega))) only [↓va0, ↓va1, ↓va2, vb0, vb1, vb2, vb3, vb4, vb5, vb6, vb7, vb8, vb9, vz0, vz1, vy0, vx0, ↓reduceIte, Nat.reduceBEq, Nat.reduceEqDiff, Nat.reduceLT, Nat.reduceLeDiff, Nat.reduceAdd, Nat.reduceMul, Nat.reduceSub, reduceCtorEq, Int.reduceToNat]) | (refine Br.mk (fun h => ?_) (fun h => ?_)) | (refine BrN.mk (fun h => ?_) ?_)
      refine CallVC.eq (closed_spec l (by omega)) ?_
      rw [hb]
      repeat' first | (refine Br.dec (fun h => ?_) (fun h => ?_) <;> try (exfalso; omega)) | (refine Br.eqi (fun h => ?_) (fun h => ?_) <;> try (exfalso; omega)) | (simp (disch := (first | omega | (simp only [List.length_cons, List.length_nil, List.length_append, List.length_map, List.length_replicate, List.length_take, List.length_drop, List.length_set, tab_length, tabD_len, i64s_len, bls_len, u8s_len, tbl_len, rows_len]; first | done | omega))) only [↓va0, ↓va1, ↓va2, vb0, vb1, vb2, vb3, vb4, vb5, vb6, vb7, vb8, vb9, vz0, vz1, vy0, vx0, ↓reduceIte, Nat.reduceBEq, Nat.reduceEqDiff, Nat.reduceLT, Nat.reduceLeDiff, Nat.reduceAdd, Nat.reduceMul, Nat.reduceSub, reduceCtorEq, Int.reduceToNat]) | (refine Br.mk (fun h => ?_) (fun h => ?_)) | (refine BrN.mk (fun h => ?_) ?_)
      all_goals exact fin_mk rfl
    · repeat' first | (refine Br.dec (fun h => ?_) (fun h => ?_) <;> try (exfalso; omega)) | (refine Br.eqi (fun h => ?_) (fun h => ?_) <;> try (exfalso; omega)) | (simp (disch := (first | omega | (simp only [List.length_cons, List.length_nil, List.length_append, List.length_map, List.length_replicate, List.length_take, List.length_drop, List.length_set, tab_length, tabD_len, i64s_len, bls_len, u8s_len, tbl_len, rows_len]; first | done | omega))) only [↓va0, ↓va1, ↓va2, vb0, vb1, vb2, vb3, vb4, vb5, vb6, vb7, vb8, vb9, vz0, vz1, vy0, vx0, ↓reduceIte, Nat.reduceBEq, Nat.reduceEqDiff, Nat.reduceLT, Nat.reduceLeDiff, Nat.reduceAdd, Nat.reduceMul, Nat.reduceSub, reduceCtorEq, Int.reduceToNat]) | (refine Br.mk (fun h => ?_) (fun h => ?_)) | (refine BrN.mk (fun h => ?_) ?_)
      refine CallVC.eq (rank_spec l (by omega) hb) ?_
      repeat' first | (refine Br.dec (fun h => ?_) (fun h => ?_) <;> try (exfalso; omega)) | (refine Br.eqi (fun h => ?_) (fun h => ?_) <;> try (exfalso; omega)) | (simp (disch := (first | omega | (simp only [List.length_cons, List.length_nil, List.length_append, List.length_map, List.length_replicate, List.length_take, List.length_drop, List.length_set, tab_length, tabD_len, i64s_len, bls_len, u8s_len, tbl_len, rows_len]; first | done | omega))) only [↓va0, ↓va1, ↓va2, vb0, vb1, vb2, vb3, vb4, vb5, vb6, vb7, vb8, vb9, vz0, vz1, vy0, vx0, ↓reduceIte, Nat.reduceBEq, Nat.reduceEqDiff, Nat.reduceLT, Nat.reduceLeDiff, Nat.reduceAdd, Nat.reduceMul, Nat.reduceSub, reduceCtorEq, Int.reduceToNat]) | (refine Br.mk (fun h => ?_) (fun h => ?_)) | (refine BrN.mk (fun h => ?_) ?_)
      refine CallVC.eq (closed_spec l (by omega)) ?_
      rw [hb]
      repeat' first | (refine Br.dec (fun h => ?_) (fun h => ?_) <;> try (exfalso; omega)) | (refine Br.eqi (fun h => ?_) (fun h => ?_) <;> try (exfalso; omega)) | (simp (disch := (first | omega | (simp only [List.length_cons, List.length_nil, List.length_append, List.length_map, List.length_replicate, List.length_take, List.length_drop, List.length_set, tab_length, tabD_len, i64s_len, bls_len, u8s_len, tbl_len, rows_len]; first | done | omega))) only [↓va0, ↓va1, ↓va2, vb0, vb1, vb2, vb3, vb4, vb5, vb6, vb7, vb8, vb9, vz0, vz1, vy0, vx0, ↓reduceIte, Nat.reduceBEq, Nat.reduceEqDiff, Nat.reduceLT, Nat.reduceLeDiff, Nat.reduceAdd, Nat.reduceMul, Nat.reduceSub, reduceCtorEq, Int.reduceToNat]) | (refine Br.mk (fun h => ?_) (fun h => ?_)) | (refine BrN.mk (fun h => ?_) ?_)
      refine CallVC.eq (nested_spec l (by omega)) ?_
      repeat' first | (refine Br.dec (fun h => ?_) (fun h => ?_) <;> try (exfalso; omega)) | (refine Br.eqi (fun h => ?_) (fun h => ?_) <;> try (exfalso; omega)) | (simp (disch := (first | omega | (simp only [List.length_cons, List.length_nil, List.length_append, List.length_map, List.length_replicate, List.length_take, List.length_drop, List.length_set, tab_length, tabD_len, i64s_len, bls_len, u8s_len, tbl_len, rows_len]; first | done | omega))) only [↓va0, ↓va1, ↓va2, vb0, vb1, vb2, vb3, vb4, vb5, vb6, vb7, vb8, vb9, vz0, vz1, vy0, vx0, ↓reduceIte, Nat.reduceBEq, Nat.reduceEqDiff, Nat.reduceLT, Nat.reduceLeDiff, Nat.reduceAdd, Nat.reduceMul, Nat.reduceSub, reduceCtorEq, Int.reduceToNat]) | (refine Br.mk (fun h => ?_) (fun h => ?_)) | (refine BrN.mk (fun h => ?_) ?_)
      exact fin_mk (vbEq (by simp))

/-- The right brackets at a place, so many from so deep. -/
def unr : Nat → Int → Int → List Bool
  | 0, _, _ => []
  | k + 1, d, i => if i < nestI k (d + 1) then true :: unr k (d + 1) i else false :: unr k (d - 1) (i - nestI k (d + 1))
theorem unr_len : ∀ {k : Nat} {d i : Int}, (unr k d i).length = k
  | 0, _, _ => rfl
  | k + 1, d, i => by rw [unr]; split <;> simp [@unr_len k]
theorem unr_spec : ∀ {k : Nat} {d i : Int}, 0 ≤ d → 0 ≤ i → i < nestI k d → bal (unr k d i) d = true ∧ nst (unr k d i) d = i
  | 0, d, i, hd, h0, h1 => by
    rw [nestI] at h1
    split at h1
    · rw [unr, bal, nst]; exact ⟨decide_eq_true (by assumption), by omega⟩
    · omega
  | k + 1, d, i, hd, h0, h1 => by
    rw [nestI] at h1
    split at h1
    · omega
    · rw [unr]
      split
      · next h =>
        obtain ⟨a, b⟩ := unr_spec (k := k) (d := d + 1) (by omega) h0 h
        rw [bal, nst, if_pos rfl, if_pos rfl, if_neg (by omega)]
        exact ⟨a, b⟩
      · next h =>
        have hd1 : 1 ≤ d := by
          by_cases e : d = 0
          · rw [nestI_out (d := d - 1) (by omega)] at h1; omega
          · omega
        obtain ⟨a, b⟩ := unr_spec (k := k) (d := d - 1) (i := i - nestI k (d + 1)) (by omega) (by omega) (by omega)
        simp only [bal, nst, Bool.false_eq_true, if_false]
        rw [if_neg (by omega), unr_len, b]
        exact ⟨a, by omega⟩
set_option maxRecDepth 10000 in
set_option maxHeartbeats 4000000 in
theorem word_spec (n : Nat) (hn : n ≤ 8) (r : Int) (hr : 0 ≤ r ∧ r < nestI (2 * n) 0) : Dm.Spec Try.prog 12 [iv .i64 n, iv .i64 r] (· = .tu [.sl 1 (bls (unr (2 * n) 0 r)), .v (.int .i64 0)]) := by
  refine spec_of_vc mixed Try.func12 c12 (by rw [show Try.f12.ntmps = _ from Try.ntmps12]; simp) ?_
  unfold m12 r12
  have hs := @nestI_small (2 * n) 0 (by omega)
  have hw0 : wy (2 * n) (2 * n) 0 = nestI (2 * n) 0 := wy_nest (by omega)
  repeat' first | (refine Br.dec (fun h => ?_) (fun h => ?_) <;> try (exfalso; omega)) | (refine Br.eqi (fun h => ?_) (fun h => ?_) <;> try (exfalso; omega)) | (simp (disch := (first | omega | (simp only [List.length_cons, List.length_nil, List.length_append, List.length_map, List.length_replicate, List.length_take, List.length_drop, List.length_set, tab_length, tabD_len, i64s_len, bls_len, u8s_len, tbl_len, rows_len]; first | done | omega))) only [↓va0, ↓va1, ↓va2, vb0, vb1, vb2, vb3, vb4, vb5, vb6, vb7, vb8, vb9, vz0, vz1, vy0, vx0, ↓reduceIte, Nat.reduceBEq, Nat.reduceEqDiff, Nat.reduceLT, Nat.reduceLeDiff, Nat.reduceAdd, Nat.reduceMul, Nat.reduceSub, reduceCtorEq, Int.reduceToNat]) | (refine Br.mk (fun h => ?_) (fun h => ?_)) | (refine BrN.mk (fun h => ?_) ?_)
  rw [show (2 : Int) * (n : Int) = ((2 * n : Nat) : Int) by omega]
  refine CallVC.eq (ways_tab (2 * n) (by omega)) ?_
  have hT : ((2 : Int) * (n : Int)).toNat = 2 * n := by omega
  repeat' first | (refine Br.dec (fun h => ?_) (fun h => ?_) <;> try (exfalso; omega)) | (refine Br.eqi (fun h => ?_) (fun h => ?_) <;> try (exfalso; omega)) | (simp (disch := (first | omega | (simp only [List.length_cons, List.length_nil, List.length_append, List.length_map, List.length_replicate, List.length_take, List.length_drop, List.length_set, tab_length, tabD_len, i64s_len, bls_len, u8s_len, tbl_len, rows_len]; first | done | omega))) only [↓va0, ↓va1, ↓va2, vb0, vb1, vb2, vb3, vb4, vb5, vb6, vb7, vb8, vb9, vz0, vz1, vy0, vx0, ↓reduceIte, Nat.reduceBEq, Nat.reduceEqDiff, Nat.reduceLT, Nat.reduceLeDiff, Nat.reduceAdd, Nat.reduceMul, Nat.reduceSub, reduceCtorEq, Int.reduceToNat]) | (refine Br.mk (fun h => ?_) (fun h => ?_)) | (refine BrN.mk (fun h => ?_) ?_)
  · rw [hT, hw0] at *
    omega
  · refine LoopVC.mk (X := Nat × Int × Nat × List Bool) (fun x => [(1, iv .i64 x.2.1), (7, .ref 1 1 0 x.2.2.2.length), (8, iv .i64 x.2.2.1), (9, iv .i64 ((x.1 : Int) - 1))]) (fun x => [(1, ⟨1, bls x.2.2.2, true, false, .arr⟩)]) (fun x => x.1) (fun x => x.1 ≤ 2 * n ∧ 0 ≤ x.2.1 ∧ x.2.1 < nestI x.1 x.2.2.1 ∧ x.2.2.1 + x.1 ≤ 2 * n ∧ x.2.2.2.length + x.1 = 2 * n ∧ unr (2 * n) 0 r = x.2.2.2 ++ unr x.1 x.2.2.1 x.2.1) (2 * n, r, 0, []) ⟨by simp, hr.1, hr.2, by simp, by simp, by simp⟩ ?_ ?_
    · (simp (disch := (first | omega | (simp only [List.length_cons, List.length_nil, List.length_append, List.length_map, List.length_replicate, List.length_take, List.length_drop, List.length_set, tab_length, tabD_len, i64s_len, bls_len, u8s_len, tbl_len, rows_len]; first | done | omega))) only [Fits_u, Fits_m, Fits_nil, List.length_append, ↓va0, ↓va1, ↓va2, vb0, vb1, vb2, vb3, vb4, vb5, vb6, vb7, vb8, vb9, vz0, vz1, vy0, vx0, ↓reduceIte, Nat.reduceBEq, Nat.reduceEqDiff, Nat.reduceLT, Nat.reduceLeDiff, Nat.reduceAdd, Nat.reduceMul, Nat.reduceSub, reduceCtorEq, Int.reduceToNat] <;> (repeat' first | rfl | apply And.intro))
    · rintro ⟨k, a, d, l⟩ ⟨h1, h2, h3, h4, h5, h6⟩
      simp only at h1 h2 h3 h4 h5 h6
      have hnk : 1 ≤ k → nestI k d = nestI (k - 1) ((d : Int) + 1) + nestI (k - 1) ((d : Int) - 1) := fun hk => by
        obtain ⟨k, rfl⟩ : ∃ q, k = q + 1 := ⟨k - 1, by omega⟩
        rw [nestI] at h3 ⊢
        split at h3
        · omega
        · next h => rw [if_neg h]; rfl
      have hun : 1 ≤ k → unr k d a = if a < nestI (k - 1) ((d : Int) + 1) then true :: unr (k - 1) ((d : Int) + 1) a else false :: unr (k - 1) ((d : Int) - 1) (a - nestI (k - 1) ((d : Int) + 1)) := fun hk => by
        obtain ⟨k, rfl⟩ : ∃ q, k = q + 1 := ⟨k - 1, by omega⟩
        rw [unr]; rfl
      have hwn : 1 ≤ k → wy (2 * n) (k - 1) (d + 1) = nestI (k - 1) ((d : Int) + 1) := fun hk => wy_nest (by omega)
      have b1 := @nestI_small (k - 1) ((d : Int) + 1) (by omega)
      have b2 := @wy_small (2 * n) (k - 1) (d + 1) (by omega)
      have b3 := @nestI_small k (d : Int) (by omega)
      repeat' first | (refine Br.dec (fun h => ?_) (fun h => ?_) <;> try (exfalso; omega)) | (refine Br.eqi (fun h => ?_) (fun h => ?_) <;> try (exfalso; omega)) | (simp (disch := (first | omega | (simp only [List.length_cons, List.length_nil, List.length_append, List.length_map, List.length_replicate, List.length_take, List.length_drop, List.length_set, tab_length, tabD_len, i64s_len, bls_len, u8s_len, tbl_len, rows_len]; first | done | omega))) only [↓va0, ↓va1, ↓va2, vb0, vb1, vb2, vb3, vb4, vb5, vb6, vb7, vb8, vb9, vz0, vz1, vy0, vx0, ↓reduceIte, Nat.reduceBEq, Nat.reduceEqDiff, Nat.reduceLT, Nat.reduceLeDiff, Nat.reduceAdd, Nat.reduceMul, Nat.reduceSub, reduceCtorEq, Int.reduceToNat]) | (refine Br.mk (fun h => ?_) (fun h => ?_)) | (refine BrN.mk (fun h => ?_) ?_)
      · have ha : a < ↑(wy (2 * n) (k - 1) (d + 1)) := by assumption
        have hk : 1 ≤ k := by omega
        rw [hwn hk] at ha ⊢
        rw [decide_eq_true ha]
        refine CallVC.eq (height_spec true) ?_
        repeat' first | (refine Br.dec (fun h => ?_) (fun h => ?_) <;> try (exfalso; omega)) | (refine Br.eqi (fun h => ?_) (fun h => ?_) <;> try (exfalso; omega)) | (simp (disch := (first | omega | (simp only [List.length_cons, List.length_nil, List.length_append, List.length_map, List.length_replicate, List.length_take, List.length_drop, List.length_set, tab_length, tabD_len, i64s_len, bls_len, u8s_len, tbl_len, rows_len]; first | done | omega))) only [↓va0, ↓va1, ↓va2, vb0, vb1, vb2, vb3, vb4, vb5, vb6, vb7, vb8, vb9, vz0, vz1, vy0, vx0, ↓reduceIte, Nat.reduceBEq, Nat.reduceEqDiff, Nat.reduceLT, Nat.reduceLeDiff, Nat.reduceAdd, Nat.reduceMul, Nat.reduceSub, reduceCtorEq, Int.reduceToNat]) | (refine Br.mk (fun h => ?_) (fun h => ?_)) | (refine BrN.mk (fun h => ?_) ?_)
        refine loopK.mk (k - 1, a, d + 1, l ++ [true]) (by simp (disch := (first | omega | (simp only [List.length_cons, List.length_nil, List.length_append, List.length_map, List.length_replicate, List.length_take, List.length_drop, List.length_set, tab_length, tabD_len, i64s_len, bls_len, u8s_len, tbl_len, rows_len]; first | done | omega))) only [↓va0, ↓va1, ↓va2, vb0, vb1, vb2, vb3, vb4, vb5, vb6, vb7, vb8, vb9, vz0, vz1, vy0, vx0, ↓reduceIte, Nat.reduceBEq, Nat.reduceEqDiff, Nat.reduceLT, Nat.reduceLeDiff, Nat.reduceAdd, Nat.reduceMul, Nat.reduceSub, reduceCtorEq, Int.reduceToNat]) ⟨by simp only; omega, h2, ha, by simp only; omega, by simp; omega, ?_⟩ (by simp only; omega) ?_
        · simp only
          rw [h6, hun hk, if_pos ha, List.append_assoc]; rfl
        · (simp (disch := (first | omega | (simp only [List.length_cons, List.length_nil, List.length_append, List.length_map, List.length_replicate, List.length_take, List.length_drop, List.length_set, tab_length, tabD_len, i64s_len, bls_len, u8s_len, tbl_len, rows_len]; first | done | omega))) only [Fits_u, Fits_m, Fits_nil, List.length_append, ↓va0, ↓va1, ↓va2, vb0, vb1, vb2, vb3, vb4, vb5, vb6, vb7, vb8, vb9, vz0, vz1, vy0, vx0, ↓reduceIte, Nat.reduceBEq, Nat.reduceEqDiff, Nat.reduceLT, Nat.reduceLeDiff, Nat.reduceAdd, Nat.reduceMul, Nat.reduceSub, reduceCtorEq, Int.reduceToNat] <;> (repeat' first | rfl | apply And.intro))
          · exact viEq (by omega)
          · simp [bls]
      · have ha : ¬ a < ↑(wy (2 * n) (k - 1) (d + 1)) := by assumption
        have hk : 1 ≤ k := by omega
        rw [hwn hk] at ha ⊢
        rw [decide_eq_false ha]
        have hd1 : 1 ≤ d := by
          have := hnk hk
          by_cases e : d = 0
          · rw [nestI_out (d := (d : Int) - 1) (by omega)] at this; omega
          · omega
        have hnk2 := hnk hk
        refine CallVC.eq (height_spec false) ?_
        repeat' first | (refine Br.dec (fun h => ?_) (fun h => ?_) <;> try (exfalso; omega)) | (refine Br.eqi (fun h => ?_) (fun h => ?_) <;> try (exfalso; omega)) | (simp (disch := (first | omega | (simp only [List.length_cons, List.length_nil, List.length_append, List.length_map, List.length_replicate, List.length_take, List.length_drop, List.length_set, tab_length, tabD_len, i64s_len, bls_len, u8s_len, tbl_len, rows_len]; first | done | omega))) only [↓va0, ↓va1, ↓va2, vb0, vb1, vb2, vb3, vb4, vb5, vb6, vb7, vb8, vb9, vz0, vz1, vy0, vx0, ↓reduceIte, Nat.reduceBEq, Nat.reduceEqDiff, Nat.reduceLT, Nat.reduceLeDiff, Nat.reduceAdd, Nat.reduceMul, Nat.reduceSub, reduceCtorEq, Int.reduceToNat]) | (refine Br.mk (fun h => ?_) (fun h => ?_)) | (refine BrN.mk (fun h => ?_) ?_)
        refine loopK.mk (k - 1, a - nestI (k - 1) ((d : Int) + 1), d - 1, l ++ [false]) (by simp (disch := (first | omega | (simp only [List.length_cons, List.length_nil, List.length_append, List.length_map, List.length_replicate, List.length_take, List.length_drop, List.length_set, tab_length, tabD_len, i64s_len, bls_len, u8s_len, tbl_len, rows_len]; first | done | omega))) only [↓va0, ↓va1, ↓va2, vb0, vb1, vb2, vb3, vb4, vb5, vb6, vb7, vb8, vb9, vz0, vz1, vy0, vx0, ↓reduceIte, Nat.reduceBEq, Nat.reduceEqDiff, Nat.reduceLT, Nat.reduceLeDiff, Nat.reduceAdd, Nat.reduceMul, Nat.reduceSub, reduceCtorEq, Int.reduceToNat]) ⟨by simp only; omega, by simp only; omega, ?_, by simp only; omega, by simp; omega, ?_⟩ (by simp only; omega) ?_
        · simp only
          rw [show ((d - 1 : Nat) : Int) = (d : Int) - 1 by omega]; omega
        · simp only
          rw [h6, hun hk, if_neg ha, List.append_assoc, show ((d - 1 : Nat) : Int) = (d : Int) - 1 by omega]; rfl
        · (simp (disch := (first | omega | (simp only [List.length_cons, List.length_nil, List.length_append, List.length_map, List.length_replicate, List.length_take, List.length_drop, List.length_set, tab_length, tabD_len, i64s_len, bls_len, u8s_len, tbl_len, rows_len]; first | done | omega))) only [Fits_u, Fits_m, Fits_nil, List.length_append, ↓va0, ↓va1, ↓va2, vb0, vb1, vb2, vb3, vb4, vb5, vb6, vb7, vb8, vb9, vz0, vz1, vy0, vx0, ↓reduceIte, Nat.reduceBEq, Nat.reduceEqDiff, Nat.reduceLT, Nat.reduceLeDiff, Nat.reduceAdd, Nat.reduceMul, Nat.reduceSub, reduceCtorEq, Int.reduceToNat] <;> (repeat' first | rfl | apply And.intro))
          all_goals first | exact viEq (by omega) | (simp [bls]; done) | omega
      · refine fin_mk ?_
        rw [h6, show k = 0 by omega, unr, List.append_nil]
set_option maxRecDepth 10000 in
set_option maxHeartbeats 4000000 in
theorem word_none (n : Nat) (hn : n ≤ 8) (r : Int) (hr : r < 0 ∨ (nestI (2 * n) 0 : Int) ≤ r) : Dm.Spec Try.prog 12 [iv .i64 n, iv .i64 r] (· = .tu [.sl 1 [], .v (.int .i64 5)]) := by
  refine spec_of_vc mixed Try.func12 c12 (by rw [show Try.f12.ntmps = _ from Try.ntmps12]; simp) ?_
  unfold m12 r12
  have hw0 : wy (2 * n) (2 * n) 0 = nestI (2 * n) 0 := wy_nest (by omega)
  have hT : ((2 : Int) * (n : Int)).toNat = 2 * n := by omega
  repeat' first | (refine Br.dec (fun h => ?_) (fun h => ?_) <;> try (exfalso; omega)) | (refine Br.eqi (fun h => ?_) (fun h => ?_) <;> try (exfalso; omega)) | (simp (disch := (first | omega | (simp only [List.length_cons, List.length_nil, List.length_append, List.length_map, List.length_replicate, List.length_take, List.length_drop, List.length_set, tab_length, tabD_len, i64s_len, bls_len, u8s_len, tbl_len, rows_len]; first | done | omega))) only [↓va0, ↓va1, ↓va2, vb0, vb1, vb2, vb3, vb4, vb5, vb6, vb7, vb8, vb9, vz0, vz1, vy0, vx0, ↓reduceIte, Nat.reduceBEq, Nat.reduceEqDiff, Nat.reduceLT, Nat.reduceLeDiff, Nat.reduceAdd, Nat.reduceMul, Nat.reduceSub, reduceCtorEq, Int.reduceToNat]) | (refine Br.mk (fun h => ?_) (fun h => ?_)) | (refine BrN.mk (fun h => ?_) ?_)
  rw [show (2 : Int) * (n : Int) = ((2 * n : Nat) : Int) by omega]
  refine CallVC.eq (ways_tab (2 * n) (by omega)) ?_
  repeat' first | (refine Br.dec (fun h => ?_) (fun h => ?_) <;> try (exfalso; omega)) | (refine Br.eqi (fun h => ?_) (fun h => ?_) <;> try (exfalso; omega)) | (simp (disch := (first | omega | (simp only [List.length_cons, List.length_nil, List.length_append, List.length_map, List.length_replicate, List.length_take, List.length_drop, List.length_set, tab_length, tabD_len, i64s_len, bls_len, u8s_len, tbl_len, rows_len]; first | done | omega))) only [↓va0, ↓va1, ↓va2, vb0, vb1, vb2, vb3, vb4, vb5, vb6, vb7, vb8, vb9, vz0, vz1, vy0, vx0, ↓reduceIte, Nat.reduceBEq, Nat.reduceEqDiff, Nat.reduceLT, Nat.reduceLeDiff, Nat.reduceAdd, Nat.reduceMul, Nat.reduceSub, reduceCtorEq, Int.reduceToNat]) | (refine Br.mk (fun h => ?_) (fun h => ?_)) | (refine BrN.mk (fun h => ?_) ?_)
  · exact fin_mk rfl
  · exact fin_mk rfl
  · rw [hT, hw0] at *
    omega
set_option maxRecDepth 10000 in
set_option maxHeartbeats 4000000 in
theorem word_big (n r : Int) (hn : n < 0 ∨ 8 < n) : Dm.Spec Try.prog 12 [iv .i64 n, iv .i64 r] (· = .tu [.sl 1 [], .v (.int .i64 1)]) := by
  refine spec_of_vc mixed Try.func12 c12 (by rw [show Try.f12.ntmps = _ from Try.ntmps12]; simp) ?_
  unfold m12 r12
  repeat' first | (refine Br.dec (fun h => ?_) (fun h => ?_) <;> try (exfalso; omega)) | (refine Br.eqi (fun h => ?_) (fun h => ?_) <;> try (exfalso; omega)) | (simp (disch := (first | omega | (simp only [List.length_cons, List.length_nil, List.length_append, List.length_map, List.length_replicate, List.length_take, List.length_drop, List.length_set, tab_length, tabD_len, i64s_len, bls_len, u8s_len, tbl_len, rows_len]; first | done | omega))) only [↓va0, ↓va1, ↓va2, vb0, vb1, vb2, vb3, vb4, vb5, vb6, vb7, vb8, vb9, vz0, vz1, vy0, vx0, ↓reduceIte, Nat.reduceBEq, Nat.reduceEqDiff, Nat.reduceLT, Nat.reduceLeDiff, Nat.reduceAdd, Nat.reduceMul, Nat.reduceSub, reduceCtorEq, Int.reduceToNat]) | (refine Br.mk (fun h => ?_) (fun h => ?_)) | (refine BrN.mk (fun h => ?_) ?_)
  all_goals exact fin_mk rfl
set_option maxRecDepth 10000 in
set_option maxHeartbeats 4000000 in
theorem bracketWords_spec (n : Int) (hn : ok64 n) (i : Int) (hi : ok64 i) : Dm.Spec Try.prog 4 [iv .i64 n, iv .i64 i] (· = .v (.bool true)) := by
  refine spec_of_vc mixed Try.func4 c4 (by rw [show Try.f4.ntmps = _ from Try.ntmps4]; simp) ?_
  unfold m4 r4
  by_cases hw : n < 0 ∨ 8 < n
  · repeat' first | (refine Br.dec (fun h => ?_) (fun h => ?_) <;> try (exfalso; omega)) | (refine Br.eqi (fun h => ?_) (fun h => ?_) <;> try (exfalso; omega)) | (simp (disch := (first | omega | (simp only [List.length_cons, List.length_nil, List.length_append, List.length_map, List.length_replicate, List.length_take, List.length_drop, List.length_set, tab_length, tabD_len, i64s_len, bls_len, u8s_len, tbl_len, rows_len]; first | done | omega))) only [↓va0, ↓va1, ↓va2, vb0, vb1, vb2, vb3, vb4, vb5, vb6, vb7, vb8, vb9, vz0, vz1, vy0, vx0, ↓reduceIte, Nat.reduceBEq, Nat.reduceEqDiff, Nat.reduceLT, Nat.reduceLeDiff, Nat.reduceAdd, Nat.reduceMul, Nat.reduceSub, reduceCtorEq, Int.reduceToNat]) | (refine Br.mk (fun h => ?_) (fun h => ?_)) | (refine BrN.mk (fun h => ?_) ?_)
    refine CallVC.eq (word_big n i hw) ?_
    repeat' first | (refine Br.dec (fun h => ?_) (fun h => ?_) <;> try (exfalso; omega)) | (refine Br.eqi (fun h => ?_) (fun h => ?_) <;> try (exfalso; omega)) | (simp (disch := (first | omega | (simp only [List.length_cons, List.length_nil, List.length_append, List.length_map, List.length_replicate, List.length_take, List.length_drop, List.length_set, tab_length, tabD_len, i64s_len, bls_len, u8s_len, tbl_len, rows_len]; first | done | omega))) only [↓va0, ↓va1, ↓va2, vb0, vb1, vb2, vb3, vb4, vb5, vb6, vb7, vb8, vb9, vz0, vz1, vy0, vx0, ↓reduceIte, Nat.reduceBEq, Nat.reduceEqDiff, Nat.reduceLT, Nat.reduceLeDiff, Nat.reduceAdd, Nat.reduceMul, Nat.reduceSub, reduceCtorEq, Int.reduceToNat]) | (refine Br.mk (fun h => ?_) (fun h => ?_)) | (refine BrN.mk (fun h => ?_) ?_)
    all_goals exact fin_mk rfl
  · obtain ⟨n, rfl⟩ : ∃ q : Nat, n = q := ⟨n.toNat, by omega⟩
    have hc : ((cats n).getD n 0) = (nestI (2 * n) 0 : Int) := by rw [cats_many n (by omega), wy_nest (by omega)]; rfl
    by_cases hr : 0 ≤ i ∧ i < nestI (2 * n) 0
    · have hu := unr_spec (k := 2 * n) (d := 0) (i := i) (by omega) hr.1 hr.2
      have hlen := @unr_len (2 * n) 0 i
      repeat' first | (refine Br.dec (fun h => ?_) (fun h => ?_) <;> try (exfalso; omega)) | (refine Br.eqi (fun h => ?_) (fun h => ?_) <;> try (exfalso; omega)) | (simp (disch := (first | omega | (simp only [List.length_cons, List.length_nil, List.length_append, List.length_map, List.length_replicate, List.length_take, List.length_drop, List.length_set, tab_length, tabD_len, i64s_len, bls_len, u8s_len, tbl_len, rows_len]; first | done | omega))) only [↓va0, ↓va1, ↓va2, vb0, vb1, vb2, vb3, vb4, vb5, vb6, vb7, vb8, vb9, vz0, vz1, vy0, vx0, ↓reduceIte, Nat.reduceBEq, Nat.reduceEqDiff, Nat.reduceLT, Nat.reduceLeDiff, Nat.reduceAdd, Nat.reduceMul, Nat.reduceSub, reduceCtorEq, Int.reduceToNat]) | (refine Br.mk (fun h => ?_) (fun h => ?_)) | (refine BrN.mk (fun h => ?_) ?_)
      refine CallVC.eq (word_spec n (by omega) i hr) ?_
      repeat' first | (refine Br.dec (fun h => ?_) (fun h => ?_) <;> try (exfalso; omega)) | (refine Br.eqi (fun h => ?_) (fun h => ?_) <;> try (exfalso; omega)) | (simp (disch := (first | omega | (simp only [List.length_cons, List.length_nil, List.length_append, List.length_map, List.length_replicate, List.length_take, List.length_drop, List.length_set, tab_length, tabD_len, i64s_len, bls_len, u8s_len, tbl_len, rows_len]; first | done | omega))) only [↓va0, ↓va1, ↓va2, vb0, vb1, vb2, vb3, vb4, vb5, vb6, vb7, vb8, vb9, vz0, vz1, vy0, vx0, ↓reduceIte, Nat.reduceBEq, Nat.reduceEqDiff, Nat.reduceLT, Nat.reduceLeDiff, Nat.reduceAdd, Nat.reduceMul, Nat.reduceSub, reduceCtorEq, Int.reduceToNat]) | (refine Br.mk (fun h => ?_) (fun h => ?_)) | (refine BrN.mk (fun h => ?_) ?_)
      refine CallVC.eq (catalan_spec n (by omega)) ?_
      rw [hc]
      repeat' first | (refine Br.dec (fun h => ?_) (fun h => ?_) <;> try (exfalso; omega)) | (refine Br.eqi (fun h => ?_) (fun h => ?_) <;> try (exfalso; omega)) | (simp (disch := (first | omega | (simp only [List.length_cons, List.length_nil, List.length_append, List.length_map, List.length_replicate, List.length_take, List.length_drop, List.length_set, tab_length, tabD_len, i64s_len, bls_len, u8s_len, tbl_len, rows_len]; first | done | omega))) only [↓va0, ↓va1, ↓va2, vb0, vb1, vb2, vb3, vb4, vb5, vb6, vb7, vb8, vb9, vz0, vz1, vy0, vx0, ↓reduceIte, Nat.reduceBEq, Nat.reduceEqDiff, Nat.reduceLT, Nat.reduceLeDiff, Nat.reduceAdd, Nat.reduceMul, Nat.reduceSub, reduceCtorEq, Int.reduceToNat]) | (refine Br.mk (fun h => ?_) (fun h => ?_)) | (refine BrN.mk (fun h => ?_) ?_)
      refine CallVC.eq (closed_spec _ (by omega)) ?_
      rw [hu.1]
      repeat' first | (refine Br.dec (fun h => ?_) (fun h => ?_) <;> try (exfalso; omega)) | (refine Br.eqi (fun h => ?_) (fun h => ?_) <;> try (exfalso; omega)) | (simp (disch := (first | omega | (simp only [List.length_cons, List.length_nil, List.length_append, List.length_map, List.length_replicate, List.length_take, List.length_drop, List.length_set, tab_length, tabD_len, i64s_len, bls_len, u8s_len, tbl_len, rows_len]; first | done | omega))) only [↓va0, ↓va1, ↓va2, vb0, vb1, vb2, vb3, vb4, vb5, vb6, vb7, vb8, vb9, vz0, vz1, vy0, vx0, ↓reduceIte, Nat.reduceBEq, Nat.reduceEqDiff, Nat.reduceLT, Nat.reduceLeDiff, Nat.reduceAdd, Nat.reduceMul, Nat.reduceSub, reduceCtorEq, Int.reduceToNat]) | (refine Br.mk (fun h => ?_) (fun h => ?_)) | (refine BrN.mk (fun h => ?_) ?_)
      refine CallVC.eq (nested_spec _ (by omega)) ?_
      rw [hu.2]
      repeat' first | (refine Br.dec (fun h => ?_) (fun h => ?_) <;> try (exfalso; omega)) | (refine Br.eqi (fun h => ?_) (fun h => ?_) <;> try (exfalso; omega)) | (simp (disch := (first | omega | (simp only [List.length_cons, List.length_nil, List.length_append, List.length_map, List.length_replicate, List.length_take, List.length_drop, List.length_set, tab_length, tabD_len, i64s_len, bls_len, u8s_len, tbl_len, rows_len]; first | done | omega))) only [↓va0, ↓va1, ↓va2, vb0, vb1, vb2, vb3, vb4, vb5, vb6, vb7, vb8, vb9, vz0, vz1, vy0, vx0, ↓reduceIte, Nat.reduceBEq, Nat.reduceEqDiff, Nat.reduceLT, Nat.reduceLeDiff, Nat.reduceAdd, Nat.reduceMul, Nat.reduceSub, reduceCtorEq, Int.reduceToNat]) | (refine Br.mk (fun h => ?_) (fun h => ?_)) | (refine BrN.mk (fun h => ?_) ?_)
      exact fin_mk (vbEq (by simp))
    · repeat' first | (refine Br.dec (fun h => ?_) (fun h => ?_) <;> try (exfalso; omega)) | (refine Br.eqi (fun h => ?_) (fun h => ?_) <;> try (exfalso; omega)) | (simp (disch := (first | omega | (simp only [List.length_cons, List.length_nil, List.length_append, List.length_map, List.length_replicate, List.length_take, List.length_drop, List.length_set, tab_length, tabD_len, i64s_len, bls_len, u8s_len, tbl_len, rows_len]; first | done | omega))) only [↓va0, ↓va1, ↓va2, vb0, vb1, vb2, vb3, vb4, vb5, vb6, vb7, vb8, vb9, vz0, vz1, vy0, vx0, ↓reduceIte, Nat.reduceBEq, Nat.reduceEqDiff, Nat.reduceLT, Nat.reduceLeDiff, Nat.reduceAdd, Nat.reduceMul, Nat.reduceSub, reduceCtorEq, Int.reduceToNat]) | (refine Br.mk (fun h => ?_) (fun h => ?_)) | (refine BrN.mk (fun h => ?_) ?_)
      refine CallVC.eq (word_none n (by omega) i (by omega)) ?_
      repeat' first | (refine Br.dec (fun h => ?_) (fun h => ?_) <;> try (exfalso; omega)) | (refine Br.eqi (fun h => ?_) (fun h => ?_) <;> try (exfalso; omega)) | (simp (disch := (first | omega | (simp only [List.length_cons, List.length_nil, List.length_append, List.length_map, List.length_replicate, List.length_take, List.length_drop, List.length_set, tab_length, tabD_len, i64s_len, bls_len, u8s_len, tbl_len, rows_len]; first | done | omega))) only [↓va0, ↓va1, ↓va2, vb0, vb1, vb2, vb3, vb4, vb5, vb6, vb7, vb8, vb9, vz0, vz1, vy0, vx0, ↓reduceIte, Nat.reduceBEq, Nat.reduceEqDiff, Nat.reduceLT, Nat.reduceLeDiff, Nat.reduceAdd, Nat.reduceMul, Nat.reduceSub, reduceCtorEq, Int.reduceToNat]) | (refine Br.mk (fun h => ?_) (fun h => ?_)) | (refine BrN.mk (fun h => ?_) ?_)
      · exact fin_mk rfl
      · refine CallVC.eq (catalan_spec n (by omega)) ?_
        rw [hc]
        repeat' first | (refine Br.dec (fun h => ?_) (fun h => ?_) <;> try (exfalso; omega)) | (refine Br.eqi (fun h => ?_) (fun h => ?_) <;> try (exfalso; omega)) | (simp (disch := (first | omega | (simp only [List.length_cons, List.length_nil, List.length_append, List.length_map, List.length_replicate, List.length_take, List.length_drop, List.length_set, tab_length, tabD_len, i64s_len, bls_len, u8s_len, tbl_len, rows_len]; first | done | omega))) only [↓va0, ↓va1, ↓va2, vb0, vb1, vb2, vb3, vb4, vb5, vb6, vb7, vb8, vb9, vz0, vz1, vy0, vx0, ↓reduceIte, Nat.reduceBEq, Nat.reduceEqDiff, Nat.reduceLT, Nat.reduceLeDiff, Nat.reduceAdd, Nat.reduceMul, Nat.reduceSub, reduceCtorEq, Int.reduceToNat]) | (refine Br.mk (fun h => ?_) (fun h => ?_)) | (refine BrN.mk (fun h => ?_) ?_)
        all_goals exact fin_mk rfl
end Go.Proofs.Ytllkafockafdcaa
