/-
  begin.Cover: whether the places of a word cover another one; the law BeginCovers.
-/
import Derived.Test.YtinanpbhbafhcaaEnds
namespace Go.Proofs.Ytinanpbhbafhcaa
open Go.Dm
set_option linter.unusedSimpArgs false

/-- A place at or before i, from which u reaches beyond i. -/
def covAt (w u : List UInt8) (i k : Nat) : Prop := ∃ j, j < k ∧ j ≤ i ∧ occ w u (i - j)
noncomputable instance (w u : List UInt8) (i k : Nat) : Decidable (covAt w u i k) := Classical.propDecidable _
def isCov (w u : List UInt8) : Prop := ∀ i, i < w.length → covAt w u i u.length
noncomputable instance (w u : List UInt8) : Decidable (isCov w u) := Classical.propDecidable _
theorem covAt_succ {w u : List UInt8} {i k : Nat} : covAt w u i (k + 1) ↔ covAt w u i k ∨ (k ≤ i ∧ occ w u (i - k)) := by
  constructor
  · rintro ⟨j, h1, h2, h3⟩
    by_cases e : j = k
    · subst e; exact .inr ⟨h2, h3⟩
    · exact .inl ⟨j, by omega, h2, h3⟩
  · rintro (⟨j, h1, h2, h3⟩ | ⟨h2, h3⟩)
    · exact ⟨j, by omega, h2, h3⟩
    · exact ⟨k, by omega, h2, h3⟩
theorem covAt_of {w u : List UInt8} {p i : Nat} (h : occ w u p) (h1 : p ≤ i) (h2 : i < p + u.length) : covAt w u i u.length :=
  ⟨i - p, by omega, by omega, by rwa [show i - (i - p) = p by omega]⟩
theorem covAt_ex {w u : List UInt8} {i : Nat} (h : covAt w u i u.length) : ∃ p, p ≤ i ∧ i < p + u.length ∧ occ w u p := by
  obtain ⟨j, h1, h2, h3⟩ := h
  exact ⟨i - j, by omega, by omega, h3⟩

set_option maxHeartbeats 2000000 in
theorem cover_vc (w u : List UInt8) (hw : w.length ≤ 60 ∧ u.length ≤ 60) (hu : 0 < u.length) : vc Try.prog m11 [.f (finQ r11 (· = .tu [.v (.bool (decide (isCov w u))), .v (.int .i64 0)]))] (S.init [.sl 1 (u8s w), .sl 1 (u8s u)]) := by
  unfold m11 r11
  repeat' first | (refine Br.dec (fun h => ?_) (fun h => ?_) <;> try (exfalso; omega)) | (refine Br.eqi (fun h => ?_) (fun h => ?_) <;> try (exfalso; omega)) | (simp (disch := (first | omega | (simp only [List.length_cons, List.length_nil, List.length_append, List.length_map, List.length_replicate, List.length_take, List.length_drop, List.length_set, tab_length, i64s_len, bls_len, u8s_len, tbl_len, rows_len]; first | done | omega))) only [↓va0, ↓va1, ↓va2, vb0, vb1, vb2, vb3, vb4, vb5, vb6, vb7, vb8, vb9, vz0, vz1, vy0, vx0, ↓reduceIte, Nat.reduceBEq, Nat.reduceEqDiff, Nat.reduceLT, Nat.reduceLeDiff, Nat.reduceAdd, Nat.reduceMul, Nat.reduceSub, reduceCtorEq, Int.reduceToNat]) | (refine Br.mk (fun h => ?_) (fun h => ?_)) | (refine BrN.mk (fun h => ?_) ?_)
  refine CallVC.eqo (large2_spec w u hw) (by simp (disch := (first | omega | (simp only [List.length_cons, List.length_nil, List.length_append, List.length_map, List.length_replicate, List.length_take, List.length_drop, List.length_set, tab_length, i64s_len, bls_len, u8s_len, tbl_len, rows_len]; first | done | omega))) only [↓va0, ↓va1, ↓va2, vb0, vb1, vb2, vb3, vb4, vb5, vb6, vb7, vb8, vb9, vz0, vz1, vy0, vx0, ↓reduceIte, Nat.reduceBEq, Nat.reduceEqDiff, Nat.reduceLT, Nat.reduceLeDiff, Nat.reduceAdd, Nat.reduceMul, Nat.reduceSub, reduceCtorEq, Int.reduceToNat]) ?_
  repeat' first | (refine Br.dec (fun h => ?_) (fun h => ?_) <;> try (exfalso; omega)) | (refine Br.eqi (fun h => ?_) (fun h => ?_) <;> try (exfalso; omega)) | (simp (disch := (first | omega | (simp only [List.length_cons, List.length_nil, List.length_append, List.length_map, List.length_replicate, List.length_take, List.length_drop, List.length_set, tab_length, i64s_len, bls_len, u8s_len, tbl_len, rows_len]; first | done | omega))) only [↓va0, ↓va1, ↓va2, vb0, vb1, vb2, vb3, vb4, vb5, vb6, vb7, vb8, vb9, vz0, vz1, vy0, vx0, ↓reduceIte, Nat.reduceBEq, Nat.reduceEqDiff, Nat.reduceLT, Nat.reduceLeDiff, Nat.reduceAdd, Nat.reduceMul, Nat.reduceSub, reduceCtorEq, Int.reduceToNat]) | (refine Br.mk (fun h => ?_) (fun h => ?_)) | (refine BrN.mk (fun h => ?_) ?_)
  refine LoopVC.mk (X := Nat × Nat) (fun x => [(7, iv .i64 x.2), (8, iv .i64 x.1)]) (fun _ => []) (fun x => w.length + 1 - x.1) (fun x => x.1 ≤ w.length + 1 ∧ x.2 ≤ w.length ∧ (∀ y, y < x.2 → covAt w u y u.length) ∧ (∀ p, p < x.1 → occ w u p → p + u.length ≤ x.2)) (0, 0) ⟨by simp, by simp, by simp, by simp⟩ ?_ ?_
  · (simp (disch := (first | omega | (simp only [List.length_cons, List.length_nil, List.length_append, List.length_map, List.length_replicate, List.length_take, List.length_drop, List.length_set, tab_length, i64s_len, bls_len, u8s_len, tbl_len, rows_len]; first | done | omega))) only [Fits_u, Fits_m, Fits_nil, List.length_append, ↓va0, ↓va1, ↓va2, vb0, vb1, vb2, vb3, vb4, vb5, vb6, vb7, vb8, vb9, vz0, vz1, vy0, vx0, ↓reduceIte, Nat.reduceBEq, Nat.reduceEqDiff, Nat.reduceLT, Nat.reduceLeDiff, Nat.reduceAdd, Nat.reduceMul, Nat.reduceSub, reduceCtorEq, Int.reduceToNat] <;> (repeat' first | rfl | apply And.intro))
  · rintro ⟨i, e⟩ ⟨h1, h2, h3, h4⟩
    simp only at h1 h2 h3 h4
    repeat' first | (refine Br.dec (fun h => ?_) (fun h => ?_) <;> try (exfalso; omega)) | (refine Br.eqi (fun h => ?_) (fun h => ?_) <;> try (exfalso; omega)) | (simp (disch := (first | omega | (simp only [List.length_cons, List.length_nil, List.length_append, List.length_map, List.length_replicate, List.length_take, List.length_drop, List.length_set, tab_length, i64s_len, bls_len, u8s_len, tbl_len, rows_len]; first | done | omega))) only [↓va0, ↓va1, ↓va2, vb0, vb1, vb2, vb3, vb4, vb5, vb6, vb7, vb8, vb9, vz0, vz1, vy0, vx0, ↓reduceIte, Nat.reduceBEq, Nat.reduceEqDiff, Nat.reduceLT, Nat.reduceLeDiff, Nat.reduceAdd, Nat.reduceMul, Nat.reduceSub, reduceCtorEq, Int.reduceToNat]) | (refine Br.mk (fun h => ?_) (fun h => ?_)) | (refine BrN.mk (fun h => ?_) ?_)
    · refine CallVC.eq (equal_spec _ _) ?_
      have eo : decide ((w.take (i + u.length)).drop i = u) = decide (occ w u i) := by
        rw [List.drop_take, Nat.add_sub_cancel_left]
        congr 1
        exact propext ⟨fun e => ⟨by omega, e⟩, fun e => e.2⟩
      rw [eo]
      repeat' first | (refine Br.dec (fun h => ?_) (fun h => ?_) <;> try (exfalso; omega)) | (refine Br.eqi (fun h => ?_) (fun h => ?_) <;> try (exfalso; omega)) | (simp (disch := (first | omega | (simp only [List.length_cons, List.length_nil, List.length_append, List.length_map, List.length_replicate, List.length_take, List.length_drop, List.length_set, tab_length, i64s_len, bls_len, u8s_len, tbl_len, rows_len]; first | done | omega))) only [↓va0, ↓va1, ↓va2, vb0, vb1, vb2, vb3, vb4, vb5, vb6, vb7, vb8, vb9, vz0, vz1, vy0, vx0, ↓reduceIte, Nat.reduceBEq, Nat.reduceEqDiff, Nat.reduceLT, Nat.reduceLeDiff, Nat.reduceAdd, Nat.reduceMul, Nat.reduceSub, reduceCtorEq, Int.reduceToNat]) | (refine Br.mk (fun h => ?_) (fun h => ?_)) | (refine BrN.mk (fun h => ?_) ?_)
      · have ho : occ w u i := by assumption
        refine fin_mk ?_
        rw [decide_eq_false]
        intro hc
        obtain ⟨p, hp1, hp2, hp3⟩ := covAt_ex (hc e (by omega))
        have := h4 p (by omega) hp3
        omega
      · have ho : occ w u i := by assumption
        refine loopK.mk (i + 1, i + u.length) (by simp (disch := (first | omega | (simp only [List.length_cons, List.length_nil, List.length_append, List.length_map, List.length_replicate, List.length_take, List.length_drop, List.length_set, tab_length, i64s_len, bls_len, u8s_len, tbl_len, rows_len]; first | done | omega))) only [↓va0, ↓va1, ↓va2, vb0, vb1, vb2, vb3, vb4, vb5, vb6, vb7, vb8, vb9, vz0, vz1, vy0, vx0, ↓reduceIte, Nat.reduceBEq, Nat.reduceEqDiff, Nat.reduceLT, Nat.reduceLeDiff, Nat.reduceAdd, Nat.reduceMul, Nat.reduceSub, reduceCtorEq, Int.reduceToNat]) ⟨by simp only; omega, by simp only; omega, fun y hy => ?_, fun p hp hpo => ?_⟩ (by simp only; omega) (by (simp (disch := (first | omega | (simp only [List.length_cons, List.length_nil, List.length_append, List.length_map, List.length_replicate, List.length_take, List.length_drop, List.length_set, tab_length, i64s_len, bls_len, u8s_len, tbl_len, rows_len]; first | done | omega))) only [Fits_u, Fits_m, Fits_nil, List.length_append, ↓va0, ↓va1, ↓va2, vb0, vb1, vb2, vb3, vb4, vb5, vb6, vb7, vb8, vb9, vz0, vz1, vy0, vx0, ↓reduceIte, Nat.reduceBEq, Nat.reduceEqDiff, Nat.reduceLT, Nat.reduceLeDiff, Nat.reduceAdd, Nat.reduceMul, Nat.reduceSub, reduceCtorEq, Int.reduceToNat] <;> (repeat' first | rfl | apply And.intro)))
        · by_cases q : y < e
          · exact h3 y q
          · exact covAt_of ho (by omega) (by simp only at hy; omega)
        · by_cases q : p = i
          · subst q; simp only; omega
          · have := h4 p (by simp only at hp; omega) hpo
            simp only; omega
      · have ho : ¬ occ w u i := by assumption
        refine loopK.mk (i + 1, e) (by simp (disch := (first | omega | (simp only [List.length_cons, List.length_nil, List.length_append, List.length_map, List.length_replicate, List.length_take, List.length_drop, List.length_set, tab_length, i64s_len, bls_len, u8s_len, tbl_len, rows_len]; first | done | omega))) only [↓va0, ↓va1, ↓va2, vb0, vb1, vb2, vb3, vb4, vb5, vb6, vb7, vb8, vb9, vz0, vz1, vy0, vx0, ↓reduceIte, Nat.reduceBEq, Nat.reduceEqDiff, Nat.reduceLT, Nat.reduceLeDiff, Nat.reduceAdd, Nat.reduceMul, Nat.reduceSub, reduceCtorEq, Int.reduceToNat]) ⟨by simp only; omega, h2, h3, fun p hp hpo => ?_⟩ (by simp only; omega) (by (simp (disch := (first | omega | (simp only [List.length_cons, List.length_nil, List.length_append, List.length_map, List.length_replicate, List.length_take, List.length_drop, List.length_set, tab_length, i64s_len, bls_len, u8s_len, tbl_len, rows_len]; first | done | omega))) only [Fits_u, Fits_m, Fits_nil, List.length_append, ↓va0, ↓va1, ↓va2, vb0, vb1, vb2, vb3, vb4, vb5, vb6, vb7, vb8, vb9, vz0, vz1, vy0, vx0, ↓reduceIte, Nat.reduceBEq, Nat.reduceEqDiff, Nat.reduceLT, Nat.reduceLeDiff, Nat.reduceAdd, Nat.reduceMul, Nat.reduceSub, reduceCtorEq, Int.reduceToNat] <;> (repeat' first | rfl | apply And.intro)))
        by_cases q : p = i
        · subst q; exact absurd hpo ho
        · exact h4 p (by simp only at hp; omega) hpo
    · refine fin_mk ?_
      have : (decide (isCov w u)) = ((e : Int) == (w.length : Int)) := by
        rw [natBeq]
        by_cases q : e = w.length
        · rw [decide_eq_true q, decide_eq_true (show isCov w u from fun y hy => h3 y (by omega))]
        · rw [decide_eq_false q, decide_eq_false]
          intro hc
          obtain ⟨p, hp1, hp2, hp3⟩ := covAt_ex (hc e (by omega))
          have := hp3.1
          have := h4 p (by omega) hp3
          omega
      rw [this]
theorem cover_spec (w u : List UInt8) (hw : w.length ≤ 60 ∧ u.length ≤ 60) (hu : 0 < u.length) : Dm.Spec Try.prog 11 [.sl 1 (u8s w), .sl 1 (u8s u)] (· = .tu [.v (.bool (decide (isCov w u))), .v (.int .i64 0)]) :=
  spec_of_vc mixed Try.func11 c11 (by rw [show Try.f11.ntmps = _ from Try.ntmps11]; simp) (cover_vc w u hw hu)
set_option maxHeartbeats 2000000 in
theorem cover_nil_vc (w u : List UInt8) (hw : w.length ≤ 60) (hu : u.length = 0) : vc Try.prog m11 [.f (finQ r11 (· = .tu [.v (.bool false), .v (.int .i64 2)]))] (S.init [.sl 1 (u8s w), .sl 1 (u8s u)]) := by
  unfold m11 r11
  repeat' first | (refine Br.dec (fun h => ?_) (fun h => ?_) <;> try (exfalso; omega)) | (refine Br.eqi (fun h => ?_) (fun h => ?_) <;> try (exfalso; omega)) | (simp (disch := (first | omega | (simp only [List.length_cons, List.length_nil, List.length_append, List.length_map, List.length_replicate, List.length_take, List.length_drop, List.length_set, tab_length, i64s_len, bls_len, u8s_len, tbl_len, rows_len]; first | done | omega))) only [↓va0, ↓va1, ↓va2, vb0, vb1, vb2, vb3, vb4, vb5, vb6, vb7, vb8, vb9, vz0, vz1, vy0, vx0, ↓reduceIte, Nat.reduceBEq, Nat.reduceEqDiff, Nat.reduceLT, Nat.reduceLeDiff, Nat.reduceAdd, Nat.reduceMul, Nat.reduceSub, reduceCtorEq, Int.reduceToNat]) | (refine Br.mk (fun h => ?_) (fun h => ?_)) | (refine BrN.mk (fun h => ?_) ?_)
  refine CallVC.eqo (large2_spec w u (by omega)) (by simp (disch := (first | omega | (simp only [List.length_cons, List.length_nil, List.length_append, List.length_map, List.length_replicate, List.length_take, List.length_drop, List.length_set, tab_length, i64s_len, bls_len, u8s_len, tbl_len, rows_len]; first | done | omega))) only [↓va0, ↓va1, ↓va2, vb0, vb1, vb2, vb3, vb4, vb5, vb6, vb7, vb8, vb9, vz0, vz1, vy0, vx0, ↓reduceIte, Nat.reduceBEq, Nat.reduceEqDiff, Nat.reduceLT, Nat.reduceLeDiff, Nat.reduceAdd, Nat.reduceMul, Nat.reduceSub, reduceCtorEq, Int.reduceToNat]) ?_
  repeat' first | (refine Br.dec (fun h => ?_) (fun h => ?_) <;> try (exfalso; omega)) | (refine Br.eqi (fun h => ?_) (fun h => ?_) <;> try (exfalso; omega)) | (simp (disch := (first | omega | (simp only [List.length_cons, List.length_nil, List.length_append, List.length_map, List.length_replicate, List.length_take, List.length_drop, List.length_set, tab_length, i64s_len, bls_len, u8s_len, tbl_len, rows_len]; first | done | omega))) only [↓va0, ↓va1, ↓va2, vb0, vb1, vb2, vb3, vb4, vb5, vb6, vb7, vb8, vb9, vz0, vz1, vy0, vx0, ↓reduceIte, Nat.reduceBEq, Nat.reduceEqDiff, Nat.reduceLT, Nat.reduceLeDiff, Nat.reduceAdd, Nat.reduceMul, Nat.reduceSub, reduceCtorEq, Int.reduceToNat]) | (refine Br.mk (fun h => ?_) (fun h => ?_)) | (refine BrN.mk (fun h => ?_) ?_)
  exact fin_mk rfl
theorem cover_nil (w u : List UInt8) (hw : w.length ≤ 60) (hu : u.length = 0) : Dm.Spec Try.prog 11 [.sl 1 (u8s w), .sl 1 (u8s u)] (· = .tu [.v (.bool false), .v (.int .i64 2)]) :=
  spec_of_vc mixed Try.func11 c11 (by rw [show Try.f11.ntmps = _ from Try.ntmps11]; simp) (cover_nil_vc w u hw hu)
set_option maxHeartbeats 2000000 in
theorem cover_big_vc (w u : List UInt8) (hw : 60 < w.length ∨ 60 < u.length) : vc Try.prog m11 [.f (finQ r11 (· = .tu [.v (.bool false), .v (.int .i64 1)]))] (S.init [.sl 1 (u8s w), .sl 1 (u8s u)]) := by
  unfold m11 r11
  repeat' first | (refine Br.dec (fun h => ?_) (fun h => ?_) <;> try (exfalso; omega)) | (refine Br.eqi (fun h => ?_) (fun h => ?_) <;> try (exfalso; omega)) | (simp (disch := (first | omega | (simp only [List.length_cons, List.length_nil, List.length_append, List.length_map, List.length_replicate, List.length_take, List.length_drop, List.length_set, tab_length, i64s_len, bls_len, u8s_len, tbl_len, rows_len]; first | done | omega))) only [↓va0, ↓va1, ↓va2, vb0, vb1, vb2, vb3, vb4, vb5, vb6, vb7, vb8, vb9, vz0, vz1, vy0, vx0, ↓reduceIte, Nat.reduceBEq, Nat.reduceEqDiff, Nat.reduceLT, Nat.reduceLeDiff, Nat.reduceAdd, Nat.reduceMul, Nat.reduceSub, reduceCtorEq, Int.reduceToNat]) | (refine Br.mk (fun h => ?_) (fun h => ?_)) | (refine BrN.mk (fun h => ?_) ?_)
  refine CallVC.eqo (large2_big w u hw) (by simp (disch := (first | omega | (simp only [List.length_cons, List.length_nil, List.length_append, List.length_map, List.length_replicate, List.length_take, List.length_drop, List.length_set, tab_length, i64s_len, bls_len, u8s_len, tbl_len, rows_len]; first | done | omega))) only [↓va0, ↓va1, ↓va2, vb0, vb1, vb2, vb3, vb4, vb5, vb6, vb7, vb8, vb9, vz0, vz1, vy0, vx0, ↓reduceIte, Nat.reduceBEq, Nat.reduceEqDiff, Nat.reduceLT, Nat.reduceLeDiff, Nat.reduceAdd, Nat.reduceMul, Nat.reduceSub, reduceCtorEq, Int.reduceToNat]) ?_
  repeat' first | (refine Br.dec (fun h => ?_) (fun h => ?_) <;> try (exfalso; omega)) | (refine Br.eqi (fun h => ?_) (fun h => ?_) <;> try (exfalso; omega)) | (simp (disch := (first | omega | (simp only [List.length_cons, List.length_nil, List.length_append, List.length_map, List.length_replicate, List.length_take, List.length_drop, List.length_set, tab_length, i64s_len, bls_len, u8s_len, tbl_len, rows_len]; first | done | omega))) only [↓va0, ↓va1, ↓va2, vb0, vb1, vb2, vb3, vb4, vb5, vb6, vb7, vb8, vb9, vz0, vz1, vy0, vx0, ↓reduceIte, Nat.reduceBEq, Nat.reduceEqDiff, Nat.reduceLT, Nat.reduceLeDiff, Nat.reduceAdd, Nat.reduceMul, Nat.reduceSub, reduceCtorEq, Int.reduceToNat]) | (refine Br.mk (fun h => ?_) (fun h => ?_)) | (refine BrN.mk (fun h => ?_) ?_)
  exact fin_mk rfl
theorem cover_big (w u : List UInt8) (hw : 60 < w.length ∨ 60 < u.length) : Dm.Spec Try.prog 11 [.sl 1 (u8s w), .sl 1 (u8s u)] (· = .tu [.v (.bool false), .v (.int .i64 1)]) :=
  spec_of_vc mixed Try.func11 c11 (by rw [show Try.f11.ntmps = _ from Try.ntmps11]; simp) (cover_big_vc w u hw)

set_option maxHeartbeats 2000000 in
theorem at_neg_vc (w u : List UInt8) (i : Int) (hi : i < 0) : vc Try.prog m32 [.f (finQ r32 (· = .v (.bool false)))] (S.init [.sl 1 (u8s w), .sl 1 (u8s u), .v (.int .i64 i)]) := by
  unfold m32 r32
  repeat' first | (refine Br.dec (fun h => ?_) (fun h => ?_) <;> try (exfalso; omega)) | (refine Br.eqi (fun h => ?_) (fun h => ?_) <;> try (exfalso; omega)) | (simp (disch := (first | omega | (simp only [List.length_cons, List.length_nil, List.length_append, List.length_map, List.length_replicate, List.length_take, List.length_drop, List.length_set, tab_length, i64s_len, bls_len, u8s_len, tbl_len, rows_len]; first | done | omega))) only [↓va0, ↓va1, ↓va2, vb0, vb1, vb2, vb3, vb4, vb5, vb6, vb7, vb8, vb9, vz0, vz1, vy0, vx0, ↓reduceIte, Nat.reduceBEq, Nat.reduceEqDiff, Nat.reduceLT, Nat.reduceLeDiff, Nat.reduceAdd, Nat.reduceMul, Nat.reduceSub, reduceCtorEq, Int.reduceToNat]) | (refine Br.mk (fun h => ?_) (fun h => ?_)) | (refine BrN.mk (fun h => ?_) ?_)
  exact fin_mk rfl
theorem at_neg (w u : List UInt8) (i : Int) (hi : i < 0) : Dm.Spec Try.prog 32 [.sl 1 (u8s w), .sl 1 (u8s u), .v (.int .i64 i)] (· = .v (.bool false)) :=
  spec_of_vc mixed Try.func32 c32 (by rw [show Try.f32.ntmps = _ from Try.ntmps32]; simp) (at_neg_vc w u i hi)

set_option maxHeartbeats 2000000 in
theorem covers_vc (w u : List UInt8) (hw : w.length ≤ 60 ∧ u.length ≤ 60) : vc Try.prog m12 [.f (finQ r12 (· = .v (.bool (decide (isCov w u)))))] (S.init [.sl 1 (u8s w), .sl 1 (u8s u)]) := by
  unfold m12 r12
  repeat' first | (refine Br.dec (fun h => ?_) (fun h => ?_) <;> try (exfalso; omega)) | (refine Br.eqi (fun h => ?_) (fun h => ?_) <;> try (exfalso; omega)) | (simp (disch := (first | omega | (simp only [List.length_cons, List.length_nil, List.length_append, List.length_map, List.length_replicate, List.length_take, List.length_drop, List.length_set, tab_length, i64s_len, bls_len, u8s_len, tbl_len, rows_len]; first | done | omega))) only [↓va0, ↓va1, ↓va2, vb0, vb1, vb2, vb3, vb4, vb5, vb6, vb7, vb8, vb9, vz0, vz1, vy0, vx0, ↓reduceIte, Nat.reduceBEq, Nat.reduceEqDiff, Nat.reduceLT, Nat.reduceLeDiff, Nat.reduceAdd, Nat.reduceMul, Nat.reduceSub, reduceCtorEq, Int.reduceToNat]) | (refine Br.mk (fun h => ?_) (fun h => ?_)) | (refine BrN.mk (fun h => ?_) ?_)
  refine LoopVC.mk (X := Nat) (fun i => [(5, iv .i64 i)]) (fun _ => []) (fun i => w.length - i) (fun i => i ≤ w.length ∧ ∀ y, y < i → covAt w u y u.length) 0 ⟨by omega, by omega⟩ ?_ ?_
  · (simp (disch := (first | omega | (simp only [List.length_cons, List.length_nil, List.length_append, List.length_map, List.length_replicate, List.length_take, List.length_drop, List.length_set, tab_length, i64s_len, bls_len, u8s_len, tbl_len, rows_len]; first | done | omega))) only [Fits_u, Fits_m, Fits_nil, List.length_append, ↓va0, ↓va1, ↓va2, vb0, vb1, vb2, vb3, vb4, vb5, vb6, vb7, vb8, vb9, vz0, vz1, vy0, vx0, ↓reduceIte, Nat.reduceBEq, Nat.reduceEqDiff, Nat.reduceLT, Nat.reduceLeDiff, Nat.reduceAdd, Nat.reduceMul, Nat.reduceSub, reduceCtorEq, Int.reduceToNat] <;> (repeat' first | rfl | apply And.intro))
  · rintro i ⟨h1, h2⟩
    repeat' first | (refine Br.dec (fun h => ?_) (fun h => ?_) <;> try (exfalso; omega)) | (refine Br.eqi (fun h => ?_) (fun h => ?_) <;> try (exfalso; omega)) | (simp (disch := (first | omega | (simp only [List.length_cons, List.length_nil, List.length_append, List.length_map, List.length_replicate, List.length_take, List.length_drop, List.length_set, tab_length, i64s_len, bls_len, u8s_len, tbl_len, rows_len]; first | done | omega))) only [↓va0, ↓va1, ↓va2, vb0, vb1, vb2, vb3, vb4, vb5, vb6, vb7, vb8, vb9, vz0, vz1, vy0, vx0, ↓reduceIte, Nat.reduceBEq, Nat.reduceEqDiff, Nat.reduceLT, Nat.reduceLeDiff, Nat.reduceAdd, Nat.reduceMul, Nat.reduceSub, reduceCtorEq, Int.reduceToNat]) | (refine Br.mk (fun h => ?_) (fun h => ?_)) | (refine BrN.mk (fun h => ?_) ?_)
    · refine LoopVC.mk (X := Nat) (fun k => [(6, .v (.bool (decide (covAt w u i k)))), (7, iv .i64 k)]) (fun _ => []) (fun k => u.length - k) (fun k => k ≤ u.length) 0 (by omega) ?_ ?_
      · (simp (disch := (first | omega | (simp only [List.length_cons, List.length_nil, List.length_append, List.length_map, List.length_replicate, List.length_take, List.length_drop, List.length_set, tab_length, i64s_len, bls_len, u8s_len, tbl_len, rows_len]; first | done | omega))) only [Fits_u, Fits_m, Fits_nil, List.length_append, ↓va0, ↓va1, ↓va2, vb0, vb1, vb2, vb3, vb4, vb5, vb6, vb7, vb8, vb9, vz0, vz1, vy0, vx0, ↓reduceIte, Nat.reduceBEq, Nat.reduceEqDiff, Nat.reduceLT, Nat.reduceLeDiff, Nat.reduceAdd, Nat.reduceMul, Nat.reduceSub, reduceCtorEq, Int.reduceToNat] <;> (repeat' first | rfl | apply And.intro))
        rw [decide_eq_false (by rintro ⟨j, h, _⟩; omega)]
      · rintro k hk
        repeat' first | (refine Br.dec (fun h => ?_) (fun h => ?_) <;> try (exfalso; omega)) | (refine Br.eqi (fun h => ?_) (fun h => ?_) <;> try (exfalso; omega)) | (simp (disch := (first | omega | (simp only [List.length_cons, List.length_nil, List.length_append, List.length_map, List.length_replicate, List.length_take, List.length_drop, List.length_set, tab_length, i64s_len, bls_len, u8s_len, tbl_len, rows_len]; first | done | omega))) only [↓va0, ↓va1, ↓va2, vb0, vb1, vb2, vb3, vb4, vb5, vb6, vb7, vb8, vb9, vz0, vz1, vy0, vx0, ↓reduceIte, Nat.reduceBEq, Nat.reduceEqDiff, Nat.reduceLT, Nat.reduceLeDiff, Nat.reduceAdd, Nat.reduceMul, Nat.reduceSub, reduceCtorEq, Int.reduceToNat]) | (refine Br.mk (fun h => ?_) (fun h => ?_)) | (refine BrN.mk (fun h => ?_) ?_)
        · have hc : covAt w u i k := by assumption
          refine loopK.mk (k + 1) (by simp (disch := (first | omega | (simp only [List.length_cons, List.length_nil, List.length_append, List.length_map, List.length_replicate, List.length_take, List.length_drop, List.length_set, tab_length, i64s_len, bls_len, u8s_len, tbl_len, rows_len]; first | done | omega))) only [↓va0, ↓va1, ↓va2, vb0, vb1, vb2, vb3, vb4, vb5, vb6, vb7, vb8, vb9, vz0, vz1, vy0, vx0, ↓reduceIte, Nat.reduceBEq, Nat.reduceEqDiff, Nat.reduceLT, Nat.reduceLeDiff, Nat.reduceAdd, Nat.reduceMul, Nat.reduceSub, reduceCtorEq, Int.reduceToNat]) (by omega) (by omega) ?_
          (simp (disch := (first | omega | (simp only [List.length_cons, List.length_nil, List.length_append, List.length_map, List.length_replicate, List.length_take, List.length_drop, List.length_set, tab_length, i64s_len, bls_len, u8s_len, tbl_len, rows_len]; first | done | omega))) only [Fits_u, Fits_m, Fits_nil, List.length_append, ↓va0, ↓va1, ↓va2, vb0, vb1, vb2, vb3, vb4, vb5, vb6, vb7, vb8, vb9, vz0, vz1, vy0, vx0, ↓reduceIte, Nat.reduceBEq, Nat.reduceEqDiff, Nat.reduceLT, Nat.reduceLeDiff, Nat.reduceAdd, Nat.reduceMul, Nat.reduceSub, reduceCtorEq, Int.reduceToNat] <;> (repeat' first | rfl | apply And.intro))
          rw [decide_eq_true (covAt_succ.2 (.inl hc))]
        · have hc : ¬ covAt w u i k := by assumption
          by_cases hki : k ≤ i
          · have e : (i : Int) - (k : Int) = ((i - k : Nat) : Int) := by omega
            rw [e]
            refine CallVC.eq (at_spec w u (i - k) hw (by omega)) ?_
            repeat' first | (refine Br.dec (fun h => ?_) (fun h => ?_) <;> try (exfalso; omega)) | (refine Br.eqi (fun h => ?_) (fun h => ?_) <;> try (exfalso; omega)) | (simp (disch := (first | omega | (simp only [List.length_cons, List.length_nil, List.length_append, List.length_map, List.length_replicate, List.length_take, List.length_drop, List.length_set, tab_length, i64s_len, bls_len, u8s_len, tbl_len, rows_len]; first | done | omega))) only [↓va0, ↓va1, ↓va2, vb0, vb1, vb2, vb3, vb4, vb5, vb6, vb7, vb8, vb9, vz0, vz1, vy0, vx0, ↓reduceIte, Nat.reduceBEq, Nat.reduceEqDiff, Nat.reduceLT, Nat.reduceLeDiff, Nat.reduceAdd, Nat.reduceMul, Nat.reduceSub, reduceCtorEq, Int.reduceToNat]) | (refine Br.mk (fun h => ?_) (fun h => ?_)) | (refine BrN.mk (fun h => ?_) ?_)
            refine loopK.mk (k + 1) (by simp (disch := (first | omega | (simp only [List.length_cons, List.length_nil, List.length_append, List.length_map, List.length_replicate, List.length_take, List.length_drop, List.length_set, tab_length, i64s_len, bls_len, u8s_len, tbl_len, rows_len]; first | done | omega))) only [↓va0, ↓va1, ↓va2, vb0, vb1, vb2, vb3, vb4, vb5, vb6, vb7, vb8, vb9, vz0, vz1, vy0, vx0, ↓reduceIte, Nat.reduceBEq, Nat.reduceEqDiff, Nat.reduceLT, Nat.reduceLeDiff, Nat.reduceAdd, Nat.reduceMul, Nat.reduceSub, reduceCtorEq, Int.reduceToNat]) (by omega) (by omega) ?_
            (simp (disch := (first | omega | (simp only [List.length_cons, List.length_nil, List.length_append, List.length_map, List.length_replicate, List.length_take, List.length_drop, List.length_set, tab_length, i64s_len, bls_len, u8s_len, tbl_len, rows_len]; first | done | omega))) only [Fits_u, Fits_m, Fits_nil, List.length_append, ↓va0, ↓va1, ↓va2, vb0, vb1, vb2, vb3, vb4, vb5, vb6, vb7, vb8, vb9, vz0, vz1, vy0, vx0, ↓reduceIte, Nat.reduceBEq, Nat.reduceEqDiff, Nat.reduceLT, Nat.reduceLeDiff, Nat.reduceAdd, Nat.reduceMul, Nat.reduceSub, reduceCtorEq, Int.reduceToNat] <;> (repeat' first | rfl | apply And.intro))
            refine vbEq ?_
            congr 1
            exact propext ⟨fun h => covAt_succ.2 (.inr ⟨hki, h⟩), fun h => (covAt_succ.1 h).elim (fun h => absurd h hc) (fun h => h.2)⟩
          · refine CallVC.eq (at_neg w u _ (by omega)) ?_
            repeat' first | (refine Br.dec (fun h => ?_) (fun h => ?_) <;> try (exfalso; omega)) | (refine Br.eqi (fun h => ?_) (fun h => ?_) <;> try (exfalso; omega)) | (simp (disch := (first | omega | (simp only [List.length_cons, List.length_nil, List.length_append, List.length_map, List.length_replicate, List.length_take, List.length_drop, List.length_set, tab_length, i64s_len, bls_len, u8s_len, tbl_len, rows_len]; first | done | omega))) only [↓va0, ↓va1, ↓va2, vb0, vb1, vb2, vb3, vb4, vb5, vb6, vb7, vb8, vb9, vz0, vz1, vy0, vx0, ↓reduceIte, Nat.reduceBEq, Nat.reduceEqDiff, Nat.reduceLT, Nat.reduceLeDiff, Nat.reduceAdd, Nat.reduceMul, Nat.reduceSub, reduceCtorEq, Int.reduceToNat]) | (refine Br.mk (fun h => ?_) (fun h => ?_)) | (refine BrN.mk (fun h => ?_) ?_)
            refine loopK.mk (k + 1) (by simp (disch := (first | omega | (simp only [List.length_cons, List.length_nil, List.length_append, List.length_map, List.length_replicate, List.length_take, List.length_drop, List.length_set, tab_length, i64s_len, bls_len, u8s_len, tbl_len, rows_len]; first | done | omega))) only [↓va0, ↓va1, ↓va2, vb0, vb1, vb2, vb3, vb4, vb5, vb6, vb7, vb8, vb9, vz0, vz1, vy0, vx0, ↓reduceIte, Nat.reduceBEq, Nat.reduceEqDiff, Nat.reduceLT, Nat.reduceLeDiff, Nat.reduceAdd, Nat.reduceMul, Nat.reduceSub, reduceCtorEq, Int.reduceToNat]) (by omega) (by omega) ?_
            (simp (disch := (first | omega | (simp only [List.length_cons, List.length_nil, List.length_append, List.length_map, List.length_replicate, List.length_take, List.length_drop, List.length_set, tab_length, i64s_len, bls_len, u8s_len, tbl_len, rows_len]; first | done | omega))) only [Fits_u, Fits_m, Fits_nil, List.length_append, ↓va0, ↓va1, ↓va2, vb0, vb1, vb2, vb3, vb4, vb5, vb6, vb7, vb8, vb9, vz0, vz1, vy0, vx0, ↓reduceIte, Nat.reduceBEq, Nat.reduceEqDiff, Nat.reduceLT, Nat.reduceLeDiff, Nat.reduceAdd, Nat.reduceMul, Nat.reduceSub, reduceCtorEq, Int.reduceToNat] <;> (repeat' first | rfl | apply And.intro))
            rw [decide_eq_false]
            exact fun h => (covAt_succ.1 h).elim hc (fun h => hki h.1)
        · have hc : covAt w u i k := by assumption
          have e : k = u.length := by omega
          subst e
          refine loopK.mk (i + 1) (by simp (disch := (first | omega | (simp only [List.length_cons, List.length_nil, List.length_append, List.length_map, List.length_replicate, List.length_take, List.length_drop, List.length_set, tab_length, i64s_len, bls_len, u8s_len, tbl_len, rows_len]; first | done | omega))) only [↓va0, ↓va1, ↓va2, vb0, vb1, vb2, vb3, vb4, vb5, vb6, vb7, vb8, vb9, vz0, vz1, vy0, vx0, ↓reduceIte, Nat.reduceBEq, Nat.reduceEqDiff, Nat.reduceLT, Nat.reduceLeDiff, Nat.reduceAdd, Nat.reduceMul, Nat.reduceSub, reduceCtorEq, Int.reduceToNat]) ⟨by omega, fun y hy => ?_⟩ (by omega) (by (simp (disch := (first | omega | (simp only [List.length_cons, List.length_nil, List.length_append, List.length_map, List.length_replicate, List.length_take, List.length_drop, List.length_set, tab_length, i64s_len, bls_len, u8s_len, tbl_len, rows_len]; first | done | omega))) only [Fits_u, Fits_m, Fits_nil, List.length_append, ↓va0, ↓va1, ↓va2, vb0, vb1, vb2, vb3, vb4, vb5, vb6, vb7, vb8, vb9, vz0, vz1, vy0, vx0, ↓reduceIte, Nat.reduceBEq, Nat.reduceEqDiff, Nat.reduceLT, Nat.reduceLeDiff, Nat.reduceAdd, Nat.reduceMul, Nat.reduceSub, reduceCtorEq, Int.reduceToNat] <;> (repeat' first | rfl | apply And.intro)))
          by_cases q : y = i
          · subst q; exact hc
          · exact h2 y (by omega)
        · have hc : ¬ covAt w u i k := by assumption
          have e : k = u.length := by omega
          subst e
          refine fin_mk (vbEq ?_)
          rw [decide_eq_false]
          exact fun h => hc (h i (by omega))
    · refine fin_mk (vbEq ?_)
      rw [decide_eq_true (show isCov w u from fun y hy => h2 y (by omega))]
theorem covers_spec (w u : List UInt8) (hw : w.length ≤ 60 ∧ u.length ≤ 60) : Dm.Spec Try.prog 12 [.sl 1 (u8s w), .sl 1 (u8s u)] (· = .v (.bool (decide (isCov w u)))) :=
  spec_of_vc mixed Try.func12 c12 (by rw [show Try.f12.ntmps = _ from Try.ntmps12]; simp) (covers_vc w u hw)
set_option maxHeartbeats 2000000 in
theorem beginCovers_vc (w u : List UInt8) : vc Try.prog m3 [.f (finQ r3 (· = .v (.bool true)))] (S.init [.sl 1 (u8s w), .sl 1 (u8s u)]) := by
  unfold m3 r3
  by_cases hw : 60 < w.length ∨ 60 < u.length
  · repeat' first | (refine Br.dec (fun h => ?_) (fun h => ?_) <;> try (exfalso; omega)) | (refine Br.eqi (fun h => ?_) (fun h => ?_) <;> try (exfalso; omega)) | (simp (disch := (first | omega | (simp only [List.length_cons, List.length_nil, List.length_append, List.length_map, List.length_replicate, List.length_take, List.length_drop, List.length_set, tab_length, i64s_len, bls_len, u8s_len, tbl_len, rows_len]; first | done | omega))) only [↓va0, ↓va1, ↓va2, vb0, vb1, vb2, vb3, vb4, vb5, vb6, vb7, vb8, vb9, vz0, vz1, vy0, vx0, ↓reduceIte, Nat.reduceBEq, Nat.reduceEqDiff, Nat.reduceLT, Nat.reduceLeDiff, Nat.reduceAdd, Nat.reduceMul, Nat.reduceSub, reduceCtorEq, Int.reduceToNat]) | (refine Br.mk (fun h => ?_) (fun h => ?_)) | (refine BrN.mk (fun h => ?_) ?_)
    refine CallVC.eq (cover_big w u hw) ?_
    repeat' first | (refine Br.dec (fun h => ?_) (fun h => ?_) <;> try (exfalso; omega)) | (refine Br.eqi (fun h => ?_) (fun h => ?_) <;> try (exfalso; omega)) | (simp (disch := (first | omega | (simp only [List.length_cons, List.length_nil, List.length_append, List.length_map, List.length_replicate, List.length_take, List.length_drop, List.length_set, tab_length, i64s_len, bls_len, u8s_len, tbl_len, rows_len]; first | done | omega))) only [↓va0, ↓va1, ↓va2, vb0, vb1, vb2, vb3, vb4, vb5, vb6, vb7, vb8, vb9, vz0, vz1, vy0, vx0, ↓reduceIte, Nat.reduceBEq, Nat.reduceEqDiff, Nat.reduceLT, Nat.reduceLeDiff, Nat.reduceAdd, Nat.reduceMul, Nat.reduceSub, reduceCtorEq, Int.reduceToNat]) | (refine Br.mk (fun h => ?_) (fun h => ?_)) | (refine BrN.mk (fun h => ?_) ?_)
    all_goals exact fin_mk rfl
  · by_cases hu : u.length = 0
    · repeat' first | (refine Br.dec (fun h => ?_) (fun h => ?_) <;> try (exfalso; omega)) | (refine Br.eqi (fun h => ?_) (fun h => ?_) <;> try (exfalso; omega)) | (simp (disch := (first | omega | (simp only [List.length_cons, List.length_nil, List.length_append, List.length_map, List.length_replicate, List.length_take, List.length_drop, List.length_set, tab_length, i64s_len, bls_len, u8s_len, tbl_len, rows_len]; first | done | omega))) only [↓va0, ↓va1, ↓va2, vb0, vb1, vb2, vb3, vb4, vb5, vb6, vb7, vb8, vb9, vz0, vz1, vy0, vx0, ↓reduceIte, Nat.reduceBEq, Nat.reduceEqDiff, Nat.reduceLT, Nat.reduceLeDiff, Nat.reduceAdd, Nat.reduceMul, Nat.reduceSub, reduceCtorEq, Int.reduceToNat]) | (refine Br.mk (fun h => ?_) (fun h => ?_)) | (refine BrN.mk (fun h => ?_) ?_)
      refine CallVC.eq (cover_nil w u (by omega) hu) ?_
      repeat' first | (refine Br.dec (fun h => ?_) (fun h => ?_) <;> try (exfalso; omega)) | (refine Br.eqi (fun h => ?_) (fun h => ?_) <;> try (exfalso; omega)) | (simp (disch := (first | omega | (simp only [List.length_cons, List.length_nil, List.length_append, List.length_map, List.length_replicate, List.length_take, List.length_drop, List.length_set, tab_length, i64s_len, bls_len, u8s_len, tbl_len, rows_len]; first | done | omega))) only [↓va0, ↓va1, ↓va2, vb0, vb1, vb2, vb3, vb4, vb5, vb6, vb7, vb8, vb9, vz0, vz1, vy0, vx0, ↓reduceIte, Nat.reduceBEq, Nat.reduceEqDiff, Nat.reduceLT, Nat.reduceLeDiff, Nat.reduceAdd, Nat.reduceMul, Nat.reduceSub, reduceCtorEq, Int.reduceToNat]) | (refine Br.mk (fun h => ?_) (fun h => ?_)) | (refine BrN.mk (fun h => ?_) ?_)
      all_goals exact fin_mk rfl
    · repeat' first | (refine Br.dec (fun h => ?_) (fun h => ?_) <;> try (exfalso; omega)) | (refine Br.eqi (fun h => ?_) (fun h => ?_) <;> try (exfalso; omega)) | (simp (disch := (first | omega | (simp only [List.length_cons, List.length_nil, List.length_append, List.length_map, List.length_replicate, List.length_take, List.length_drop, List.length_set, tab_length, i64s_len, bls_len, u8s_len, tbl_len, rows_len]; first | done | omega))) only [↓va0, ↓va1, ↓va2, vb0, vb1, vb2, vb3, vb4, vb5, vb6, vb7, vb8, vb9, vz0, vz1, vy0, vx0, ↓reduceIte, Nat.reduceBEq, Nat.reduceEqDiff, Nat.reduceLT, Nat.reduceLeDiff, Nat.reduceAdd, Nat.reduceMul, Nat.reduceSub, reduceCtorEq, Int.reduceToNat]) | (refine Br.mk (fun h => ?_) (fun h => ?_)) | (refine BrN.mk (fun h => ?_) ?_)
      refine CallVC.eq (cover_spec w u (by omega) (by omega)) ?_
      repeat' first | (refine Br.dec (fun h => ?_) (fun h => ?_) <;> try (exfalso; omega)) | (refine Br.eqi (fun h => ?_) (fun h => ?_) <;> try (exfalso; omega)) | (simp (disch := (first | omega | (simp only [List.length_cons, List.length_nil, List.length_append, List.length_map, List.length_replicate, List.length_take, List.length_drop, List.length_set, tab_length, i64s_len, bls_len, u8s_len, tbl_len, rows_len]; first | done | omega))) only [↓va0, ↓va1, ↓va2, vb0, vb1, vb2, vb3, vb4, vb5, vb6, vb7, vb8, vb9, vz0, vz1, vy0, vx0, ↓reduceIte, Nat.reduceBEq, Nat.reduceEqDiff, Nat.reduceLT, Nat.reduceLeDiff, Nat.reduceAdd, Nat.reduceMul, Nat.reduceSub, reduceCtorEq, Int.reduceToNat]) | (refine Br.mk (fun h => ?_) (fun h => ?_)) | (refine BrN.mk (fun h => ?_) ?_)
      refine CallVC.eq (covers_spec w u (by omega)) ?_
      repeat' first | (refine Br.dec (fun h => ?_) (fun h => ?_) <;> try (exfalso; omega)) | (refine Br.eqi (fun h => ?_) (fun h => ?_) <;> try (exfalso; omega)) | (simp (disch := (first | omega | (simp only [List.length_cons, List.length_nil, List.length_append, List.length_map, List.length_replicate, List.length_take, List.length_drop, List.length_set, tab_length, i64s_len, bls_len, u8s_len, tbl_len, rows_len]; first | done | omega))) only [↓va0, ↓va1, ↓va2, vb0, vb1, vb2, vb3, vb4, vb5, vb6, vb7, vb8, vb9, vz0, vz1, vy0, vx0, ↓reduceIte, Nat.reduceBEq, Nat.reduceEqDiff, Nat.reduceLT, Nat.reduceLeDiff, Nat.reduceAdd, Nat.reduceMul, Nat.reduceSub, reduceCtorEq, Int.reduceToNat]) | (refine Br.mk (fun h => ?_) (fun h => ?_)) | (refine BrN.mk (fun h => ?_) ?_)
      exact fin_mk rfl
theorem beginCovers_spec (w : List UInt8) (h : okL (fun _ => True) w) (u : List UInt8) (h2 : okL (fun _ => True) u) : Dm.Spec Try.prog 3 [.sl 1 (u8s w), .sl 1 (u8s u)] (· = .v (.bool true)) :=
  spec_of_vc mixed Try.func3 c3 (by rw [show Try.f3.ntmps = _ from Try.ntmps3]; simp) (beginCovers_vc w u)
end Go.Proofs.Ytinanpbhbafhcaa
