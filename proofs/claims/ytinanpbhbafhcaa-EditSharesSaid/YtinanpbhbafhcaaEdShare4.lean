/-
  coppicerref.Shared, walked; the law EditShares.
-/
import Derived.Test.YtinanpbhbafhcaaEdShare3
import Derived.Test.YtinanpbhbafhcaaBytes
namespace Go.Proofs.Ytinanpbhbafhcaa
open Go.Dm
set_option linter.unusedSimpArgs false
set_option linter.defProp false
set_option linter.unnecessarySimpa false
set_option linter.unusedVariables false

theorem fst_le {l : List UInt8} {b : Int} {i : Nat} (h : i ≤ l.length) : i ≤ fst l b i ∧ fst l b i ≤ l.length := by
  rw [fst]
  split
  · have := fst_le (l := l) (b := b) (i := i + 1) (by omega)
    omega
  · omega
termination_by l.length - i
theorem aft_fst {l : List UInt8} {c : UInt8} {i : Nat} (h : i ≤ l.length) : aft c (l.drop i) = if fst l c.toNat i < l.length then some (l.drop (fst l c.toNat i + 1)) else none := by
  by_cases hi : i < l.length
  · rw [drop_cons' hi, aft, fst]
    by_cases e : l.getD i 0 = c
    · rw [if_pos e, dif_neg (fun k => k.2 (by rw [e])), if_pos hi]
    · rw [if_neg e, dif_pos ⟨hi, fun k => e (UInt8.toNat_inj.1 (Int.ofNat_inj.1 k))⟩]
      exact aft_fst hi
  · have e : i = l.length := by omega
    subst e
    rw [List.drop_length, aft, fst, dif_neg (by omega), if_neg (by omega)]
termination_by l.length - i
theorem u8_of {b : Nat} (h : b < 256) : ((UInt8.ofNat b).toNat) = b := by simp [UInt8.toNat_ofNat']; omega
theorem u8s_push {l : List UInt8} {b : Nat} (h : b < 256) : u8s l ++ [[.v (.int .u8 (b : Int))]] = u8s (l ++ [UInt8.ofNat b]) := by
  simp [u8s, u8_of h]
/-- What the first byte of the least word does. -/
theorem road_hit {u v : List UInt8} {i j : Nat} {c : UInt8} {s : List UInt8} (hi : i ≤ u.length) (hj : j ≤ v.length) (h : sh (u.drop i) (v.drop j) = c :: s) :
    fst u c.toNat i < u.length ∧ fst v c.toNat j < v.length ∧ sh (u.drop (fst u c.toNat i + 1)) (v.drop (fst v c.toNat j + 1)) = s := by
  obtain ⟨U', V', a1, a2, a3⟩ := sh_next h
  rw [aft_fst hi] at a1
  rw [aft_fst hj] at a2
  split at a1
  · split at a2
    · cases a1; cases a2
      exact ⟨by assumption, by assumption, a3⟩
    · cases a2
  · cases a1
theorem road_miss {u v : List UInt8} {i j b : Nat} {c : UInt8} {s : List UInt8} (hi : i ≤ u.length) (hj : j ≤ v.length) (h : sh (u.drop i) (v.drop j) = c :: s) (hb : b < c.toNat) :
    fst u b i < u.length → fst v b j < v.length → ¬ ((shl u v (fst u b i + 1) (fst v b j + 1) : Int) + 1 = (shl u v i j : Int)) := by
  intro h1 h2 h3
  have hc := c.toNat_lt
  have hb' := u8_of (b := b) (by omega)
  have e1 := aft_fst (c := UInt8.ofNat b) hi
  have e2 := aft_fst (c := UInt8.ofNat b) hj
  rw [hb', if_pos h1] at e1
  rw [hb', if_pos h2] at e2
  have := sh_least h e1 e2 (by unfold shl at h3; omega)
  have := UInt8.le_iff_toNat_le.1 this
  omega
theorem ltab_get {u v : List UInt8} {i : Nat} (h : i < u.length + 1) : (ltab u v).getD i [] = [.sl 1 (i64s (lrow u v i))] := tabD_get h
theorem ltab_len {u v : List UInt8} : (ltab u v).length = u.length + 1 := tabD_len
def vl4 := And.intro @ltab_get <| And.intro @ltab_len <| And.intro @lrow_len @i64s_lget
set_option maxRecDepth 10000 in
set_option maxHeartbeats 4000000 in
theorem ref_Shared_spec (u v : List UInt8) (hu : u.length ≤ 60) (hv : v.length ≤ 60) : Dm.Spec Try.prog 29 [.sl 1 (u8s u), .sl 1 (u8s v)] (· = .sl 1 (u8s (sh u v))) := by
  refine spec_of_vc mixed Try.func29 c29 (by rw [show Try.f29.ntmps = _ from Try.ntmps29]; simp) ?_
  unfold m29 r29
  repeat' first | (refine Br.dec (fun h => ?_) (fun h => ?_) <;> try (exfalso; omega)) | (refine Br.eqi (fun h => ?_) (fun h => ?_) <;> try (exfalso; omega)) | (simp (disch := (first | omega | (simp only [List.length_cons, List.length_nil, List.length_append, List.length_map, List.length_replicate, List.length_take, List.length_drop, List.length_set, tab_length, tabD_len, i64s_len, bls_len, u8s_len, tbl_len, rows_len]; first | done | omega))) only [↓va0, ↓va1, ↓va2, ↓va3, vb0, vb1, vb2, vb3, vb4, vb5, vb6, vb7, vb8, vb9, vb10, vz0, vz1, vy0, vx0, ↓reduceIte, Nat.reduceBEq, Nat.reduceEqDiff, Nat.reduceLT, Nat.reduceLeDiff, Nat.reduceAdd, Nat.reduceMul, Nat.reduceSub, reduceCtorEq, Int.reduceToNat]) | (refine Br.mk (fun h => ?_) (fun h => ?_)) | (refine BrN.mk (fun h => ?_) ?_)
  refine CallVC.eq (ref_shared_spec u v hu hv) ?_
  repeat' first | (refine Br.dec (fun h => ?_) (fun h => ?_) <;> try (exfalso; omega)) | (refine Br.eqi (fun h => ?_) (fun h => ?_) <;> try (exfalso; omega)) | (simp (disch := (first | omega | (simp only [List.length_cons, List.length_nil, List.length_append, List.length_map, List.length_replicate, List.length_take, List.length_drop, List.length_set, tab_length, tabD_len, i64s_len, bls_len, u8s_len, tbl_len, rows_len]; first | done | omega))) only [↓va0, ↓va1, ↓va2, ↓va3, vb0, vb1, vb2, vb3, vb4, vb5, vb6, vb7, vb8, vb9, vb10, vz0, vz1, vy0, vx0, ↓reduceIte, Nat.reduceBEq, Nat.reduceEqDiff, Nat.reduceLT, Nat.reduceLeDiff, Nat.reduceAdd, Nat.reduceMul, Nat.reduceSub, reduceCtorEq, Int.reduceToNat]) | (refine Br.mk (fun h => ?_) (fun h => ?_)) | (refine BrN.mk (fun h => ?_) ?_)
  refine LoopVC.mk (X := List UInt8 × Nat × Nat) (fun x => [(6, .ref 1 1 0 x.1.length), (7, iv .i64 x.2.1), (8, iv .i64 x.2.2)]) (fun x => [(1, ⟨1, u8s x.1, true, false, .arr⟩)]) (fun x => shl u v x.2.1 x.2.2)
    (fun x => x.2.1 ≤ u.length ∧ x.2.2 ≤ v.length ∧ x.1 ++ sh (u.drop x.2.1) (v.drop x.2.2) = sh u v) ([], 0, 0) ⟨by simp, by simp, by simp⟩ ?_ ?_
  · (simp (disch := (first | omega | (simp only [List.length_cons, List.length_nil, List.length_append, List.length_map, List.length_replicate, List.length_take, List.length_drop, List.length_set, tab_length, tabD_len, i64s_len, bls_len, u8s_len, tbl_len, rows_len]; first | done | omega))) only [Fits_u, Fits_m, Fits_nil, List.length_append, ↓va0, ↓va1, ↓va2, ↓va3, vb0, vb1, vb2, vb3, vb4, vb5, vb6, vb7, vb8, vb9, vb10, vz0, vz1, vy0, vx0, ↓reduceIte, Nat.reduceBEq, Nat.reduceEqDiff, Nat.reduceLT, Nat.reduceLeDiff, Nat.reduceAdd, Nat.reduceMul, Nat.reduceSub, reduceCtorEq, Int.reduceToNat] <;> (repeat' first | rfl | apply And.intro))
  · rintro ⟨out, i, j⟩ ⟨hi, hj, hout⟩
    simp only at hi hj hout
    have hol : out.length ≤ 60 := by
      have := sh_len (u := u) (v := v) (i := 0) (j := 0) hu
      simp only [List.drop_zero] at this
      rw [← hout, List.length_append] at this; omega
    repeat' first | (refine Br.dec (fun h => ?_) (fun h => ?_) <;> try (exfalso; omega)) | (refine Br.eqi (fun h => ?_) (fun h => ?_) <;> try (exfalso; omega)) | (simp (disch := (first | omega | (simp only [List.length_cons, List.length_nil, List.length_append, List.length_map, List.length_replicate, List.length_take, List.length_drop, List.length_set, tab_length, tabD_len, i64s_len, bls_len, u8s_len, tbl_len, rows_len]; first | done | omega))) only [vl4, ↓va0, ↓va1, ↓va2, ↓va3, vb0, vb1, vb2, vb3, vb4, vb5, vb6, vb7, vb8, vb9, vb10, vz0, vz1, vy0, vx0, ↓reduceIte, Nat.reduceBEq, Nat.reduceEqDiff, Nat.reduceLT, Nat.reduceLeDiff, Nat.reduceAdd, Nat.reduceMul, Nat.reduceSub, reduceCtorEq, Int.reduceToNat]) | (refine Br.mk (fun h => ?_) (fun h => ?_)) | (refine BrN.mk (fun h => ?_) ?_)
    · obtain ⟨c, s, hcs⟩ : ∃ c s, sh (u.drop i) (v.drop j) = c :: s := by
        cases hq : sh (u.drop i) (v.drop j) with
        | nil =>
          have h0 : shl u v i j = 0 := by unfold shl; rw [hq]; rfl
          omega
        | cons c s => exact ⟨c, s, rfl⟩
      have hc := c.toNat_lt
      refine LoopVC.mk (X := Nat) (fun b => [(6, .ref 1 1 0 out.length), (7, iv .i64 i), (8, iv .i64 j), (9, iv .i64 b)]) (fun b => [(1, ⟨1, u8s out, true, false, .arr⟩)]) (fun b => 256 - b) (fun b => b ≤ c.toNat) 0 (by omega) ?_ ?_
      · (simp (disch := (first | omega | (simp only [List.length_cons, List.length_nil, List.length_append, List.length_map, List.length_replicate, List.length_take, List.length_drop, List.length_set, tab_length, tabD_len, i64s_len, bls_len, u8s_len, tbl_len, rows_len]; first | done | omega))) only [Fits_u, Fits_m, Fits_nil, List.length_append, ↓va0, ↓va1, ↓va2, ↓va3, vb0, vb1, vb2, vb3, vb4, vb5, vb6, vb7, vb8, vb9, vb10, vz0, vz1, vy0, vx0, ↓reduceIte, Nat.reduceBEq, Nat.reduceEqDiff, Nat.reduceLT, Nat.reduceLeDiff, Nat.reduceAdd, Nat.reduceMul, Nat.reduceSub, reduceCtorEq, Int.reduceToNat] <;> (repeat' first | rfl | apply And.intro))
      · intro b hb
        repeat' first | (refine Br.dec (fun h => ?_) (fun h => ?_) <;> try (exfalso; omega)) | (refine Br.eqi (fun h => ?_) (fun h => ?_) <;> try (exfalso; omega)) | (simp (disch := (first | omega | (simp only [List.length_cons, List.length_nil, List.length_append, List.length_map, List.length_replicate, List.length_take, List.length_drop, List.length_set, tab_length, tabD_len, i64s_len, bls_len, u8s_len, tbl_len, rows_len]; first | done | omega))) only [vl4, ↓va0, ↓va1, ↓va2, ↓va3, vb0, vb1, vb2, vb3, vb4, vb5, vb6, vb7, vb8, vb9, vb10, vz0, vz1, vy0, vx0, ↓reduceIte, Nat.reduceBEq, Nat.reduceEqDiff, Nat.reduceLT, Nat.reduceLeDiff, Nat.reduceAdd, Nat.reduceMul, Nat.reduceSub, reduceCtorEq, Int.reduceToNat]) | (refine Br.mk (fun h => ?_) (fun h => ?_)) | (refine BrN.mk (fun h => ?_) ?_)
        · refine CallVC.eq (first_spec u (by omega) i hi b) ?_
          repeat' first | (refine Br.dec (fun h => ?_) (fun h => ?_) <;> try (exfalso; omega)) | (refine Br.eqi (fun h => ?_) (fun h => ?_) <;> try (exfalso; omega)) | (simp (disch := (first | omega | (simp only [List.length_cons, List.length_nil, List.length_append, List.length_map, List.length_replicate, List.length_take, List.length_drop, List.length_set, tab_length, tabD_len, i64s_len, bls_len, u8s_len, tbl_len, rows_len]; first | done | omega))) only [vl4, ↓va0, ↓va1, ↓va2, ↓va3, vb0, vb1, vb2, vb3, vb4, vb5, vb6, vb7, vb8, vb9, vb10, vz0, vz1, vy0, vx0, ↓reduceIte, Nat.reduceBEq, Nat.reduceEqDiff, Nat.reduceLT, Nat.reduceLeDiff, Nat.reduceAdd, Nat.reduceMul, Nat.reduceSub, reduceCtorEq, Int.reduceToNat]) | (refine Br.mk (fun h => ?_) (fun h => ?_)) | (refine BrN.mk (fun h => ?_) ?_)
          refine CallVC.eq (first_spec v (by omega) j hj b) ?_
          have f1 := fst_le (l := u) (b := b) hi
          have f2 := fst_le (l := v) (b := b) hj
          have g1 := shl_le (u := u) (v := v) (i := fst u b i + 1) (j := fst v b j + 1) hu
          by_cases hbc : b = c.toNat
          · subst hbc
            obtain ⟨r1, r2, r3⟩ := road_hit hi hj hcs
            have r4 : shl u v (fst u c.toNat i + 1) (fst v c.toNat j + 1) + 1 = shl u v i j := by
              unfold shl; rw [r3, hcs]; rfl
            repeat' first | (refine Br.dec (fun h => ?_) (fun h => ?_) <;> try (exfalso; omega)) | (refine Br.eqi (fun h => ?_) (fun h => ?_) <;> try (exfalso; omega)) | (simp (disch := (first | omega | (simp only [List.length_cons, List.length_nil, List.length_append, List.length_map, List.length_replicate, List.length_take, List.length_drop, List.length_set, tab_length, tabD_len, i64s_len, bls_len, u8s_len, tbl_len, rows_len]; first | done | omega))) only [vl4, ↓va0, ↓va1, ↓va2, ↓va3, vb0, vb1, vb2, vb3, vb4, vb5, vb6, vb7, vb8, vb9, vb10, vz0, vz1, vy0, vx0, ↓reduceIte, Nat.reduceBEq, Nat.reduceEqDiff, Nat.reduceLT, Nat.reduceLeDiff, Nat.reduceAdd, Nat.reduceMul, Nat.reduceSub, reduceCtorEq, Int.reduceToNat]) | (refine Br.mk (fun h => ?_) (fun h => ?_)) | (refine BrN.mk (fun h => ?_) ?_)
            refine loopK.mk (out ++ [c], fst u c.toNat i + 1, fst v c.toNat j + 1) (by simp (disch := (first | omega | (simp only [List.length_cons, List.length_nil, List.length_append, List.length_map, List.length_replicate, List.length_take, List.length_drop, List.length_set, tab_length, tabD_len, i64s_len, bls_len, u8s_len, tbl_len, rows_len]; first | done | omega))) only [↓va0, ↓va1, ↓va2, ↓va3, vb0, vb1, vb2, vb3, vb4, vb5, vb6, vb7, vb8, vb9, vb10, vz0, vz1, vy0, vx0, ↓reduceIte, Nat.reduceBEq, Nat.reduceEqDiff, Nat.reduceLT, Nat.reduceLeDiff, Nat.reduceAdd, Nat.reduceMul, Nat.reduceSub, reduceCtorEq, Int.reduceToNat]) ⟨by simp only; omega, by simp only; omega, by simp only; rw [r3, List.append_assoc, List.cons_append, List.nil_append, ← hcs]; exact hout⟩ (by simp only; omega) ?_
            (simp (disch := (first | omega | (simp only [List.length_cons, List.length_nil, List.length_append, List.length_map, List.length_replicate, List.length_take, List.length_drop, List.length_set, tab_length, tabD_len, i64s_len, bls_len, u8s_len, tbl_len, rows_len]; first | done | omega))) only [Fits_u, Fits_m, Fits_nil, List.length_append, ↓va0, ↓va1, ↓va2, ↓va3, vb0, vb1, vb2, vb3, vb4, vb5, vb6, vb7, vb8, vb9, vb10, vz0, vz1, vy0, vx0, ↓reduceIte, Nat.reduceBEq, Nat.reduceEqDiff, Nat.reduceLT, Nat.reduceLeDiff, Nat.reduceAdd, Nat.reduceMul, Nat.reduceSub, reduceCtorEq, Int.reduceToNat] <;> (repeat' first | rfl | apply And.intro))
            exact congrArg some (by rw [show u8s out ++ [[D.v (Value.int IntKind.u8 (c.toNat : Int))]] = u8s (out ++ [c]) by simp [u8s]])
          · have r := road_miss hi hj hcs (by omega : b < c.toNat)
            repeat' first | (refine Br.dec (fun h => ?_) (fun h => ?_) <;> try (exfalso; omega)) | (refine Br.eqi (fun h => ?_) (fun h => ?_) <;> try (exfalso; omega)) | (simp (disch := (first | omega | (simp only [List.length_cons, List.length_nil, List.length_append, List.length_map, List.length_replicate, List.length_take, List.length_drop, List.length_set, tab_length, tabD_len, i64s_len, bls_len, u8s_len, tbl_len, rows_len]; first | done | omega))) only [vl4, ↓va0, ↓va1, ↓va2, ↓va3, vb0, vb1, vb2, vb3, vb4, vb5, vb6, vb7, vb8, vb9, vb10, vz0, vz1, vy0, vx0, ↓reduceIte, Nat.reduceBEq, Nat.reduceEqDiff, Nat.reduceLT, Nat.reduceLeDiff, Nat.reduceAdd, Nat.reduceMul, Nat.reduceSub, reduceCtorEq, Int.reduceToNat]) | (refine Br.mk (fun h => ?_) (fun h => ?_)) | (refine BrN.mk (fun h => ?_) ?_)
            all_goals
              refine loopK.mk (b + 1) (by simp (disch := (first | omega | (simp only [List.length_cons, List.length_nil, List.length_append, List.length_map, List.length_replicate, List.length_take, List.length_drop, List.length_set, tab_length, tabD_len, i64s_len, bls_len, u8s_len, tbl_len, rows_len]; first | done | omega))) only [↓va0, ↓va1, ↓va2, ↓va3, vb0, vb1, vb2, vb3, vb4, vb5, vb6, vb7, vb8, vb9, vb10, vz0, vz1, vy0, vx0, ↓reduceIte, Nat.reduceBEq, Nat.reduceEqDiff, Nat.reduceLT, Nat.reduceLeDiff, Nat.reduceAdd, Nat.reduceMul, Nat.reduceSub, reduceCtorEq, Int.reduceToNat]) (by omega) (by omega) ?_
              (simp (disch := (first | omega | (simp only [List.length_cons, List.length_nil, List.length_append, List.length_map, List.length_replicate, List.length_take, List.length_drop, List.length_set, tab_length, tabD_len, i64s_len, bls_len, u8s_len, tbl_len, rows_len]; first | done | omega))) only [Fits_u, Fits_m, Fits_nil, List.length_append, ↓va0, ↓va1, ↓va2, ↓va3, vb0, vb1, vb2, vb3, vb4, vb5, vb6, vb7, vb8, vb9, vb10, vz0, vz1, vy0, vx0, ↓reduceIte, Nat.reduceBEq, Nat.reduceEqDiff, Nat.reduceLT, Nat.reduceLeDiff, Nat.reduceAdd, Nat.reduceMul, Nat.reduceSub, reduceCtorEq, Int.reduceToNat] <;> (repeat' first | rfl | apply And.intro))
    · refine fin_mk (congrArg (D.sl 1) ?_)
      have : sh (u.drop i) (v.drop j) = [] := List.eq_nil_of_length_eq_zero (by unfold shl at *; omega)
      rw [this, List.append_nil] at hout
      rw [hout]
set_option maxRecDepth 10000 in
set_option maxHeartbeats 4000000 in
theorem shared_big (u v : List UInt8) (hw : 60 < u.length ∨ 60 < v.length) : Dm.Spec Try.prog 28 [.sl 1 (u8s u), .sl 1 (u8s v)] (· = .tu [.sl 1 (u8s []), iv .i64 1]) := by
  refine spec_of_vc mixed Try.func28 c28 (by rw [show Try.f28.ntmps = _ from Try.ntmps28]; simp) ?_
  unfold m28 r28
  repeat' first | (refine Br.dec (fun h => ?_) (fun h => ?_) <;> try (exfalso; omega)) | (refine Br.eqi (fun h => ?_) (fun h => ?_) <;> try (exfalso; omega)) | (simp (disch := (first | omega | (simp only [List.length_cons, List.length_nil, List.length_append, List.length_map, List.length_replicate, List.length_take, List.length_drop, List.length_set, tab_length, tabD_len, i64s_len, bls_len, u8s_len, tbl_len, rows_len]; first | done | omega))) only [↓va0, ↓va1, ↓va2, ↓va3, vb0, vb1, vb2, vb3, vb4, vb5, vb6, vb7, vb8, vb9, vb10, vz0, vz1, vy0, vx0, ↓reduceIte, Nat.reduceBEq, Nat.reduceEqDiff, Nat.reduceLT, Nat.reduceLeDiff, Nat.reduceAdd, Nat.reduceMul, Nat.reduceSub, reduceCtorEq, Int.reduceToNat]) | (refine Br.mk (fun h => ?_) (fun h => ?_)) | (refine BrN.mk (fun h => ?_) ?_)
  refine CallVC.eqo (large2_big u v hw) (by simp (disch := (first | omega | (simp only [List.length_cons, List.length_nil, List.length_append, List.length_map, List.length_replicate, List.length_take, List.length_drop, List.length_set, tab_length, tabD_len, i64s_len, bls_len, u8s_len, tbl_len, rows_len]; first | done | omega))) only [↓va0, ↓va1, ↓va2, ↓va3, vb0, vb1, vb2, vb3, vb4, vb5, vb6, vb7, vb8, vb9, vb10, vz0, vz1, vy0, vx0, ↓reduceIte, Nat.reduceBEq, Nat.reduceEqDiff, Nat.reduceLT, Nat.reduceLeDiff, Nat.reduceAdd, Nat.reduceMul, Nat.reduceSub, reduceCtorEq, Int.reduceToNat]) ?_
  repeat' first | (refine Br.dec (fun h => ?_) (fun h => ?_) <;> try (exfalso; omega)) | (refine Br.eqi (fun h => ?_) (fun h => ?_) <;> try (exfalso; omega)) | (simp (disch := (first | omega | (simp only [List.length_cons, List.length_nil, List.length_append, List.length_map, List.length_replicate, List.length_take, List.length_drop, List.length_set, tab_length, tabD_len, i64s_len, bls_len, u8s_len, tbl_len, rows_len]; first | done | omega))) only [↓va0, ↓va1, ↓va2, ↓va3, vb0, vb1, vb2, vb3, vb4, vb5, vb6, vb7, vb8, vb9, vb10, vz0, vz1, vy0, vx0, ↓reduceIte, Nat.reduceBEq, Nat.reduceEqDiff, Nat.reduceLT, Nat.reduceLeDiff, Nat.reduceAdd, Nat.reduceMul, Nat.reduceSub, reduceCtorEq, Int.reduceToNat]) | (refine Br.mk (fun h => ?_) (fun h => ?_)) | (refine BrN.mk (fun h => ?_) ?_)
  exact fin_mk rfl
set_option maxRecDepth 10000 in
set_option maxHeartbeats 4000000 in
theorem editShares_spec (u : List UInt8) (hu : okL (fun _ => True) u) (v : List UInt8) (hv : okL (fun _ => True) v) : Dm.Spec Try.prog 10 [.sl 1 (u8s u), .sl 1 (u8s v)] (· = .v (.bool true)) := by
  refine spec_of_vc mixed Try.func10 c10 (by rw [show Try.f10.ntmps = _ from Try.ntmps10]; simp) ?_
  unfold m10 r10
  have h1 := maxLen_le hu.1
  have h2 := maxLen_le hv.1
  by_cases hw : u.length ≤ 60 ∧ v.length ≤ 60
  · repeat' first | (refine Br.dec (fun h => ?_) (fun h => ?_) <;> try (exfalso; omega)) | (refine Br.eqi (fun h => ?_) (fun h => ?_) <;> try (exfalso; omega)) | (simp (disch := (first | omega | (simp only [List.length_cons, List.length_nil, List.length_append, List.length_map, List.length_replicate, List.length_take, List.length_drop, List.length_set, tab_length, tabD_len, i64s_len, bls_len, u8s_len, tbl_len, rows_len]; first | done | omega))) only [↓va0, ↓va1, ↓va2, ↓va3, vb0, vb1, vb2, vb3, vb4, vb5, vb6, vb7, vb8, vb9, vb10, vz0, vz1, vy0, vx0, ↓reduceIte, Nat.reduceBEq, Nat.reduceEqDiff, Nat.reduceLT, Nat.reduceLeDiff, Nat.reduceAdd, Nat.reduceMul, Nat.reduceSub, reduceCtorEq, Int.reduceToNat]) | (refine Br.mk (fun h => ?_) (fun h => ?_)) | (refine BrN.mk (fun h => ?_) ?_)
    refine CallVC.eq (shared_spec u v hw.1 hw.2) ?_
    repeat' first | (refine Br.dec (fun h => ?_) (fun h => ?_) <;> try (exfalso; omega)) | (refine Br.eqi (fun h => ?_) (fun h => ?_) <;> try (exfalso; omega)) | (simp (disch := (first | omega | (simp only [List.length_cons, List.length_nil, List.length_append, List.length_map, List.length_replicate, List.length_take, List.length_drop, List.length_set, tab_length, tabD_len, i64s_len, bls_len, u8s_len, tbl_len, rows_len]; first | done | omega))) only [↓va0, ↓va1, ↓va2, ↓va3, vb0, vb1, vb2, vb3, vb4, vb5, vb6, vb7, vb8, vb9, vb10, vz0, vz1, vy0, vx0, ↓reduceIte, Nat.reduceBEq, Nat.reduceEqDiff, Nat.reduceLT, Nat.reduceLeDiff, Nat.reduceAdd, Nat.reduceMul, Nat.reduceSub, reduceCtorEq, Int.reduceToNat]) | (refine Br.mk (fun h => ?_) (fun h => ?_)) | (refine BrN.mk (fun h => ?_) ?_)
    refine CallVC.eq (ref_Shared_spec u v hw.1 hw.2) ?_
    repeat' first | (refine Br.dec (fun h => ?_) (fun h => ?_) <;> try (exfalso; omega)) | (refine Br.eqi (fun h => ?_) (fun h => ?_) <;> try (exfalso; omega)) | (simp (disch := (first | omega | (simp only [List.length_cons, List.length_nil, List.length_append, List.length_map, List.length_replicate, List.length_take, List.length_drop, List.length_set, tab_length, tabD_len, i64s_len, bls_len, u8s_len, tbl_len, rows_len]; first | done | omega))) only [↓va0, ↓va1, ↓va2, ↓va3, vb0, vb1, vb2, vb3, vb4, vb5, vb6, vb7, vb8, vb9, vb10, vz0, vz1, vy0, vx0, ↓reduceIte, Nat.reduceBEq, Nat.reduceEqDiff, Nat.reduceLT, Nat.reduceLeDiff, Nat.reduceAdd, Nat.reduceMul, Nat.reduceSub, reduceCtorEq, Int.reduceToNat]) | (refine Br.mk (fun h => ?_) (fun h => ?_)) | (refine BrN.mk (fun h => ?_) ?_)
    have hl := sh_len (u := u) (v := v) (i := 0) (j := 0) hw.1
    simp only [List.drop_zero] at hl
    refine CallVC.eq (bytes_spec (sh u v) (sh u v) (by omega)) ?_
    rw [decide_eq_true rfl]
    repeat' first | (refine Br.dec (fun h => ?_) (fun h => ?_) <;> try (exfalso; omega)) | (refine Br.eqi (fun h => ?_) (fun h => ?_) <;> try (exfalso; omega)) | (simp (disch := (first | omega | (simp only [List.length_cons, List.length_nil, List.length_append, List.length_map, List.length_replicate, List.length_take, List.length_drop, List.length_set, tab_length, tabD_len, i64s_len, bls_len, u8s_len, tbl_len, rows_len]; first | done | omega))) only [↓va0, ↓va1, ↓va2, ↓va3, vb0, vb1, vb2, vb3, vb4, vb5, vb6, vb7, vb8, vb9, vb10, vz0, vz1, vy0, vx0, ↓reduceIte, Nat.reduceBEq, Nat.reduceEqDiff, Nat.reduceLT, Nat.reduceLeDiff, Nat.reduceAdd, Nat.reduceMul, Nat.reduceSub, reduceCtorEq, Int.reduceToNat]) | (refine Br.mk (fun h => ?_) (fun h => ?_)) | (refine BrN.mk (fun h => ?_) ?_)
    exact fin_mk rfl
  · repeat' first | (refine Br.dec (fun h => ?_) (fun h => ?_) <;> try (exfalso; omega)) | (refine Br.eqi (fun h => ?_) (fun h => ?_) <;> try (exfalso; omega)) | (simp (disch := (first | omega | (simp only [List.length_cons, List.length_nil, List.length_append, List.length_map, List.length_replicate, List.length_take, List.length_drop, List.length_set, tab_length, tabD_len, i64s_len, bls_len, u8s_len, tbl_len, rows_len]; first | done | omega))) only [↓va0, ↓va1, ↓va2, ↓va3, vb0, vb1, vb2, vb3, vb4, vb5, vb6, vb7, vb8, vb9, vb10, vz0, vz1, vy0, vx0, ↓reduceIte, Nat.reduceBEq, Nat.reduceEqDiff, Nat.reduceLT, Nat.reduceLeDiff, Nat.reduceAdd, Nat.reduceMul, Nat.reduceSub, reduceCtorEq, Int.reduceToNat]) | (refine Br.mk (fun h => ?_) (fun h => ?_)) | (refine BrN.mk (fun h => ?_) ?_)
    refine CallVC.eq (shared_big u v (by omega)) ?_
    repeat' first | (refine Br.dec (fun h => ?_) (fun h => ?_) <;> try (exfalso; omega)) | (refine Br.eqi (fun h => ?_) (fun h => ?_) <;> try (exfalso; omega)) | (simp (disch := (first | omega | (simp only [List.length_cons, List.length_nil, List.length_append, List.length_map, List.length_replicate, List.length_take, List.length_drop, List.length_set, tab_length, tabD_len, i64s_len, bls_len, u8s_len, tbl_len, rows_len]; first | done | omega))) only [↓va0, ↓va1, ↓va2, ↓va3, vb0, vb1, vb2, vb3, vb4, vb5, vb6, vb7, vb8, vb9, vb10, vz0, vz1, vy0, vx0, ↓reduceIte, Nat.reduceBEq, Nat.reduceEqDiff, Nat.reduceLT, Nat.reduceLeDiff, Nat.reduceAdd, Nat.reduceMul, Nat.reduceSub, reduceCtorEq, Int.reduceToNat]) | (refine Br.mk (fun h => ?_) (fun h => ?_)) | (refine BrN.mk (fun h => ?_) ?_)
    all_goals exact fin_mk rfl
end Go.Proofs.Ytinanpbhbafhcaa
