/-
  coppicerref.Cut: what is left without a rule, found anew.
-/
import Derived.Test.YtcbilnmpiladnaaCutA
namespace Go.Proofs.Ytcbilnmpiladnaa
open Go.Dm
set_option linter.unusedSimpArgs false
set_option linter.unnecessarySimpa false
set_option linter.unusedVariables false
set_option linter.defProp false
set_option maxRecDepth 10000 in
set_option maxHeartbeats 4000000 in
theorem hasC_spec (C : List Nat) (hl : C.length ≤ 1000000) (x : Nat) : Dm.Spec Try.prog 47 [.sl 1 (tbl ixD C), iv .i64 x] (· = .v (.bool (decide (x ∈ C)))) := by
  refine spec_of_vc mixed Try.func47 c47 (by rw [show Try.f47.ntmps = _ from Try.ntmps47]; simp) ?_
  unfold m47 r47
  repeat' first | (refine Br.dec (fun h => ?_) (fun h => ?_) <;> try (exfalso; omega)) | (refine Br.eqi (fun h => ?_) (fun h => ?_) <;> try (exfalso; omega)) | (simp (disch := (first | omega | (simp only [vlen]; first | done | omega))) only [vcz, ↓va0, ↓va1, ↓va2, ↓va3, vb0, vb1, vb2, vb3, vb4, vb5, vb6, vb7, vb8, vb9, vb10, vz0, vz1, vy0, vx0, ↓reduceIte, Nat.reduceBEq, Nat.reduceEqDiff, Nat.reduceLT, Nat.reduceLeDiff, Nat.reduceAdd, Nat.reduceMul, Nat.reduceSub, reduceCtorEq, Int.reduceToNat]) | (refine Br.mk (fun h => ?_) (fun h => ?_)) | (refine BrN.mk (fun h => ?_) ?_) | (refine AltVC.mk ?_ ?_)
  refine LoopVC.mk (X := Nat) (fun i => [(9, iv .i64 i)]) (fun _ => []) (fun i => C.length - i) (fun i => i ≤ C.length ∧ x ∉ C.take i) 0 ⟨by omega, by simp⟩ ?_ ?_
  · (simp (disch := (first | omega | (simp only [vlen]; first | done | omega))) only [Fits_u, Fits_m, Fits_nil, List.length_append, vcz, ↓va0, ↓va1, ↓va2, ↓va3, vb0, vb1, vb2, vb3, vb4, vb5, vb6, vb7, vb8, vb9, vb10, vz0, vz1, vy0, vx0, ↓reduceIte, Nat.reduceBEq, Nat.reduceEqDiff, Nat.reduceLT, Nat.reduceLeDiff, Nat.reduceAdd, Nat.reduceMul, Nat.reduceSub, reduceCtorEq, Int.reduceToNat] <;> (repeat' first | rfl | apply And.intro))
    all_goals first | rfl | skip
  · rintro i ⟨h1, h2⟩
    by_cases hil : i < C.length
    · have hix : (tbl ixD C).getD i [] = [iv .i64 (C.getD i 0)] := tbl_get hil
      by_cases e : C.getD i 0 = x
      · rw [e] at hix
        have hm : x ∈ C := by rw [← e]; exact getD_mem' (l := C) hil
        repeat' first | (refine Br.dec (fun h => ?_) (fun h => ?_) <;> try (exfalso; omega)) | (refine Br.eqi (fun h => ?_) (fun h => ?_) <;> try (exfalso; omega)) | (simp (disch := (first | omega | (simp only [vlen]; first | done | omega))) only [vcz, hix, ↓va0, ↓va1, ↓va2, ↓va3, vb0, vb1, vb2, vb3, vb4, vb5, vb6, vb7, vb8, vb9, vb10, vz0, vz1, vy0, vx0, ↓reduceIte, Nat.reduceBEq, Nat.reduceEqDiff, Nat.reduceLT, Nat.reduceLeDiff, Nat.reduceAdd, Nat.reduceMul, Nat.reduceSub, reduceCtorEq, Int.reduceToNat]) | (refine Br.mk (fun h => ?_) (fun h => ?_)) | (refine BrN.mk (fun h => ?_) ?_) | (refine AltVC.mk ?_ ?_)
        exact fin_mk (vbEq (decide_eq_true hm).symm)
      · repeat' first | (refine Br.dec (fun h => ?_) (fun h => ?_) <;> try (exfalso; omega)) | (refine Br.eqi (fun h => ?_) (fun h => ?_) <;> try (exfalso; omega)) | (simp (disch := (first | omega | (simp only [vlen]; first | done | omega))) only [vcz, hix, ↓va0, ↓va1, ↓va2, ↓va3, vb0, vb1, vb2, vb3, vb4, vb5, vb6, vb7, vb8, vb9, vb10, vz0, vz1, vy0, vx0, ↓reduceIte, Nat.reduceBEq, Nat.reduceEqDiff, Nat.reduceLT, Nat.reduceLeDiff, Nat.reduceAdd, Nat.reduceMul, Nat.reduceSub, reduceCtorEq, Int.reduceToNat]) | (refine Br.mk (fun h => ?_) (fun h => ?_)) | (refine BrN.mk (fun h => ?_) ?_) | (refine AltVC.mk ?_ ?_)
        all_goals first | (exfalso; omega) | skip
        refine loopK.mk (i + 1) (by simp (disch := (first | omega | (simp only [vlen]; first | done | omega))) only [↓va0, ↓va1, ↓va2, ↓va3, vb0, vb1, vb2, vb3, vb4, vb5, vb6, vb7, vb8, vb9, vb10, vz0, vz1, vy0, vx0, ↓reduceIte, Nat.reduceBEq, Nat.reduceEqDiff, Nat.reduceLT, Nat.reduceLeDiff, Nat.reduceAdd, Nat.reduceMul, Nat.reduceSub, reduceCtorEq, Int.reduceToNat]) ⟨by omega, ?_⟩ (by omega) (by (simp (disch := (first | omega | (simp only [vlen]; first | done | omega))) only [Fits_u, Fits_m, Fits_nil, List.length_append, vcz, ↓va0, ↓va1, ↓va2, ↓va3, vb0, vb1, vb2, vb3, vb4, vb5, vb6, vb7, vb8, vb9, vb10, vz0, vz1, vy0, vx0, ↓reduceIte, Nat.reduceBEq, Nat.reduceEqDiff, Nat.reduceLT, Nat.reduceLeDiff, Nat.reduceAdd, Nat.reduceMul, Nat.reduceSub, reduceCtorEq, Int.reduceToNat] <;> (repeat' first | rfl | apply And.intro)))
        rw [take_succ_getD (by omega) 0, List.mem_append, List.mem_singleton]
        rintro (h | h)
        · exact h2 h
        · exact e h.symm
    · rw [show i = C.length by omega, List.take_length] at h2
      repeat' first | (refine Br.dec (fun h => ?_) (fun h => ?_) <;> try (exfalso; omega)) | (refine Br.eqi (fun h => ?_) (fun h => ?_) <;> try (exfalso; omega)) | (simp (disch := (first | omega | (simp only [vlen]; first | done | omega))) only [vcz, ↓va0, ↓va1, ↓va2, ↓va3, vb0, vb1, vb2, vb3, vb4, vb5, vb6, vb7, vb8, vb9, vb10, vz0, vz1, vy0, vx0, ↓reduceIte, Nat.reduceBEq, Nat.reduceEqDiff, Nat.reduceLT, Nat.reduceLeDiff, Nat.reduceAdd, Nat.reduceMul, Nat.reduceSub, reduceCtorEq, Int.reduceToNat]) | (refine Br.mk (fun h => ?_) (fun h => ?_)) | (refine BrN.mk (fun h => ?_) ?_) | (refine AltVC.mk ?_ ?_)
      exact fin_mk (vbEq (decide_eq_false h2).symm)
/-! ### The number of a spot -/
abbrev cmO (C : List Nat) : List Ob := [⟨1, [[.ref 1 1 0 C.length]], false, false, .fix⟩, ⟨1, tbl ixD C, true, false, .arr⟩]
def nlt (C : List Nat) (x k : Nat) : Nat := ((C.take k).filter fun j => decide (j < x)).length
theorem nlt_succ {C : List Nat} {x k : Nat} (h : k < C.length) : nlt C x (k + 1) = nlt C x k + (if C.getD k 0 < x then 1 else 0) := by
  unfold nlt
  rw [take_succ_getD h 0, List.filter_append, List.length_append]
  congr 1
  generalize C.getD k 0 = y
  by_cases h : y < x <;> simp [h]
theorem nlt_le {C : List Nat} {x k : Nat} : nlt C x k ≤ k := by
  unfold nlt
  have := List.length_filter_le (fun j => decide (j < x)) (C.take k)
  rw [List.length_take] at this; omega
theorem nlt_all {C : List Nat} {x k : Nat} (h : C.Nodup) (hk : C.length ≤ k) : nlt C x k = nmb C x := by
  unfold nlt
  rw [List.take_of_length_le hk]
  exact nmb_eq h
set_option maxRecDepth 10000 in
set_option maxHeartbeats 4000000 in
theorem num_spec (C : List Nat) (hC : C.Nodup) (hl : C.length ≤ 1000000) (x : Nat) : Dm.SpecH Try.prog 48 [iv .i64 x, .ptr 0 1 0 0] (cmO C) (fun d o => d = iv .i64 (nmb C x) ∧ o = (cmO C).map some) := by
  refine specH_of_vc mixed Try.func48 c48 (by rw [show Try.f48.ntmps = _ from Try.ntmps48]; simp) ?_
  unfold m48 r48
  repeat' first | (refine Br.dec (fun h => ?_) (fun h => ?_) <;> try (exfalso; omega)) | (refine Br.eqi (fun h => ?_) (fun h => ?_) <;> try (exfalso; omega)) | (simp (disch := (first | omega | (simp only [vlen]; first | done | omega))) only [vcz, ↓va0, ↓va1, ↓va2, ↓va3, vb0, vb1, vb2, vb3, vb4, vb5, vb6, vb7, vb8, vb9, vb10, vz0, vz1, vy0, vx0, ↓reduceIte, Nat.reduceBEq, Nat.reduceEqDiff, Nat.reduceLT, Nat.reduceLeDiff, Nat.reduceAdd, Nat.reduceMul, Nat.reduceSub, reduceCtorEq, Int.reduceToNat]) | (refine Br.mk (fun h => ?_) (fun h => ?_)) | (refine BrN.mk (fun h => ?_) ?_) | (refine AltVC.mk ?_ ?_)
  refine LoopVC.mk (X := Nat) (fun k => [(4, iv .i64 (nlt C x k)), (7, .ref 1 1 0 C.length), (9, iv .i64 k)]) (fun _ => [(0, ⟨1, [[.ref 1 1 0 C.length]], false, false, .fix⟩), (1, ⟨1, tbl ixD C, true, false, .arr⟩)]) (fun k => C.length - k) (fun k => k ≤ C.length) 0 (Nat.zero_le _) ?_ ?_
  · (simp (disch := (first | omega | (simp only [vlen]; first | done | omega))) only [Fits_u, Fits_m, Fits_nil, List.length_append, vcz, ↓va0, ↓va1, ↓va2, ↓va3, vb0, vb1, vb2, vb3, vb4, vb5, vb6, vb7, vb8, vb9, vb10, vz0, vz1, vy0, vx0, ↓reduceIte, Nat.reduceBEq, Nat.reduceEqDiff, Nat.reduceLT, Nat.reduceLeDiff, Nat.reduceAdd, Nat.reduceMul, Nat.reduceSub, reduceCtorEq, Int.reduceToNat] <;> (repeat' first | rfl | apply And.intro))
    all_goals first | rfl | skip
  · intro k hk
    have hkn := @nlt_le C x k
    by_cases hkl : k < C.length
    · have hix : (tbl ixD C).getD k [] = [iv .i64 (C.getD k 0)] := tbl_get hkl
      have hs := @nlt_succ C x k hkl
      obtain ⟨y, hy⟩ : ∃ y, C.getD k 0 = y := ⟨_, rfl⟩
      rw [hy] at hix hs
      repeat' first | (refine Br.dec (fun h => ?_) (fun h => ?_) <;> try (exfalso; omega)) | (refine Br.eqi (fun h => ?_) (fun h => ?_) <;> try (exfalso; omega)) | (simp (disch := (first | omega | (simp only [vlen]; first | done | omega))) only [vcz, hix, ↓va0, ↓va1, ↓va2, ↓va3, vb0, vb1, vb2, vb3, vb4, vb5, vb6, vb7, vb8, vb9, vb10, vz0, vz1, vy0, vx0, ↓reduceIte, Nat.reduceBEq, Nat.reduceEqDiff, Nat.reduceLT, Nat.reduceLeDiff, Nat.reduceAdd, Nat.reduceMul, Nat.reduceSub, reduceCtorEq, Int.reduceToNat]) | (refine Br.mk (fun h => ?_) (fun h => ?_)) | (refine BrN.mk (fun h => ?_) ?_) | (refine AltVC.mk ?_ ?_)
      · rw [if_pos (by omega)] at hs
        refine loopK.mk (k + 1) (by simp (disch := (first | omega | (simp only [vlen]; first | done | omega))) only [↓va0, ↓va1, ↓va2, ↓va3, vb0, vb1, vb2, vb3, vb4, vb5, vb6, vb7, vb8, vb9, vb10, vz0, vz1, vy0, vx0, ↓reduceIte, Nat.reduceBEq, Nat.reduceEqDiff, Nat.reduceLT, Nat.reduceLeDiff, Nat.reduceAdd, Nat.reduceMul, Nat.reduceSub, reduceCtorEq, Int.reduceToNat]) (by omega) (by omega) ?_
        rw [hs]
        (simp (disch := (first | omega | (simp only [vlen]; first | done | omega))) only [Fits_u, Fits_m, Fits_nil, List.length_append, vcz, ↓va0, ↓va1, ↓va2, ↓va3, vb0, vb1, vb2, vb3, vb4, vb5, vb6, vb7, vb8, vb9, vb10, vz0, vz1, vy0, vx0, ↓reduceIte, Nat.reduceBEq, Nat.reduceEqDiff, Nat.reduceLT, Nat.reduceLeDiff, Nat.reduceAdd, Nat.reduceMul, Nat.reduceSub, reduceCtorEq, Int.reduceToNat] <;> (repeat' first | rfl | apply And.intro))
        all_goals first | rfl | skip
      · rw [if_neg (by omega), Nat.add_zero] at hs
        refine loopK.mk (k + 1) (by simp (disch := (first | omega | (simp only [vlen]; first | done | omega))) only [↓va0, ↓va1, ↓va2, ↓va3, vb0, vb1, vb2, vb3, vb4, vb5, vb6, vb7, vb8, vb9, vb10, vz0, vz1, vy0, vx0, ↓reduceIte, Nat.reduceBEq, Nat.reduceEqDiff, Nat.reduceLT, Nat.reduceLeDiff, Nat.reduceAdd, Nat.reduceMul, Nat.reduceSub, reduceCtorEq, Int.reduceToNat]) (by omega) (by omega) ?_
        rw [hs]
        (simp (disch := (first | omega | (simp only [vlen]; first | done | omega))) only [Fits_u, Fits_m, Fits_nil, List.length_append, vcz, ↓va0, ↓va1, ↓va2, ↓va3, vb0, vb1, vb2, vb3, vb4, vb5, vb6, vb7, vb8, vb9, vb10, vz0, vz1, vy0, vx0, ↓reduceIte, Nat.reduceBEq, Nat.reduceEqDiff, Nat.reduceLT, Nat.reduceLeDiff, Nat.reduceAdd, Nat.reduceMul, Nat.reduceSub, reduceCtorEq, Int.reduceToNat] <;> (repeat' first | rfl | apply And.intro))
        all_goals first | rfl | skip
    · have hna := @nlt_all C x k hC (by omega)
      rw [hna]
      repeat' first | (refine Br.dec (fun h => ?_) (fun h => ?_) <;> try (exfalso; omega)) | (refine Br.eqi (fun h => ?_) (fun h => ?_) <;> try (exfalso; omega)) | (simp (disch := (first | omega | (simp only [vlen]; first | done | omega))) only [vcz, ↓va0, ↓va1, ↓va2, ↓va3, vb0, vb1, vb2, vb3, vb4, vb5, vb6, vb7, vb8, vb9, vb10, vz0, vz1, vy0, vx0, ↓reduceIte, Nat.reduceBEq, Nat.reduceEqDiff, Nat.reduceLT, Nat.reduceLeDiff, Nat.reduceAdd, Nat.reduceMul, Nat.reduceSub, reduceCtorEq, Int.reduceToNat]) | (refine Br.mk (fun h => ?_) (fun h => ?_)) | (refine BrN.mk (fun h => ?_) ?_) | (refine AltVC.mk ?_ ?_)
      exact finH_mk ((cmO C).map some) (by simp) (by simp (disch := (first | omega | (simp only [vlen]; first | done | omega))) only [vcz, ↓va0, ↓va1, ↓va2, ↓va3, vb0, vb1, vb2, vb3, vb4, vb5, vb6, vb7, vb8, vb9, vb10, vz0, vz1, vy0, vx0, ↓reduceIte, Nat.reduceBEq, Nat.reduceEqDiff, Nat.reduceLT, Nat.reduceLeDiff, Nat.reduceAdd, Nat.reduceMul, Nat.reduceSub, reduceCtorEq, Int.reduceToNat]) (by simp (disch := (first | omega | (simp only [vlen]; first | done | omega))) only [vcz, ↓va0, ↓va1, ↓va2, ↓va3, vb0, vb1, vb2, vb3, vb4, vb5, vb6, vb7, vb8, vb9, vb10, vz0, vz1, vy0, vx0, ↓reduceIte, Nat.reduceBEq, Nat.reduceEqDiff, Nat.reduceLT, Nat.reduceLeDiff, Nat.reduceAdd, Nat.reduceMul, Nat.reduceSub, reduceCtorEq, Int.reduceToNat]) ⟨by simp (disch := (first | omega | (simp only [vlen]; first | done | omega))) only [vcz, ↓va0, ↓va1, ↓va2, ↓va3, vb0, vb1, vb2, vb3, vb4, vb5, vb6, vb7, vb8, vb9, vb10, vz0, vz1, vy0, vx0, ↓reduceIte, Nat.reduceBEq, Nat.reduceEqDiff, Nat.reduceLT, Nat.reduceLeDiff, Nat.reduceAdd, Nat.reduceMul, Nat.reduceSub, reduceCtorEq, Int.reduceToNat], rfl⟩
/-! ### Cut -/
/-- Is a way left, as far as so many of its spots tell? -/
def okW (r : Int) (go : Nat → Bool) (w : List Int) (k : Nat) : Bool := !(decide (w.length ≠ 0 ∧ w.getD 0 0 = r) || ((tl w).take k).any fun x => go x.toNat)
theorem okW_succ {r : Int} {go : Nat → Bool} {w : List Int} {k : Nat} (h : k < (tl w).length) : okW r go w (k + 1) = (okW r go w k && !go ((tl w).getD k 0).toNat) := by
  unfold okW
  rw [take_succ_getD h 0, List.any_append, List.any_cons, List.any_nil, Bool.or_false]
  cases decide (w.length ≠ 0 ∧ w.getD 0 0 = r) <;> cases ((tl w).take k).any (fun x => go x.toNat) <;> cases go ((tl w).getD k 0).toNat <;> rfl
theorem okW_all {r : Int} {go : Nat → Bool} {w : List Int} {k : Nat} (h : (tl w).length ≤ k) : okW r go w k = !cutB r go w := by
  unfold okW cutB; rw [List.take_of_length_le h]
theorem okW_z {r : Int} {go : Nat → Bool} {w : List Int} (h : w.length = 0) : okW r go w 0 = true := by
  unfold okW; rw [List.take_zero, List.any_nil, Bool.or_false, decide_eq_false fun e => e.1 h]; rfl
theorem okW_p {r : Int} {go : Nat → Bool} {w : List Int} (h : w.length ≠ 0) : okW r go w 0 = (w.getD 0 0 != r) := by
  unfold okW; rw [List.take_zero, List.any_nil, Bool.or_false]
  generalize w.getD 0 0 = y
  by_cases e : y = r <;> simp [e, h]
def RCutR (g : Dm.Grammar) (t : Dm.Thicket) (r : Int) (d : D) : Prop := ∃ go lf, SatC t g.k r go lf ∧ ((go t.root.toNat = true ∧ d = .tu [.ag [.nl, iv .i64 0], .v (.bool false)]) ∨ (go t.root.toNat = false ∧ ∃ C, CmF lf t.root.toNat t.spots.length C ∧ d = .tu [.ag (thiD (cutT t lf C)), .v (.bool true)]))
def rcO (t : Dm.Thicket) (g : Dm.Grammar) (n : Nat) (out : List Nat) (c : Nat) (go : Nat → Bool) (lf : Nat → List (List Int)) : List (Nat × Ob) := [(0, ⟨4, [graD g], true, false, .fix⟩), (1, ⟨2, [thiD t], true, false, .fix⟩), (2, ⟨2, [[.nl, iv .i64 0]], true, false, .fix⟩), (3, ⟨1, tabD n fun j => lfC out c lf j, true, decide (0 < c), .arr⟩), (4, ⟨1, bls (gob n go), true, false, .arr⟩)]
def rcA (t : Dm.Thicket) (g : Dm.Grammar) (n : Nat) (out : List Nat) (c i : Nat) (go : Nat → Bool) (lf : Nat → List (List Int)) (ws : List (List Int)) : List (Nat × Ob) := [(0, ⟨4, [graD g], true, false, .fix⟩), (1, ⟨2, [thiD t], true, false, .fix⟩), (2, ⟨2, [[.nl, iv .i64 0]], true, false, .fix⟩), (3, ⟨1, tabD n fun j => if j = i then .own false 1 (rows i64s ws) else lfC out c lf j, true, true, .arr⟩), (4, ⟨1, bls (gob n go), true, false, .arr⟩)]
def cmL (g : Dm.Grammar) (t : Dm.Thicket) (rt : Nat) (C : List Nat) : List (Nat × Ob) := [(0, ⟨4, [graD g], true, false, .fix⟩), (1, ⟨2, [[.sl 4 (tbl spoD t.spots), iv .i64 rt]], true, false, .fix⟩), (2, ⟨2, [[.nl, iv .i64 0]], true, false, .fix⟩), (5, ⟨1, tbl ixD C, true, false, .arr⟩), (6, ⟨1, [[.ref 5 1 0 C.length]], false, false, .fix⟩)]
def cuL (g : Dm.Grammar) (t : Dm.Thicket) (lf : Nat → List (List Int)) (rt : Nat) (C : List Nat) (i : Nat) : List (Nat × Ob) := [(0, ⟨4, [graD g], true, false, .fix⟩), (1, ⟨2, [[.sl 4 (tbl spoD t.spots), iv .i64 rt]], true, false, .fix⟩), (2, ⟨2, [[.nl, iv .i64 0]], true, false, .fix⟩), (5, ⟨1, tbl ixD C, true, false, .arr⟩), (6, ⟨1, [[.ref 5 1 0 C.length]], false, false, .fix⟩), (7, ⟨2, [[.own false 4 (tbl spoD (cutL t lf C i)), iv .i64 (nmb C rt)]], true, true, .fix⟩)]
theorem renW_get {C : List Nat} {w : List Int} {k : Nat} (h : k < w.length) : (renW C w).getD k 0 = if k = 0 then w.getD 0 0 else (nmb C (w.getD k 0).toNat : Int) := by
  rw [← renK_all (Nat.le_refl _)]
  unfold renK
  rw [tab_getD h]
  by_cases e : k = 0
  · subst e; rw [if_neg (by omega), if_pos rfl]
  · rw [if_pos (by omega), if_neg e]
set_option maxRecDepth 10000 in
set_option maxHeartbeats 4000000 in
theorem rcut_spec (g : Dm.Grammar) (hg0 : gcode g = 0) (t : Dm.Thicket) (ht : t.ok) (hG : Good t) (out : List Nat) (hO : Ord t out) (hb : ∀ i, i < t.spots.length → (kdL (wys t i)).length ≤ 4294967296 ∧ (wys t i).length ≤ 4294967296 ∧ ∀ w, w ∈ wys t i → w.length ≤ 4294967296) (r : Int) : Dm.Spec Try.prog 21 [.ag (graD g), .ag (thiD t), .sl 1 (tbl ixD out), iv .i64 r] (RCutR g t r) := by
  refine spec_of_vc mixed Try.func21 c21 (by rw [show Try.f21.ntmps = _ from Try.ntmps21]; simp) ?_
  unfold m21 r21
  have hk0 := gcode_ok hg0
  have hG2 := hG.1
  have hG3 := hG.2.1
  have hol : out.length ≤ t.spots.length := nodup_len _ _ hO.2.1 fun x hx => (hO.2.2 x).mp hx
  obtain ⟨n, hn⟩ : ∃ n, t.spots.length = n := ⟨_, rfl⟩
  repeat' first | (refine Br.dec (fun h => ?_) (fun h => ?_) <;> try (exfalso; omega)) | (refine Br.eqi (fun h => ?_) (fun h => ?_) <;> try (exfalso; omega)) | (simp (disch := (first | omega | (simp only [vlen]; first | done | omega))) only [vcz, hn, ↓va0, ↓va1, ↓va2, ↓va3, vb0, vb1, vb2, vb3, vb4, vb5, vb6, vb7, vb8, vb9, vb10, vz0, vz1, vy0, vx0, ↓reduceIte, Nat.reduceBEq, Nat.reduceEqDiff, Nat.reduceLT, Nat.reduceLeDiff, Nat.reduceAdd, Nat.reduceMul, Nat.reduceSub, reduceCtorEq, Int.reduceToNat]) | (refine Br.mk (fun h => ?_) (fun h => ?_)) | (refine BrN.mk (fun h => ?_) ?_) | (refine AltVC.mk ?_ ?_)
  rw [gob_rep, tabD_rep]
  refine LoopVC.mk (X := Nat × (Nat → Bool) × (Nat → List (List Int))) (fun x => [(10, .ref 3 1 0 n), (11, .ref 4 1 0 n), (45, iv .i64 x.1)]) (fun x => rcO t g n out x.1 x.2.1 x.2.2) (fun x => out.length - x.1) (fun x => x.1 ≤ out.length ∧ CtI t g.k r out x.1 x.2.1 x.2.2) (0, (fun _ => false), fun _ => []) ⟨Nat.zero_le _, fun j h => absurd h (Nat.not_lt_zero _)⟩ ?_ ?_
  · simp only [rcO]
    (simp (disch := (first | omega | (simp only [vlen]; first | done | omega))) only [Fits_u, Fits_m, Fits_nil, List.length_append, vcz, hn, ↓va0, ↓va1, ↓va2, ↓va3, vb0, vb1, vb2, vb3, vb4, vb5, vb6, vb7, vb8, vb9, vb10, vz0, vz1, vy0, vx0, ↓reduceIte, Nat.reduceBEq, Nat.reduceEqDiff, Nat.reduceLT, Nat.reduceLeDiff, Nat.reduceAdd, Nat.reduceMul, Nat.reduceSub, reduceCtorEq, Int.reduceToNat] <;> (repeat' first | rfl | apply And.intro))
    all_goals first | rfl | skip
  · rintro ⟨c, go, lf⟩ ⟨hc, hI⟩
    simp only at hc hI ⊢
    simp only [rcO]
    by_cases hcl : c < out.length
    · have hil := (hO.2.2 _).mp (mem_getD0.mpr ⟨c, hcl, rfl⟩)
      have hbi := hb _ hil
      have hkid := kid_ne hO hG hcl (Nat.le_refl c)
      have hnl := @lfC_nl out c lf hO.2.1 hcl
      obtain ⟨i, hi⟩ : ∃ i, out.getD c 0 = i := ⟨_, rfl⟩
      have hix : (tbl ixD out).getD c [] = [iv .i64 i] := by rw [← hi]; exact tbl_get hcl
      rw [hi] at hil hbi hkid hnl
      unfold wys at hbi hkid
      rw [hn] at hil hkid
      repeat' first | (refine Br.dec (fun h => ?_) (fun h => ?_) <;> try (exfalso; omega)) | (refine Br.eqi (fun h => ?_) (fun h => ?_) <;> try (exfalso; omega)) | (simp (disch := (first | omega | (simp only [vlen]; first | done | omega))) only [vcz, hn, hix, hnl, ↓va0, ↓va1, ↓va2, ↓va3, vb0, vb1, vb2, vb3, vb4, vb5, vb6, vb7, vb8, vb9, vb10, vz0, vz1, vy0, vx0, ↓reduceIte, Nat.reduceBEq, Nat.reduceEqDiff, Nat.reduceLT, Nat.reduceLeDiff, Nat.reduceAdd, Nat.reduceMul, Nat.reduceSub, reduceCtorEq, Int.reduceToNat]) | (refine Br.mk (fun h => ?_) (fun h => ?_)) | (refine BrN.mk (fun h => ?_) ?_) | (refine AltVC.mk ?_ ?_)
      refine LoopVC.nlo 3 i 0 1 ?_
      repeat' first | (refine Br.dec (fun h => ?_) (fun h => ?_) <;> try (exfalso; omega)) | (refine Br.eqi (fun h => ?_) (fun h => ?_) <;> try (exfalso; omega)) | (simp (disch := (first | omega | (simp only [vlen]; first | done | omega))) only [vcz, hn, hix, hnl, ↓va0, ↓va1, ↓va2, ↓va3, vb0, vb1, vb2, vb3, vb4, vb5, vb6, vb7, vb8, vb9, vb10, vz0, vz1, vy0, vx0, ↓reduceIte, Nat.reduceBEq, Nat.reduceEqDiff, Nat.reduceLT, Nat.reduceLeDiff, Nat.reduceAdd, Nat.reduceMul, Nat.reduceSub, reduceCtorEq, Int.reduceToNat]) | (refine Br.mk (fun h => ?_) (fun h => ?_)) | (refine BrN.mk (fun h => ?_) ?_) | (refine AltVC.mk ?_ ?_)
      obtain ⟨ws, hws⟩ : ∃ ws, (t.spots.getD i default).ways = ws := ⟨_, rfl⟩
      rw [hws] at hkid hbi
      rw [hws]
      refine LoopVC.mk (X := Nat) (fun q => [(10, .ref 3 1 0 n), (11, .ref 4 1 0 n), (56, iv .i64 q)]) (fun q => rcA t g n out c i go lf (lfW r go (ws.take q))) (fun q => ws.length - q) (fun q => q ≤ ws.length) 0 (Nat.zero_le _) ?_ ?_
      · simp only [rcA]
        (simp (disch := (first | omega | (simp only [vlen]; first | done | omega))) only [Fits_u, Fits_m, Fits_nil, List.length_append, vcz, hn, ↓va0, ↓va1, ↓va2, ↓va3, vb0, vb1, vb2, vb3, vb4, vb5, vb6, vb7, vb8, vb9, vb10, vz0, vz1, vy0, vx0, ↓reduceIte, Nat.reduceBEq, Nat.reduceEqDiff, Nat.reduceLT, Nat.reduceLeDiff, Nat.reduceAdd, Nat.reduceMul, Nat.reduceSub, reduceCtorEq, Int.reduceToNat] <;> (repeat' first | rfl | apply And.intro))
        all_goals first | rfl | skip
      · intro q hq
        simp only [rcA]
        have hlq : (lfW r go (ws.take q)).length ≤ q := Nat.le_trans lfW_len (by rw [List.length_take]; omega)
        by_cases hql : q < ws.length
        · have hm := getD_mem' (l := ws) (i := q) hql
          have hs := @lfW_succ r go ws q hql
          have hwl := hbi.2.2 _ hm
          have hwk := hkid _ hm
          obtain ⟨w, hwe⟩ : ∃ w, ws.getD q default = w := ⟨_, rfl⟩
          rw [hwe] at hs hwl hwk
          have htl : (tl w).length = w.length - 1 := List.length_drop
          have hrw : rows i64s (lfW r go (ws.take q)) ++ [[.sl 1 (i64s w)]] = rows i64s (lfW r go (ws.take q) ++ [w]) := by rw [rows_app]
          repeat' first | (refine Br.dec (fun h => ?_) (fun h => ?_) <;> try (exfalso; omega)) | (refine Br.eqi (fun h => ?_) (fun h => ?_) <;> try (exfalso; omega)) | (simp (disch := (first | omega | (simp only [vlen]; first | done | omega))) only [vcz, hn, hwe, ↓va0, ↓va1, ↓va2, ↓va3, vb0, vb1, vb2, vb3, vb4, vb5, vb6, vb7, vb8, vb9, vb10, vz0, vz1, vy0, vx0, ↓reduceIte, Nat.reduceBEq, Nat.reduceEqDiff, Nat.reduceLT, Nat.reduceLeDiff, Nat.reduceAdd, Nat.reduceMul, Nat.reduceSub, reduceCtorEq, Int.reduceToNat]) | (refine Br.mk (fun h => ?_) (fun h => ?_)) | (refine BrN.mk (fun h => ?_) ?_) | (refine AltVC.mk ?_ ?_)
          all_goals
            refine CallVC.eq (tail_spec w (by omega)) ?_
            repeat' first | (refine Br.dec (fun h => ?_) (fun h => ?_) <;> try (exfalso; omega)) | (refine Br.eqi (fun h => ?_) (fun h => ?_) <;> try (exfalso; omega)) | (simp (disch := (first | omega | (simp only [vlen]; first | done | omega))) only [vcz, hn, hwe, ↓va0, ↓va1, ↓va2, ↓va3, vb0, vb1, vb2, vb3, vb4, vb5, vb6, vb7, vb8, vb9, vb10, vz0, vz1, vy0, vx0, ↓reduceIte, Nat.reduceBEq, Nat.reduceEqDiff, Nat.reduceLT, Nat.reduceLeDiff, Nat.reduceAdd, Nat.reduceMul, Nat.reduceSub, reduceCtorEq, Int.reduceToNat]) | (refine Br.mk (fun h => ?_) (fun h => ?_)) | (refine BrN.mk (fun h => ?_) ?_) | (refine AltVC.mk ?_ ?_)
            refine LoopVC.mk (X := Nat) (fun k => [(10, .ref 3 1 0 n), (11, .ref 4 1 0 n), (16, .v (.bool (okW r go w k))), (73, iv .i64 k)]) (fun _ => rcA t g n out c i go lf (lfW r go (ws.take q))) (fun k => (tl w).length - k) (fun k => k ≤ (tl w).length) 0 (Nat.zero_le _) ?_ ?_
            · simp only [rcA]
              (simp (disch := (first | omega | (simp only [vlen]; first | done | omega))) only [Fits_u, Fits_m, Fits_nil, List.length_append, vcz, hn, ↓va0, ↓va1, ↓va2, ↓va3, vb0, vb1, vb2, vb3, vb4, vb5, vb6, vb7, vb8, vb9, vb10, vz0, vz1, vy0, vx0, ↓reduceIte, Nat.reduceBEq, Nat.reduceEqDiff, Nat.reduceLT, Nat.reduceLeDiff, Nat.reduceAdd, Nat.reduceMul, Nat.reduceSub, reduceCtorEq, Int.reduceToNat] <;> (repeat' first | rfl | apply And.intro))
              all_goals first
                | rfl
                | exact vbEq (okW_z (by omega)).symm
                | exact vbEq (okW_p (by omega)).symm
                | skip
            · intro k hk
              simp only [rcA]
              by_cases hkl : k < (tl w).length
              · first
                | (exfalso; omega)
                | (
                    have hx := (hwk _ (getD_mem' (l := tl w) (i := k) hkl)).1
                    have hs2 := @okW_succ r go w k hkl
                    obtain ⟨x, hxe⟩ : ∃ x : Nat, (tl w).getD k 0 = x := ⟨((tl w).getD k 0).toNat, by have := hx.1; change 0 ≤ (tl w).getD k 0 at this; omega⟩
                    have hx' : (0 : Int) ≤ (x : Int) ∧ (x : Int) < n := hxe ▸ hx
                    rw [hxe, Int.toNat_natCast] at hs2
                    cases hok : okW r go w k with
                    | true =>
                      rw [hok, Bool.true_and] at hs2
                      repeat' first | (refine Br.dec (fun h => ?_) (fun h => ?_) <;> try (exfalso; omega)) | (refine Br.eqi (fun h => ?_) (fun h => ?_) <;> try (exfalso; omega)) | (simp (disch := (first | omega | (simp only [vlen]; first | done | omega))) only [vcz, hn, hxe, ↓va0, ↓va1, ↓va2, ↓va3, vb0, vb1, vb2, vb3, vb4, vb5, vb6, vb7, vb8, vb9, vb10, vz0, vz1, vy0, vx0, ↓reduceIte, Nat.reduceBEq, Nat.reduceEqDiff, Nat.reduceLT, Nat.reduceLeDiff, Nat.reduceAdd, Nat.reduceMul, Nat.reduceSub, reduceCtorEq, Int.reduceToNat]) | (refine Br.mk (fun h => ?_) (fun h => ?_)) | (refine BrN.mk (fun h => ?_) ?_) | (refine AltVC.mk ?_ ?_)
                      refine loopK.mk (k + 1) (by simp (disch := (first | omega | (simp only [vlen]; first | done | omega))) only [↓va0, ↓va1, ↓va2, ↓va3, vb0, vb1, vb2, vb3, vb4, vb5, vb6, vb7, vb8, vb9, vb10, vz0, vz1, vy0, vx0, ↓reduceIte, Nat.reduceBEq, Nat.reduceEqDiff, Nat.reduceLT, Nat.reduceLeDiff, Nat.reduceAdd, Nat.reduceMul, Nat.reduceSub, reduceCtorEq, Int.reduceToNat]) (by omega) (by omega) ?_
                      rw [hs2]
                      (simp (disch := (first | omega | (simp only [vlen]; first | done | omega))) only [Fits_u, Fits_m, Fits_nil, List.length_append, vcz, hn, ↓va0, ↓va1, ↓va2, ↓va3, vb0, vb1, vb2, vb3, vb4, vb5, vb6, vb7, vb8, vb9, vb10, vz0, vz1, vy0, vx0, ↓reduceIte, Nat.reduceBEq, Nat.reduceEqDiff, Nat.reduceLT, Nat.reduceLeDiff, Nat.reduceAdd, Nat.reduceMul, Nat.reduceSub, reduceCtorEq, Int.reduceToNat] <;> (repeat' first | rfl | apply And.intro))
                      all_goals first | rfl | skip
                    | false =>
                      rw [hok, Bool.false_and] at hs2
                      repeat' first | (refine Br.dec (fun h => ?_) (fun h => ?_) <;> try (exfalso; omega)) | (refine Br.eqi (fun h => ?_) (fun h => ?_) <;> try (exfalso; omega)) | (simp (disch := (first | omega | (simp only [vlen]; first | done | omega))) only [vcz, hn, hxe, ↓va0, ↓va1, ↓va2, ↓va3, vb0, vb1, vb2, vb3, vb4, vb5, vb6, vb7, vb8, vb9, vb10, vz0, vz1, vy0, vx0, ↓reduceIte, Nat.reduceBEq, Nat.reduceEqDiff, Nat.reduceLT, Nat.reduceLeDiff, Nat.reduceAdd, Nat.reduceMul, Nat.reduceSub, reduceCtorEq, Int.reduceToNat]) | (refine Br.mk (fun h => ?_) (fun h => ?_)) | (refine BrN.mk (fun h => ?_) ?_) | (refine AltVC.mk ?_ ?_)
                      refine loopK.mk (k + 1) (by simp (disch := (first | omega | (simp only [vlen]; first | done | omega))) only [↓va0, ↓va1, ↓va2, ↓va3, vb0, vb1, vb2, vb3, vb4, vb5, vb6, vb7, vb8, vb9, vb10, vz0, vz1, vy0, vx0, ↓reduceIte, Nat.reduceBEq, Nat.reduceEqDiff, Nat.reduceLT, Nat.reduceLeDiff, Nat.reduceAdd, Nat.reduceMul, Nat.reduceSub, reduceCtorEq, Int.reduceToNat]) (by omega) (by omega) ?_
                      rw [hs2]
                      (simp (disch := (first | omega | (simp only [vlen]; first | done | omega))) only [Fits_u, Fits_m, Fits_nil, List.length_append, vcz, hn, ↓va0, ↓va1, ↓va2, ↓va3, vb0, vb1, vb2, vb3, vb4, vb5, vb6, vb7, vb8, vb9, vb10, vz0, vz1, vy0, vx0, ↓reduceIte, Nat.reduceBEq, Nat.reduceEqDiff, Nat.reduceLT, Nat.reduceLeDiff, Nat.reduceAdd, Nat.reduceMul, Nat.reduceSub, reduceCtorEq, Int.reduceToNat] <;> (repeat' first | rfl | apply And.intro))
                      all_goals first | rfl | skip
                  )
              · have hoa := @okW_all r go w k (by omega)
                cases hcb : cutB r go w with
                | true =>
                  rw [hcb] at hoa
                  rw [hcb, if_pos rfl, List.append_nil] at hs
                  rw [hoa]
                  repeat' first | (refine Br.dec (fun h => ?_) (fun h => ?_) <;> try (exfalso; omega)) | (refine Br.eqi (fun h => ?_) (fun h => ?_) <;> try (exfalso; omega)) | (simp (disch := (first | omega | (simp only [vlen]; first | done | omega))) only [vcz, hn, ↓va0, ↓va1, ↓va2, ↓va3, vb0, vb1, vb2, vb3, vb4, vb5, vb6, vb7, vb8, vb9, vb10, vz0, vz1, vy0, vx0, ↓reduceIte, Nat.reduceBEq, Nat.reduceEqDiff, Nat.reduceLT, Nat.reduceLeDiff, Nat.reduceAdd, Nat.reduceMul, Nat.reduceSub, reduceCtorEq, Int.reduceToNat]) | (refine Br.mk (fun h => ?_) (fun h => ?_)) | (refine BrN.mk (fun h => ?_) ?_) | (refine AltVC.mk ?_ ?_)
                  refine loopK.mk (q + 1) (by simp (disch := (first | omega | (simp only [vlen]; first | done | omega))) only [↓va0, ↓va1, ↓va2, ↓va3, vb0, vb1, vb2, vb3, vb4, vb5, vb6, vb7, vb8, vb9, vb10, vz0, vz1, vy0, vx0, ↓reduceIte, Nat.reduceBEq, Nat.reduceEqDiff, Nat.reduceLT, Nat.reduceLeDiff, Nat.reduceAdd, Nat.reduceMul, Nat.reduceSub, reduceCtorEq, Int.reduceToNat]) (by omega) (by omega) ?_
                  rw [hs]
                  (simp (disch := (first | omega | (simp only [vlen]; first | done | omega))) only [Fits_u, Fits_m, Fits_nil, List.length_append, vcz, hn, ↓va0, ↓va1, ↓va2, ↓va3, vb0, vb1, vb2, vb3, vb4, vb5, vb6, vb7, vb8, vb9, vb10, vz0, vz1, vy0, vx0, ↓reduceIte, Nat.reduceBEq, Nat.reduceEqDiff, Nat.reduceLT, Nat.reduceLeDiff, Nat.reduceAdd, Nat.reduceMul, Nat.reduceSub, reduceCtorEq, Int.reduceToNat] <;> (repeat' first | rfl | apply And.intro))
                  all_goals first | rfl | skip
                | false =>
                  rw [hcb] at hoa
                  rw [hcb, if_neg (by simp)] at hs
                  rw [hoa]
                  repeat' first | (refine Br.dec (fun h => ?_) (fun h => ?_) <;> try (exfalso; omega)) | (refine Br.eqi (fun h => ?_) (fun h => ?_) <;> try (exfalso; omega)) | (simp (disch := (first | omega | (simp only [vlen]; first | done | omega))) only [vcz, hn, ↓va0, ↓va1, ↓va2, ↓va3, vb0, vb1, vb2, vb3, vb4, vb5, vb6, vb7, vb8, vb9, vb10, vz0, vz1, vy0, vx0, ↓reduceIte, Nat.reduceBEq, Nat.reduceEqDiff, Nat.reduceLT, Nat.reduceLeDiff, Nat.reduceAdd, Nat.reduceMul, Nat.reduceSub, reduceCtorEq, Int.reduceToNat]) | (refine Br.mk (fun h => ?_) (fun h => ?_)) | (refine BrN.mk (fun h => ?_) ?_) | (refine AltVC.mk ?_ ?_)
                  refine loopK.fold 5 3 i 0 true ?_
                  repeat' first | (refine Br.dec (fun h => ?_) (fun h => ?_) <;> try (exfalso; omega)) | (refine Br.eqi (fun h => ?_) (fun h => ?_) <;> try (exfalso; omega)) | (simp (disch := (first | omega | (simp only [vlen]; first | done | omega))) only [vcz, hn, ↓va0, ↓va1, ↓va2, ↓va3, vb0, vb1, vb2, vb3, vb4, vb5, vb6, vb7, vb8, vb9, vb10, vz0, vz1, vy0, vx0, ↓reduceIte, Nat.reduceBEq, Nat.reduceEqDiff, Nat.reduceLT, Nat.reduceLeDiff, Nat.reduceAdd, Nat.reduceMul, Nat.reduceSub, reduceCtorEq, Int.reduceToNat]) | (refine Br.mk (fun h => ?_) (fun h => ?_)) | (refine BrN.mk (fun h => ?_) ?_) | (refine AltVC.mk ?_ ?_)
                  refine Chk.mk ⟨by simp [rows], tabD_all fun j hj => by split <;> first | rfl | exact lfC_clo⟩ ?_
                  refine loopK.mk (q + 1) (by simp (disch := (first | omega | (simp only [vlen]; first | done | omega))) only [↓va0, ↓va1, ↓va2, ↓va3, vb0, vb1, vb2, vb3, vb4, vb5, vb6, vb7, vb8, vb9, vb10, vz0, vz1, vy0, vx0, ↓reduceIte, Nat.reduceBEq, Nat.reduceEqDiff, Nat.reduceLT, Nat.reduceLeDiff, Nat.reduceAdd, Nat.reduceMul, Nat.reduceSub, reduceCtorEq, Int.reduceToNat]) (by omega) (by omega) ?_
                  rw [hs]
                  (simp (disch := (first | omega | (simp only [vlen]; first | done | omega))) only [Fits_u, Fits_m, Fits_nil, List.length_append, vcz, hn, hrw, ↓va0, ↓va1, ↓va2, ↓va3, vb0, vb1, vb2, vb3, vb4, vb5, vb6, vb7, vb8, vb9, vb10, vz0, vz1, vy0, vx0, ↓reduceIte, Nat.reduceBEq, Nat.reduceEqDiff, Nat.reduceLT, Nat.reduceLeDiff, Nat.reduceAdd, Nat.reduceMul, Nat.reduceSub, reduceCtorEq, Int.reduceToNat] <;> (repeat' first | rfl | apply And.intro))
                  all_goals first | rfl | skip
        · have hqe : ws.take q = ws := List.take_of_length_le (by omega)
          rw [hqe] at hlq ⊢
          have hgn : gnB t g.k r go i = decide (g.k ≤ (t.spots.getD i default).sign ∧ (lfW r go ws).length = 0) := by unfold gnB wys; rw [hws]
          have hstep := hI.step hO hG hcl
          rw [hi, hgn] at hstep
          by_cases hks : g.k ≤ (t.spots.getD i default).sign
          · by_cases hl0 : (lfW r go ws).length = 0
            · rw [decide_eq_true ⟨hks, hl0⟩] at hstep
              repeat' first | (refine Br.dec (fun h => ?_) (fun h => ?_) <;> try (exfalso; omega)) | (refine Br.eqi (fun h => ?_) (fun h => ?_) <;> try (exfalso; omega)) | (simp (disch := (first | omega | (simp only [vlen]; first | done | omega))) only [vcz, hn, hix, ↓va0, ↓va1, ↓va2, ↓va3, vb0, vb1, vb2, vb3, vb4, vb5, vb6, vb7, vb8, vb9, vb10, vz0, vz1, vy0, vx0, ↓reduceIte, Nat.reduceBEq, Nat.reduceEqDiff, Nat.reduceLT, Nat.reduceLeDiff, Nat.reduceAdd, Nat.reduceMul, Nat.reduceSub, reduceCtorEq, Int.reduceToNat]) | (refine Br.mk (fun h => ?_) (fun h => ?_)) | (refine BrN.mk (fun h => ?_) ?_) | (refine AltVC.mk ?_ ?_)
              refine loopK.fold 5 3 i 0 true ?_
              repeat' first | (refine Br.dec (fun h => ?_) (fun h => ?_) <;> try (exfalso; omega)) | (refine Br.eqi (fun h => ?_) (fun h => ?_) <;> try (exfalso; omega)) | (simp (disch := (first | omega | (simp only [vlen]; first | done | omega))) only [vcz, hn, hix, ↓va0, ↓va1, ↓va2, ↓va3, vb0, vb1, vb2, vb3, vb4, vb5, vb6, vb7, vb8, vb9, vb10, vz0, vz1, vy0, vx0, ↓reduceIte, Nat.reduceBEq, Nat.reduceEqDiff, Nat.reduceLT, Nat.reduceLeDiff, Nat.reduceAdd, Nat.reduceMul, Nat.reduceSub, reduceCtorEq, Int.reduceToNat]) | (refine Br.mk (fun h => ?_) (fun h => ?_)) | (refine BrN.mk (fun h => ?_) ?_) | (refine AltVC.mk ?_ ?_)
              refine Chk.mk ⟨by simp [rows], tabD_all fun j hj => by split <;> first | rfl | exact lfC_clo⟩ ?_
              refine loopK.mk (c + 1, (fun j => if j = i then true else go j), fun j => if j = i then lfW r go ws else lf j) (by simp (disch := (first | omega | (simp only [vlen]; first | done | omega))) only [↓va0, ↓va1, ↓va2, ↓va3, vb0, vb1, vb2, vb3, vb4, vb5, vb6, vb7, vb8, vb9, vb10, vz0, vz1, vy0, vx0, ↓reduceIte, Nat.reduceBEq, Nat.reduceEqDiff, Nat.reduceLT, Nat.reduceLeDiff, Nat.reduceAdd, Nat.reduceMul, Nat.reduceSub, reduceCtorEq, Int.reduceToNat]) ⟨by show c + 1 ≤ out.length; omega, by rw [show wys t i = ws from hws] at hstep; exact hstep⟩ (by show out.length - (c + 1) < out.length - c; omega) ?_
              try simp only [rcO]
              (simp (disch := (first | omega | (simp only [vlen]; first | done | omega))) only [Fits_u, Fits_m, Fits_nil, List.length_append, vcz, hn, ↓va0, ↓va1, ↓va2, ↓va3, vb0, vb1, vb2, vb3, vb4, vb5, vb6, vb7, vb8, vb9, vb10, vz0, vz1, vy0, vx0, ↓reduceIte, Nat.reduceBEq, Nat.reduceEqDiff, Nat.reduceLT, Nat.reduceLeDiff, Nat.reduceAdd, Nat.reduceMul, Nat.reduceSub, reduceCtorEq, Int.reduceToNat] <;> (repeat' first | rfl | apply And.intro))
              all_goals first
                | exact obTabW (fun j hj => by rw [← hi]; exact lfC_step hO.2.1 hcl) (decide_eq_true (by omega)).symm
                | exact obGob fun j hj => (by
                    by_cases e : j = i
                    · rw [if_pos e, if_pos e]; first | rfl | exact beq_iff_eq.mpr (by omega) | exact beq_eq_false_iff_ne.mpr (by omega)
                    · rw [if_neg e, if_neg e])
                | rfl
                | skip
            · rw [decide_eq_false fun h => hl0 h.2] at hstep
              repeat' first | (refine Br.dec (fun h => ?_) (fun h => ?_) <;> try (exfalso; omega)) | (refine Br.eqi (fun h => ?_) (fun h => ?_) <;> try (exfalso; omega)) | (simp (disch := (first | omega | (simp only [vlen]; first | done | omega))) only [vcz, hn, hix, ↓va0, ↓va1, ↓va2, ↓va3, vb0, vb1, vb2, vb3, vb4, vb5, vb6, vb7, vb8, vb9, vb10, vz0, vz1, vy0, vx0, ↓reduceIte, Nat.reduceBEq, Nat.reduceEqDiff, Nat.reduceLT, Nat.reduceLeDiff, Nat.reduceAdd, Nat.reduceMul, Nat.reduceSub, reduceCtorEq, Int.reduceToNat]) | (refine Br.mk (fun h => ?_) (fun h => ?_)) | (refine BrN.mk (fun h => ?_) ?_) | (refine AltVC.mk ?_ ?_)
              refine loopK.fold 5 3 i 0 true ?_
              repeat' first | (refine Br.dec (fun h => ?_) (fun h => ?_) <;> try (exfalso; omega)) | (refine Br.eqi (fun h => ?_) (fun h => ?_) <;> try (exfalso; omega)) | (simp (disch := (first | omega | (simp only [vlen]; first | done | omega))) only [vcz, hn, hix, ↓va0, ↓va1, ↓va2, ↓va3, vb0, vb1, vb2, vb3, vb4, vb5, vb6, vb7, vb8, vb9, vb10, vz0, vz1, vy0, vx0, ↓reduceIte, Nat.reduceBEq, Nat.reduceEqDiff, Nat.reduceLT, Nat.reduceLeDiff, Nat.reduceAdd, Nat.reduceMul, Nat.reduceSub, reduceCtorEq, Int.reduceToNat]) | (refine Br.mk (fun h => ?_) (fun h => ?_)) | (refine BrN.mk (fun h => ?_) ?_) | (refine AltVC.mk ?_ ?_)
              refine Chk.mk ⟨by simp [rows], tabD_all fun j hj => by split <;> first | rfl | exact lfC_clo⟩ ?_
              refine loopK.mk (c + 1, (fun j => if j = i then false else go j), fun j => if j = i then lfW r go ws else lf j) (by simp (disch := (first | omega | (simp only [vlen]; first | done | omega))) only [↓va0, ↓va1, ↓va2, ↓va3, vb0, vb1, vb2, vb3, vb4, vb5, vb6, vb7, vb8, vb9, vb10, vz0, vz1, vy0, vx0, ↓reduceIte, Nat.reduceBEq, Nat.reduceEqDiff, Nat.reduceLT, Nat.reduceLeDiff, Nat.reduceAdd, Nat.reduceMul, Nat.reduceSub, reduceCtorEq, Int.reduceToNat]) ⟨by show c + 1 ≤ out.length; omega, by rw [show wys t i = ws from hws] at hstep; exact hstep⟩ (by show out.length - (c + 1) < out.length - c; omega) ?_
              try simp only [rcO]
              (simp (disch := (first | omega | (simp only [vlen]; first | done | omega))) only [Fits_u, Fits_m, Fits_nil, List.length_append, vcz, hn, ↓va0, ↓va1, ↓va2, ↓va3, vb0, vb1, vb2, vb3, vb4, vb5, vb6, vb7, vb8, vb9, vb10, vz0, vz1, vy0, vx0, ↓reduceIte, Nat.reduceBEq, Nat.reduceEqDiff, Nat.reduceLT, Nat.reduceLeDiff, Nat.reduceAdd, Nat.reduceMul, Nat.reduceSub, reduceCtorEq, Int.reduceToNat] <;> (repeat' first | rfl | apply And.intro))
              all_goals first
                | exact obTabW (fun j hj => by rw [← hi]; exact lfC_step hO.2.1 hcl) (decide_eq_true (by omega)).symm
                | exact obGob fun j hj => (by
                    by_cases e : j = i
                    · rw [if_pos e, if_pos e]; first | rfl | exact beq_iff_eq.mpr (by omega) | exact beq_eq_false_iff_ne.mpr (by omega)
                    · rw [if_neg e, if_neg e])
                | rfl
                | skip
          · rw [decide_eq_false fun h => hks h.1] at hstep
            repeat' first | (refine Br.dec (fun h => ?_) (fun h => ?_) <;> try (exfalso; omega)) | (refine Br.eqi (fun h => ?_) (fun h => ?_) <;> try (exfalso; omega)) | (simp (disch := (first | omega | (simp only [vlen]; first | done | omega))) only [vcz, hn, hix, ↓va0, ↓va1, ↓va2, ↓va3, vb0, vb1, vb2, vb3, vb4, vb5, vb6, vb7, vb8, vb9, vb10, vz0, vz1, vy0, vx0, ↓reduceIte, Nat.reduceBEq, Nat.reduceEqDiff, Nat.reduceLT, Nat.reduceLeDiff, Nat.reduceAdd, Nat.reduceMul, Nat.reduceSub, reduceCtorEq, Int.reduceToNat]) | (refine Br.mk (fun h => ?_) (fun h => ?_)) | (refine BrN.mk (fun h => ?_) ?_) | (refine AltVC.mk ?_ ?_)
            refine loopK.mk (c + 1, (fun j => if j = i then false else go j), fun j => if j = i then lfW r go ws else lf j) (by simp (disch := (first | omega | (simp only [vlen]; first | done | omega))) only [↓va0, ↓va1, ↓va2, ↓va3, vb0, vb1, vb2, vb3, vb4, vb5, vb6, vb7, vb8, vb9, vb10, vz0, vz1, vy0, vx0, ↓reduceIte, Nat.reduceBEq, Nat.reduceEqDiff, Nat.reduceLT, Nat.reduceLeDiff, Nat.reduceAdd, Nat.reduceMul, Nat.reduceSub, reduceCtorEq, Int.reduceToNat]) ⟨by show c + 1 ≤ out.length; omega, by rw [show wys t i = ws from hws] at hstep; exact hstep⟩ (by show out.length - (c + 1) < out.length - c; omega) ?_
            try simp only [rcO]
            (simp (disch := (first | omega | (simp only [vlen]; first | done | omega))) only [Fits_u, Fits_m, Fits_nil, List.length_append, vcz, hn, ↓va0, ↓va1, ↓va2, ↓va3, vb0, vb1, vb2, vb3, vb4, vb5, vb6, vb7, vb8, vb9, vb10, vz0, vz1, vy0, vx0, ↓reduceIte, Nat.reduceBEq, Nat.reduceEqDiff, Nat.reduceLT, Nat.reduceLeDiff, Nat.reduceAdd, Nat.reduceMul, Nat.reduceSub, reduceCtorEq, Int.reduceToNat] <;> (repeat' first | rfl | apply And.intro))
            all_goals first
              | exact obTabW (fun j hj => by rw [← hi]; exact lfC_step hO.2.1 hcl) (decide_eq_true (by omega)).symm
              | exact obGob fun j hj => (by by_cases e : j = i <;> simp only [e, if_true, if_false, hks, decide_true, decide_false])
              | rfl
              | skip
    · have hcn : c = out.length := by omega
      rw [lfC_all (fun x => by rw [hO.2.2 x, hn]) hcn]
      subst hcn
      have hpos : 0 < out.length := List.length_pos_of_mem ((hO.2.2 t.root.toNat).mpr (by omega))
      rw [decide_eq_true hpos]
      have hS := hI.sat hO
      have hLo : LfOk t lf := by
        have hsat : ∀ j, j < t.spots.length → lf j = lfW r go (wys t j) := fun j hj => (hS j hj).2
        refine ⟨fun j hj w hw x hx => ?_, fun j hj => ?_, fun j hj w hw => ?_, fun j hj => ?_⟩
        · rw [hsat j hj] at hw
          obtain ⟨m, hm, e⟩ := mem_getD0.mp ((hO.2.2 j).mpr hj)
          have := (kid_ne hO hG hm (Nat.le_refl m) w (by rw [e]; exact lfW_sub hw) x hx).1
          exact this
        · rw [hsat j hj]; exact Nat.le_trans lfW_len (hb j hj).2.1
        · rw [hsat j hj] at hw; exact (hb j hj).2.2 w (lfW_sub hw)
        · rw [hsat j hj]; exact Nat.le_trans kdL_lfW (hb j hj).1
      obtain ⟨rt, hrt⟩ : ∃ rt : Nat, t.root = rt := ⟨t.root.toNat, by omega⟩
      repeat' first | (refine Br.dec (fun h => ?_) (fun h => ?_) <;> try (exfalso; omega)) | (refine Br.eqi (fun h => ?_) (fun h => ?_) <;> try (exfalso; omega)) | (simp (disch := (first | omega | (simp only [vlen]; first | done | omega))) only [vcz, hn, hrt, ↓va0, ↓va1, ↓va2, ↓va3, vb0, vb1, vb2, vb3, vb4, vb5, vb6, vb7, vb8, vb9, vb10, vz0, vz1, vy0, vx0, ↓reduceIte, Nat.reduceBEq, Nat.reduceEqDiff, Nat.reduceLT, Nat.reduceLeDiff, Nat.reduceAdd, Nat.reduceMul, Nat.reduceSub, reduceCtorEq, Int.reduceToNat]) | (refine Br.mk (fun h => ?_) (fun h => ?_)) | (refine BrN.mk (fun h => ?_) ?_) | (refine AltVC.mk ?_ ?_)
      · exact fin_mk ⟨go, lf, hS, .inl ⟨by rw [hrt, Int.toNat_natCast]; assumption, rfl⟩⟩
      · refine LoopVC.frz 3 ?_
        repeat' first | (refine Br.dec (fun h => ?_) (fun h => ?_) <;> try (exfalso; omega)) | (refine Br.eqi (fun h => ?_) (fun h => ?_) <;> try (exfalso; omega)) | (simp (disch := (first | omega | (simp only [vlen]; first | done | omega))) only [vcz, hn, hrt, ↓va0, ↓va1, ↓va2, ↓va3, vb0, vb1, vb2, vb3, vb4, vb5, vb6, vb7, vb8, vb9, vb10, vz0, vz1, vy0, vx0, ↓reduceIte, Nat.reduceBEq, Nat.reduceEqDiff, Nat.reduceLT, Nat.reduceLeDiff, Nat.reduceAdd, Nat.reduceMul, Nat.reduceSub, reduceCtorEq, Int.reduceToNat]) | (refine Br.mk (fun h => ?_) (fun h => ?_)) | (refine BrN.mk (fun h => ?_) ?_) | (refine AltVC.mk ?_ ?_)
        refine LoopVC.mk (X := List Nat × Nat) (fun x => [(19, .ptr 6 1 0 0), (20, iv .i64 x.2)]) (fun x => cmL g t rt x.1) (fun x => n - x.2) (fun x => CmI lf rt n x.1 x.2 ∧ x.2 ≤ x.1.length) ([rt], 0) ⟨.start (by omega), Nat.zero_le _⟩ ?_ ?_
        · simp only [cmL]
          (simp (disch := (first | omega | (simp only [vlen]; first | done | omega))) only [Fits_u, Fits_m, Fits_nil, List.length_append, vcz, hn, hrt, ↓va0, ↓va1, ↓va2, ↓va3, vb0, vb1, vb2, vb3, vb4, vb5, vb6, vb7, vb8, vb9, vb10, vz0, vz1, vy0, vx0, ↓reduceIte, Nat.reduceBEq, Nat.reduceEqDiff, Nat.reduceLT, Nat.reduceLeDiff, Nat.reduceAdd, Nat.reduceMul, Nat.reduceSub, reduceCtorEq, Int.reduceToNat] <;> (repeat' first | rfl | apply And.intro))
          all_goals first | rfl | skip
        · rintro ⟨C, k⟩ ⟨hC, hk⟩
          simp only at hC hk ⊢
          simp only [cmL]
          have hCl := hC.len
          by_cases hkl : k < C.length
          · have hixk : (tbl ixD C).getD k [] = [iv .i64 (C.getD k 0)] := tbl_get hkl
            have hi := hC.lt _ (getD_mem' (l := C) (i := k) hkl)
            obtain ⟨i, hie⟩ : ∃ i, C.getD k default = i := ⟨_, rfl⟩
            have hie0 : C.getD k 0 = i := hie
            rw [hie] at hi
            rw [hie0] at hixk
            have hl1 := hLo.n i (by omega)
            have hl2 := hLo.w i (by omega)
            have hl4 := hLo.rg i (by omega)
            rw [hn] at hl4
            repeat' first | (refine Br.dec (fun h => ?_) (fun h => ?_) <;> try (exfalso; omega)) | (refine Br.eqi (fun h => ?_) (fun h => ?_) <;> try (exfalso; omega)) | (simp (disch := (first | omega | (simp only [vlen]; first | done | omega))) only [vcz, hn, hrt, hixk, ↓va0, ↓va1, ↓va2, ↓va3, vb0, vb1, vb2, vb3, vb4, vb5, vb6, vb7, vb8, vb9, vb10, vz0, vz1, vy0, vx0, ↓reduceIte, Nat.reduceBEq, Nat.reduceEqDiff, Nat.reduceLT, Nat.reduceLeDiff, Nat.reduceAdd, Nat.reduceMul, Nat.reduceSub, reduceCtorEq, Int.reduceToNat]) | (refine Br.mk (fun h => ?_) (fun h => ?_)) | (refine BrN.mk (fun h => ?_) ?_) | (refine AltVC.mk ?_ ?_)
            refine LoopVC.mk (X := List Nat × Nat) (fun x => [(19, .ptr 6 1 0 0), (142, iv .i64 x.2)]) (fun x => cmL g t rt x.1) (fun x => (lf i).length - x.2) (fun x => x.2 ≤ (lf i).length ∧ CmI lf rt n x.1 k ∧ k < x.1.length ∧ x.1.getD k 0 = i ∧ ∀ j, j < x.2 → ∀ y, y ∈ tl ((lf i).getD j default) → y.toNat ∈ x.1) (C, 0) ⟨Nat.zero_le _, hC, hkl, hie0, fun j hj => absurd hj (Nat.not_lt_zero _)⟩ ?_ ?_
            · simp only [cmL]
              (simp (disch := (first | omega | (simp only [vlen]; first | done | omega))) only [Fits_u, Fits_m, Fits_nil, List.length_append, vcz, hn, hrt, ↓va0, ↓va1, ↓va2, ↓va3, vb0, vb1, vb2, vb3, vb4, vb5, vb6, vb7, vb8, vb9, vb10, vz0, vz1, vy0, vx0, ↓reduceIte, Nat.reduceBEq, Nat.reduceEqDiff, Nat.reduceLT, Nat.reduceLeDiff, Nat.reduceAdd, Nat.reduceMul, Nat.reduceSub, reduceCtorEq, Int.reduceToNat] <;> (repeat' first | rfl | apply And.intro))
              all_goals first | rfl | skip
            · rintro ⟨C1, q⟩ ⟨hq, hC1, hk1, hi1, hd1⟩
              simp only at hq hC1 hk1 hi1 hd1 ⊢
              try simp only [cmL]
              by_cases hql : q < (lf i).length
              · have hm := getD_mem' (l := lf i) (i := q) hql
                have hwl := hl2 _ hm
                have hwr := hl4 _ hm
                obtain ⟨w, hwe⟩ : ∃ w, (lf i).getD q default = w := ⟨_, rfl⟩
                rw [hwe] at hm hwl hwr
                have htl : (tl w).length ≤ w.length := by unfold tl; rw [List.length_drop]; omega
                repeat' first | (refine Br.dec (fun h => ?_) (fun h => ?_) <;> try (exfalso; omega)) | (refine Br.eqi (fun h => ?_) (fun h => ?_) <;> try (exfalso; omega)) | (simp (disch := (first | omega | (simp only [vlen]; first | done | omega))) only [vcz, hn, hrt, hwe, ↓va0, ↓va1, ↓va2, ↓va3, vb0, vb1, vb2, vb3, vb4, vb5, vb6, vb7, vb8, vb9, vb10, vz0, vz1, vy0, vx0, ↓reduceIte, Nat.reduceBEq, Nat.reduceEqDiff, Nat.reduceLT, Nat.reduceLeDiff, Nat.reduceAdd, Nat.reduceMul, Nat.reduceSub, reduceCtorEq, Int.reduceToNat]) | (refine Br.mk (fun h => ?_) (fun h => ?_)) | (refine BrN.mk (fun h => ?_) ?_) | (refine AltVC.mk ?_ ?_)
                refine CallVC.eq (tail_spec w (by omega)) ?_
                repeat' first | (refine Br.dec (fun h => ?_) (fun h => ?_) <;> try (exfalso; omega)) | (refine Br.eqi (fun h => ?_) (fun h => ?_) <;> try (exfalso; omega)) | (simp (disch := (first | omega | (simp only [vlen]; first | done | omega))) only [vcz, hn, hrt, hwe, ↓va0, ↓va1, ↓va2, ↓va3, vb0, vb1, vb2, vb3, vb4, vb5, vb6, vb7, vb8, vb9, vb10, vz0, vz1, vy0, vx0, ↓reduceIte, Nat.reduceBEq, Nat.reduceEqDiff, Nat.reduceLT, Nat.reduceLeDiff, Nat.reduceAdd, Nat.reduceMul, Nat.reduceSub, reduceCtorEq, Int.reduceToNat]) | (refine Br.mk (fun h => ?_) (fun h => ?_)) | (refine BrN.mk (fun h => ?_) ?_) | (refine AltVC.mk ?_ ?_)
                refine LoopVC.mk (X := List Nat × Nat) (fun x => [(19, .ptr 6 1 0 0), (149, iv .i64 x.2)]) (fun x => cmL g t rt x.1) (fun x => (tl w).length - x.2) (fun x => x.2 ≤ (tl w).length ∧ CmI lf rt n x.1 k ∧ k < x.1.length ∧ x.1.getD k 0 = i ∧ (∀ j, j < q → ∀ y, y ∈ tl ((lf i).getD j default) → y.toNat ∈ x.1) ∧ ∀ j, j < x.2 → ((tl w).getD j 0).toNat ∈ x.1) (C1, 0) ⟨Nat.zero_le _, hC1, hk1, hi1, hd1, fun j hj => absurd hj (Nat.not_lt_zero _)⟩ ?_ ?_
                · simp only [cmL]
                  (simp (disch := (first | omega | (simp only [vlen]; first | done | omega))) only [Fits_u, Fits_m, Fits_nil, List.length_append, vcz, hn, hrt, ↓va0, ↓va1, ↓va2, ↓va3, vb0, vb1, vb2, vb3, vb4, vb5, vb6, vb7, vb8, vb9, vb10, vz0, vz1, vy0, vx0, ↓reduceIte, Nat.reduceBEq, Nat.reduceEqDiff, Nat.reduceLT, Nat.reduceLeDiff, Nat.reduceAdd, Nat.reduceMul, Nat.reduceSub, reduceCtorEq, Int.reduceToNat] <;> (repeat' first | rfl | apply And.intro))
                  all_goals first | rfl | skip
                · rintro ⟨C2, m⟩ ⟨hm2, hC2, hk2, hi2, hd2, he2⟩
                  simp only at hm2 hC2 hk2 hi2 hd2 he2 ⊢
                  try simp only [cmL]
                  have hCl2 := hC2.len
                  by_cases hml : m < (tl w).length
                  · have hxm := getD_mem' (l := tl w) (i := m) hml
                    have hxr := hwr _ hxm
                    obtain ⟨x, hxe⟩ : ∃ x : Nat, (tl w).getD m default = x := ⟨((tl w).getD m default).toNat, by omega⟩
                    have hxe0 : (tl w).getD m 0 = x := hxe
                    rw [hxe] at hxm hxr
                    have hTk : (tbl ixD C2).take C2.length = tbl ixD C2 := List.take_of_length_le (by rw [tbl_len]; omega)
                    have hH := hasC_spec C2 (by omega) x
                    by_cases hxc : x ∈ C2
                    · rw [decide_eq_true hxc] at hH
                      repeat' first | (refine Br.dec (fun h => ?_) (fun h => ?_) <;> try (exfalso; omega)) | (refine Br.eqi (fun h => ?_) (fun h => ?_) <;> try (exfalso; omega)) | (simp (disch := (first | omega | (simp only [vlen]; first | done | omega))) only [vcz, hn, hrt, hxe0, ↓va0, ↓va1, ↓va2, ↓va3, vb0, vb1, vb2, vb3, vb4, vb5, vb6, vb7, vb8, vb9, vb10, vz0, vz1, vy0, vx0, ↓reduceIte, Nat.reduceBEq, Nat.reduceEqDiff, Nat.reduceLT, Nat.reduceLeDiff, Nat.reduceAdd, Nat.reduceMul, Nat.reduceSub, reduceCtorEq, Int.reduceToNat]) | (refine Br.mk (fun h => ?_) (fun h => ?_)) | (refine BrN.mk (fun h => ?_) ?_) | (refine AltVC.mk ?_ ?_)
                      refine CallVC.eqo hH (by simp (disch := (first | omega | (simp only [vlen]; first | done | omega))) only [↓va0, ↓va1, ↓va2, ↓va3, vb0, vb1, vb2, vb3, vb4, vb5, vb6, vb7, vb8, vb9, vb10, vz0, vz1, vy0, vx0, ↓reduceIte, Nat.reduceBEq, Nat.reduceEqDiff, Nat.reduceLT, Nat.reduceLeDiff, Nat.reduceAdd, Nat.reduceMul, Nat.reduceSub, reduceCtorEq, Int.reduceToNat]) ?_
                      repeat' first | (refine Br.dec (fun h => ?_) (fun h => ?_) <;> try (exfalso; omega)) | (refine Br.eqi (fun h => ?_) (fun h => ?_) <;> try (exfalso; omega)) | (simp (disch := (first | omega | (simp only [vlen]; first | done | omega))) only [vcz, hn, hrt, hxe0, ↓va0, ↓va1, ↓va2, ↓va3, vb0, vb1, vb2, vb3, vb4, vb5, vb6, vb7, vb8, vb9, vb10, vz0, vz1, vy0, vx0, ↓reduceIte, Nat.reduceBEq, Nat.reduceEqDiff, Nat.reduceLT, Nat.reduceLeDiff, Nat.reduceAdd, Nat.reduceMul, Nat.reduceSub, reduceCtorEq, Int.reduceToNat]) | (refine Br.mk (fun h => ?_) (fun h => ?_)) | (refine BrN.mk (fun h => ?_) ?_) | (refine AltVC.mk ?_ ?_)
                      refine loopK.mk (C2, m + 1) (by simp (disch := (first | omega | (simp only [vlen]; first | done | omega))) only [↓va0, ↓va1, ↓va2, ↓va3, vb0, vb1, vb2, vb3, vb4, vb5, vb6, vb7, vb8, vb9, vb10, vz0, vz1, vy0, vx0, ↓reduceIte, Nat.reduceBEq, Nat.reduceEqDiff, Nat.reduceLT, Nat.reduceLeDiff, Nat.reduceAdd, Nat.reduceMul, Nat.reduceSub, reduceCtorEq, Int.reduceToNat]) ⟨by show m + 1 ≤ _; omega, hC2, hk2, hi2, hd2, fun j hj => ?_⟩ (by show (tl w).length - (m + 1) < (tl w).length - m; omega) ?_
                      · by_cases e : j = m
                        · subst e; rw [hxe0, Int.toNat_natCast]; exact hxc
                        · exact he2 j (by have : j < m + 1 := hj; omega)
                      · (simp (disch := (first | omega | (simp only [vlen]; first | done | omega))) only [Fits_u, Fits_m, Fits_nil, List.length_append, vcz, hn, hrt, ↓va0, ↓va1, ↓va2, ↓va3, vb0, vb1, vb2, vb3, vb4, vb5, vb6, vb7, vb8, vb9, vb10, vz0, vz1, vy0, vx0, ↓reduceIte, Nat.reduceBEq, Nat.reduceEqDiff, Nat.reduceLT, Nat.reduceLeDiff, Nat.reduceAdd, Nat.reduceMul, Nat.reduceSub, reduceCtorEq, Int.reduceToNat] <;> (repeat' first | rfl | apply And.intro))
                        all_goals first | rfl | skip
                    · rw [decide_eq_false hxc] at hH
                      have hC3 : CmI lf rt n (C2 ++ [x]) k := by
                        have := hC2.add hk2 (w := w) (x := (x : Int)) (by rw [hi2]; exact hm) hxm (by rwa [Int.toNat_natCast]) (by rw [Int.toNat_natCast]; omega)
                        rwa [Int.toNat_natCast] at this
                      repeat' first | (refine Br.dec (fun h => ?_) (fun h => ?_) <;> try (exfalso; omega)) | (refine Br.eqi (fun h => ?_) (fun h => ?_) <;> try (exfalso; omega)) | (simp (disch := (first | omega | (simp only [vlen]; first | done | omega))) only [vcz, hn, hrt, hxe0, ↓va0, ↓va1, ↓va2, ↓va3, vb0, vb1, vb2, vb3, vb4, vb5, vb6, vb7, vb8, vb9, vb10, vz0, vz1, vy0, vx0, ↓reduceIte, Nat.reduceBEq, Nat.reduceEqDiff, Nat.reduceLT, Nat.reduceLeDiff, Nat.reduceAdd, Nat.reduceMul, Nat.reduceSub, reduceCtorEq, Int.reduceToNat]) | (refine Br.mk (fun h => ?_) (fun h => ?_)) | (refine BrN.mk (fun h => ?_) ?_) | (refine AltVC.mk ?_ ?_)
                      refine CallVC.eqo hH (by simp (disch := (first | omega | (simp only [vlen]; first | done | omega))) only [↓va0, ↓va1, ↓va2, ↓va3, vb0, vb1, vb2, vb3, vb4, vb5, vb6, vb7, vb8, vb9, vb10, vz0, vz1, vy0, vx0, ↓reduceIte, Nat.reduceBEq, Nat.reduceEqDiff, Nat.reduceLT, Nat.reduceLeDiff, Nat.reduceAdd, Nat.reduceMul, Nat.reduceSub, reduceCtorEq, Int.reduceToNat]) ?_
                      repeat' first | (refine Br.dec (fun h => ?_) (fun h => ?_) <;> try (exfalso; omega)) | (refine Br.eqi (fun h => ?_) (fun h => ?_) <;> try (exfalso; omega)) | (simp (disch := (first | omega | (simp only [vlen]; first | done | omega))) only [vcz, hn, hrt, hxe0, hTk, ix_app, ↓va0, ↓va1, ↓va2, ↓va3, vb0, vb1, vb2, vb3, vb4, vb5, vb6, vb7, vb8, vb9, vb10, vz0, vz1, vy0, vx0, ↓reduceIte, Nat.reduceBEq, Nat.reduceEqDiff, Nat.reduceLT, Nat.reduceLeDiff, Nat.reduceAdd, Nat.reduceMul, Nat.reduceSub, reduceCtorEq, Int.reduceToNat]) | (refine Br.mk (fun h => ?_) (fun h => ?_)) | (refine BrN.mk (fun h => ?_) ?_) | (refine AltVC.mk ?_ ?_)
                      refine loopK.mk (C2 ++ [x], m + 1) (by simp (disch := (first | omega | (simp only [vlen]; first | done | omega))) only [↓va0, ↓va1, ↓va2, ↓va3, vb0, vb1, vb2, vb3, vb4, vb5, vb6, vb7, vb8, vb9, vb10, vz0, vz1, vy0, vx0, ↓reduceIte, Nat.reduceBEq, Nat.reduceEqDiff, Nat.reduceLT, Nat.reduceLeDiff, Nat.reduceAdd, Nat.reduceMul, Nat.reduceSub, reduceCtorEq, Int.reduceToNat]) ⟨by show m + 1 ≤ _; omega, hC3, by show k < (C2 ++ [x]).length; rw [List.length_append]; omega, by show (C2 ++ [x]).getD k 0 = i; rw [getD_app0 hk2, hi2], fun j hj y hy => List.mem_append_left _ (hd2 j hj y hy), fun j hj => ?_⟩ (by show (tl w).length - (m + 1) < (tl w).length - m; omega) ?_
                      · by_cases e : j = m
                        · subst e; rw [hxe0, Int.toNat_natCast]; simp
                        · exact List.mem_append_left _ (he2 j (by have : j < m + 1 := hj; omega))
                      · (simp (disch := (first | omega | (simp only [vlen]; first | done | omega))) only [Fits_u, Fits_m, Fits_nil, List.length_append, vcz, hn, hrt, hTk, ix_app, ↓va0, ↓va1, ↓va2, ↓va3, vb0, vb1, vb2, vb3, vb4, vb5, vb6, vb7, vb8, vb9, vb10, vz0, vz1, vy0, vx0, ↓reduceIte, Nat.reduceBEq, Nat.reduceEqDiff, Nat.reduceLT, Nat.reduceLeDiff, Nat.reduceAdd, Nat.reduceMul, Nat.reduceSub, reduceCtorEq, Int.reduceToNat] <;> (repeat' first | rfl | apply And.intro))
                        all_goals first | rfl | skip
                  · repeat' first | (refine Br.dec (fun h => ?_) (fun h => ?_) <;> try (exfalso; omega)) | (refine Br.eqi (fun h => ?_) (fun h => ?_) <;> try (exfalso; omega)) | (simp (disch := (first | omega | (simp only [vlen]; first | done | omega))) only [vcz, hn, hrt, ↓va0, ↓va1, ↓va2, ↓va3, vb0, vb1, vb2, vb3, vb4, vb5, vb6, vb7, vb8, vb9, vb10, vz0, vz1, vy0, vx0, ↓reduceIte, Nat.reduceBEq, Nat.reduceEqDiff, Nat.reduceLT, Nat.reduceLeDiff, Nat.reduceAdd, Nat.reduceMul, Nat.reduceSub, reduceCtorEq, Int.reduceToNat]) | (refine Br.mk (fun h => ?_) (fun h => ?_)) | (refine BrN.mk (fun h => ?_) ?_) | (refine AltVC.mk ?_ ?_)
                    refine loopK.mk (C2, q + 1) (by simp (disch := (first | omega | (simp only [vlen]; first | done | omega))) only [↓va0, ↓va1, ↓va2, ↓va3, vb0, vb1, vb2, vb3, vb4, vb5, vb6, vb7, vb8, vb9, vb10, vz0, vz1, vy0, vx0, ↓reduceIte, Nat.reduceBEq, Nat.reduceEqDiff, Nat.reduceLT, Nat.reduceLeDiff, Nat.reduceAdd, Nat.reduceMul, Nat.reduceSub, reduceCtorEq, Int.reduceToNat]) ⟨by show q + 1 ≤ _; omega, hC2, hk2, hi2, fun j hj y hy => ?_⟩ (by show (lf i).length - (q + 1) < (lf i).length - q; omega) ?_
                    · by_cases e : j = q
                      · subst e
                        rw [hwe] at hy
                        obtain ⟨m', hm', e2⟩ := mem_getD hy
                        have := he2 m' (by omega)
                        rw [show (tl w).getD m' 0 = y from e2] at this
                        exact this
                      · exact hd2 j (by have : j < q + 1 := hj; omega) y hy
                    · (simp (disch := (first | omega | (simp only [vlen]; first | done | omega))) only [Fits_u, Fits_m, Fits_nil, List.length_append, vcz, hn, hrt, ↓va0, ↓va1, ↓va2, ↓va3, vb0, vb1, vb2, vb3, vb4, vb5, vb6, vb7, vb8, vb9, vb10, vz0, vz1, vy0, vx0, ↓reduceIte, Nat.reduceBEq, Nat.reduceEqDiff, Nat.reduceLT, Nat.reduceLeDiff, Nat.reduceAdd, Nat.reduceMul, Nat.reduceSub, reduceCtorEq, Int.reduceToNat] <;> (repeat' first | rfl | apply And.intro))
                      all_goals first | rfl | skip
              · repeat' first | (refine Br.dec (fun h => ?_) (fun h => ?_) <;> try (exfalso; omega)) | (refine Br.eqi (fun h => ?_) (fun h => ?_) <;> try (exfalso; omega)) | (simp (disch := (first | omega | (simp only [vlen]; first | done | omega))) only [vcz, hn, hrt, ↓va0, ↓va1, ↓va2, ↓va3, vb0, vb1, vb2, vb3, vb4, vb5, vb6, vb7, vb8, vb9, vb10, vz0, vz1, vy0, vx0, ↓reduceIte, Nat.reduceBEq, Nat.reduceEqDiff, Nat.reduceLT, Nat.reduceLeDiff, Nat.reduceAdd, Nat.reduceMul, Nat.reduceSub, reduceCtorEq, Int.reduceToNat]) | (refine Br.mk (fun h => ?_) (fun h => ?_)) | (refine BrN.mk (fun h => ?_) ?_) | (refine AltVC.mk ?_ ?_)
                refine loopK.mk (C1, k + 1) (by simp (disch := (first | omega | (simp only [vlen]; first | done | omega))) only [↓va0, ↓va1, ↓va2, ↓va3, vb0, vb1, vb2, vb3, vb4, vb5, vb6, vb7, vb8, vb9, vb10, vz0, vz1, vy0, vx0, ↓reduceIte, Nat.reduceBEq, Nat.reduceEqDiff, Nat.reduceLT, Nat.reduceLeDiff, Nat.reduceAdd, Nat.reduceMul, Nat.reduceSub, reduceCtorEq, Int.reduceToNat]) ⟨hC1.next fun w hw x hx => ?_, by show k + 1 ≤ C1.length; omega⟩ (by show n - (k + 1) < n - k; have := hC1.len; omega) ?_
                · rw [hi1] at hw
                  obtain ⟨j, hj, e⟩ := mem_getD hw
                  exact hd1 j (by omega) x (by rw [show (lf i).getD j default = w from e]; exact hx)
                · (simp (disch := (first | omega | (simp only [vlen]; first | done | omega))) only [Fits_u, Fits_m, Fits_nil, List.length_append, vcz, hn, hrt, ↓va0, ↓va1, ↓va2, ↓va3, vb0, vb1, vb2, vb3, vb4, vb5, vb6, vb7, vb8, vb9, vb10, vz0, vz1, vy0, vx0, ↓reduceIte, Nat.reduceBEq, Nat.reduceEqDiff, Nat.reduceLT, Nat.reduceLeDiff, Nat.reduceAdd, Nat.reduceMul, Nat.reduceSub, reduceCtorEq, Int.reduceToNat] <;> (repeat' first | rfl | apply And.intro))
                  all_goals first | rfl | skip
          · have ek : k = C.length := by omega
            subst ek
            have hCF := hC.fin
            have hCn := hCF.1
            have hN := fun x => num_spec C hCn (by omega) x
            repeat' first | (refine Br.dec (fun h => ?_) (fun h => ?_) <;> try (exfalso; omega)) | (refine Br.eqi (fun h => ?_) (fun h => ?_) <;> try (exfalso; omega)) | (simp (disch := (first | omega | (simp only [vlen]; first | done | omega))) only [vcz, hn, hrt, ↓va0, ↓va1, ↓va2, ↓va3, vb0, vb1, vb2, vb3, vb4, vb5, vb6, vb7, vb8, vb9, vb10, vz0, vz1, vy0, vx0, ↓reduceIte, Nat.reduceBEq, Nat.reduceEqDiff, Nat.reduceLT, Nat.reduceLeDiff, Nat.reduceAdd, Nat.reduceMul, Nat.reduceSub, reduceCtorEq, Int.reduceToNat]) | (refine Br.mk (fun h => ?_) (fun h => ?_)) | (refine BrN.mk (fun h => ?_) ?_) | (refine AltVC.mk ?_ ?_)
            refine CallVC.lendE [6, 5] [iv .i64 rt, .ptr 0 1 0 0] (cmO C) (hN rt) (by simp) (by rfl) (by (simp (disch := (first | omega | (simp only [vlen]; first | done | omega))) only [vle0, ↓va0, ↓va1, ↓va2, ↓va3, vb0, vb1, vb2, vb3, vb4, vb5, vb6, vb7, vb8, vb9, vb10, vz0, vz1, vy0, vx0, ↓reduceIte, Nat.reduceBEq, Nat.reduceEqDiff, Nat.reduceLT, Nat.reduceLeDiff, Nat.reduceAdd, Nat.reduceMul, Nat.reduceSub, reduceCtorEq, Int.reduceToNat] <;> (repeat' first | rfl | apply And.intro))) ?_
            rintro _ _ ⟨rfl, rfl⟩
            repeat' first | (refine Br.dec (fun h => ?_) (fun h => ?_) <;> try (exfalso; omega)) | (refine Br.eqi (fun h => ?_) (fun h => ?_) <;> try (exfalso; omega)) | (simp (disch := (first | omega | (simp only [vlen]; first | done | omega))) only [vcz, hn, hrt, ↓va0, ↓va1, ↓va2, ↓va3, vb0, vb1, vb2, vb3, vb4, vb5, vb6, vb7, vb8, vb9, vb10, vz0, vz1, vy0, vx0, ↓reduceIte, Nat.reduceBEq, Nat.reduceEqDiff, Nat.reduceLT, Nat.reduceLeDiff, Nat.reduceAdd, Nat.reduceMul, Nat.reduceSub, reduceCtorEq, Int.reduceToNat]) | (refine Br.mk (fun h => ?_) (fun h => ?_)) | (refine BrN.mk (fun h => ?_) ?_) | (refine AltVC.mk ?_ ?_)
            refine LoopVC.nlo 7 0 0 4 ?_
            repeat' first | (refine Br.dec (fun h => ?_) (fun h => ?_) <;> try (exfalso; omega)) | (refine Br.eqi (fun h => ?_) (fun h => ?_) <;> try (exfalso; omega)) | (simp (disch := (first | omega | (simp only [vlen]; first | done | omega))) only [vcz, hn, hrt, ↓va0, ↓va1, ↓va2, ↓va3, vb0, vb1, vb2, vb3, vb4, vb5, vb6, vb7, vb8, vb9, vb10, vz0, vz1, vy0, vx0, ↓reduceIte, Nat.reduceBEq, Nat.reduceEqDiff, Nat.reduceLT, Nat.reduceLeDiff, Nat.reduceAdd, Nat.reduceMul, Nat.reduceSub, reduceCtorEq, Int.reduceToNat]) | (refine Br.mk (fun h => ?_) (fun h => ?_)) | (refine BrN.mk (fun h => ?_) ?_) | (refine AltVC.mk ?_ ?_)
            refine LoopVC.mk (X := Nat) (fun i => [(19, .ptr 6 1 0 0), (25, .clo 48 [.ptr 6 1 0 0]), (26, .ptr 7 2 0 0), (172, iv .i64 i)]) (fun i => cuL g t lf rt C i) (fun i => n - i) (fun i => i ≤ n) 0 (Nat.zero_le _) ?_ ?_
            · simp only [cuL]
              (simp (disch := (first | omega | (simp only [vlen]; first | done | omega))) only [Fits_u, Fits_m, Fits_nil, List.length_append, vcz, hn, hrt, ↓va0, ↓va1, ↓va2, ↓va3, vb0, vb1, vb2, vb3, vb4, vb5, vb6, vb7, vb8, vb9, vb10, vz0, vz1, vy0, vx0, ↓reduceIte, Nat.reduceBEq, Nat.reduceEqDiff, Nat.reduceLT, Nat.reduceLeDiff, Nat.reduceAdd, Nat.reduceMul, Nat.reduceSub, reduceCtorEq, Int.reduceToNat] <;> (repeat' first | rfl | apply And.intro))
              all_goals first | rfl | skip
            · intro i hi
              simp only [cuL]
              have hcl := @cutL_len t lf C i
              by_cases hin : i < n
              · have hl1 := hLo.n i (by omega)
                have hl2 := hLo.w i (by omega)
                have hl4 := hLo.rg i (by omega)
                have hH := hasC_spec C (by omega) i
                by_cases hic : i ∈ C
                · have hs := @cutL_succ t lf C i
                  rw [if_pos hic] at hs
                  rw [decide_eq_true hic] at hH
                  repeat' first | (refine Br.dec (fun h => ?_) (fun h => ?_) <;> try (exfalso; omega)) | (refine Br.eqi (fun h => ?_) (fun h => ?_) <;> try (exfalso; omega)) | (simp (disch := (first | omega | (simp only [vlen]; first | done | omega))) only [vcz, hn, hrt, ↓va0, ↓va1, ↓va2, ↓va3, vb0, vb1, vb2, vb3, vb4, vb5, vb6, vb7, vb8, vb9, vb10, vz0, vz1, vy0, vx0, ↓reduceIte, Nat.reduceBEq, Nat.reduceEqDiff, Nat.reduceLT, Nat.reduceLeDiff, Nat.reduceAdd, Nat.reduceMul, Nat.reduceSub, reduceCtorEq, Int.reduceToNat]) | (refine Br.mk (fun h => ?_) (fun h => ?_)) | (refine BrN.mk (fun h => ?_) ?_) | (refine AltVC.mk ?_ ?_)
                  refine CallVC.eqo hH (by simp (disch := (first | omega | (simp only [vlen]; first | done | omega))) only [↓va0, ↓va1, ↓va2, ↓va3, vb0, vb1, vb2, vb3, vb4, vb5, vb6, vb7, vb8, vb9, vb10, vz0, vz1, vy0, vx0, ↓reduceIte, Nat.reduceBEq, Nat.reduceEqDiff, Nat.reduceLT, Nat.reduceLeDiff, Nat.reduceAdd, Nat.reduceMul, Nat.reduceSub, reduceCtorEq, Int.reduceToNat]) ?_
                  repeat' first | (refine Br.dec (fun h => ?_) (fun h => ?_) <;> try (exfalso; omega)) | (refine Br.eqi (fun h => ?_) (fun h => ?_) <;> try (exfalso; omega)) | (simp (disch := (first | omega | (simp only [vlen]; first | done | omega))) only [vcz, hn, hrt, ↓va0, ↓va1, ↓va2, ↓va3, vb0, vb1, vb2, vb3, vb4, vb5, vb6, vb7, vb8, vb9, vb10, vz0, vz1, vy0, vx0, ↓reduceIte, Nat.reduceBEq, Nat.reduceEqDiff, Nat.reduceLT, Nat.reduceLeDiff, Nat.reduceAdd, Nat.reduceMul, Nat.reduceSub, reduceCtorEq, Int.reduceToNat]) | (refine Br.mk (fun h => ?_) (fun h => ?_)) | (refine BrN.mk (fun h => ?_) ?_) | (refine AltVC.mk ?_ ?_)
                  refine LoopVC.nlo 9 0 3 1 ?_
                  repeat' first | (refine Br.dec (fun h => ?_) (fun h => ?_) <;> try (exfalso; omega)) | (refine Br.eqi (fun h => ?_) (fun h => ?_) <;> try (exfalso; omega)) | (simp (disch := (first | omega | (simp only [vlen]; first | done | omega))) only [vcz, hn, hrt, ↓va0, ↓va1, ↓va2, ↓va3, vb0, vb1, vb2, vb3, vb4, vb5, vb6, vb7, vb8, vb9, vb10, vz0, vz1, vy0, vx0, ↓reduceIte, Nat.reduceBEq, Nat.reduceEqDiff, Nat.reduceLT, Nat.reduceLeDiff, Nat.reduceAdd, Nat.reduceMul, Nat.reduceSub, reduceCtorEq, Int.reduceToNat]) | (refine Br.mk (fun h => ?_) (fun h => ?_)) | (refine BrN.mk (fun h => ?_) ?_) | (refine AltVC.mk ?_ ?_)
                  refine LoopVC.mk (X := Nat) (fun q => [(19, .ptr 6 1 0 0), (25, .clo 48 [.ptr 6 1 0 0]), (26, .ptr 7 2 0 0), (29, .ptr 9 4 0 0), (193, iv .i64 q)]) (fun q => cuL g t lf rt C i ++ [(9, ⟨4, [[iv .i64 (t.spots.getD i default).sign, iv .i64 (t.spots.getD i default).fr, iv .i64 (t.spots.getD i default).to, .own false 1 (rows i64s (((lf i).take q).map (renW C)))]], true, true, .fix⟩)]) (fun q => (lf i).length - q) (fun q => q ≤ (lf i).length) 0 (Nat.zero_le _) ?_ ?_
                  · simp only [cuL, List.cons_append, List.nil_append]
                    (simp (disch := (first | omega | (simp only [vlen]; first | done | omega))) only [Fits_u, Fits_m, Fits_nil, List.length_append, vcz, hn, hrt, ↓va0, ↓va1, ↓va2, ↓va3, vb0, vb1, vb2, vb3, vb4, vb5, vb6, vb7, vb8, vb9, vb10, vz0, vz1, vy0, vx0, ↓reduceIte, Nat.reduceBEq, Nat.reduceEqDiff, Nat.reduceLT, Nat.reduceLeDiff, Nat.reduceAdd, Nat.reduceMul, Nat.reduceSub, reduceCtorEq, Int.reduceToNat] <;> (repeat' first | rfl | apply And.intro))
                    all_goals first | rfl | skip
                  · intro q hq
                    simp only [cuL, List.cons_append, List.nil_append]
                    by_cases hql : q < (lf i).length
                    · have hm := getD_mem' (l := lf i) (i := q) hql
                      have hwl := hl2 _ hm
                      have hwr := hl4 _ hm
                      obtain ⟨w, hwe⟩ : ∃ w, (lf i).getD q default = w := ⟨_, rfl⟩
                      rw [hwe] at hwl hwr
                      have hrl := @renW_len C w
                      repeat' first | (refine Br.dec (fun h => ?_) (fun h => ?_) <;> try (exfalso; omega)) | (refine Br.eqi (fun h => ?_) (fun h => ?_) <;> try (exfalso; omega)) | (simp (disch := (first | omega | (simp only [vlen]; first | done | omega))) only [vcz, hn, hrt, hwe, ↓va0, ↓va1, ↓va2, ↓va3, vb0, vb1, vb2, vb3, vb4, vb5, vb6, vb7, vb8, vb9, vb10, vz0, vz1, vy0, vx0, ↓reduceIte, Nat.reduceBEq, Nat.reduceEqDiff, Nat.reduceLT, Nat.reduceLeDiff, Nat.reduceAdd, Nat.reduceMul, Nat.reduceSub, reduceCtorEq, Int.reduceToNat]) | (refine Br.mk (fun h => ?_) (fun h => ?_)) | (refine BrN.mk (fun h => ?_) ?_) | (refine AltVC.mk ?_ ?_)
                      refine LoopVC.mk (X := Nat) (fun k => [(19, .ptr 6 1 0 0), (25, .clo 48 [.ptr 6 1 0 0]), (26, .ptr 7 2 0 0), (29, .ptr 9 4 0 0), (32, .ref 10 1 0 k), (199, iv .i64 k)]) (fun k => cuL g t lf rt C i ++ [(9, ⟨4, [[iv .i64 (t.spots.getD i default).sign, iv .i64 (t.spots.getD i default).fr, iv .i64 (t.spots.getD i default).to, .own false 1 (rows i64s (((lf i).take q).map (renW C)))]], true, true, .fix⟩), (10, ⟨1, i64s ((renW C w).take k), true, false, .arr⟩)]) (fun k => w.length - k) (fun k => k ≤ w.length) 0 (Nat.zero_le _) ?_ ?_
                      · simp only [cuL, List.cons_append, List.nil_append]
                        (simp (disch := (first | omega | (simp only [vlen]; first | done | omega))) only [Fits_u, Fits_m, Fits_nil, List.length_append, vcz, hn, hrt, ↓va0, ↓va1, ↓va2, ↓va3, vb0, vb1, vb2, vb3, vb4, vb5, vb6, vb7, vb8, vb9, vb10, vz0, vz1, vy0, vx0, ↓reduceIte, Nat.reduceBEq, Nat.reduceEqDiff, Nat.reduceLT, Nat.reduceLeDiff, Nat.reduceAdd, Nat.reduceMul, Nat.reduceSub, reduceCtorEq, Int.reduceToNat] <;> (repeat' first | rfl | apply And.intro))
                        all_goals first | rfl | skip
                      · intro k hk
                        simp only [cuL, List.cons_append, List.nil_append]
                        have hkt : ((renW C w).take k).length = k := by rw [List.length_take]; omega
                        by_cases hkl : k < w.length
                        · have hst := take_succ_getD (l := renW C w) (i := k) (by omega) 0
                          have hg := @renW_get C w k hkl
                          by_cases hk0 : k = 0
                          · subst hk0
                            rw [if_pos rfl] at hg
                            rw [hg] at hst
                            repeat' first | (refine Br.dec (fun h => ?_) (fun h => ?_) <;> try (exfalso; omega)) | (refine Br.eqi (fun h => ?_) (fun h => ?_) <;> try (exfalso; omega)) | (simp (disch := (first | omega | (simp only [vlen]; first | done | omega))) only [vcz, hn, hrt, hkt, ↓va0, ↓va1, ↓va2, ↓va3, vb0, vb1, vb2, vb3, vb4, vb5, vb6, vb7, vb8, vb9, vb10, vz0, vz1, vy0, vx0, ↓reduceIte, Nat.reduceBEq, Nat.reduceEqDiff, Nat.reduceLT, Nat.reduceLeDiff, Nat.reduceAdd, Nat.reduceMul, Nat.reduceSub, reduceCtorEq, Int.reduceToNat]) | (refine Br.mk (fun h => ?_) (fun h => ?_)) | (refine BrN.mk (fun h => ?_) ?_) | (refine AltVC.mk ?_ ?_)
                            refine loopK.mk (0 + 1) (by simp (disch := (first | omega | (simp only [vlen]; first | done | omega))) only [↓va0, ↓va1, ↓va2, ↓va3, vb0, vb1, vb2, vb3, vb4, vb5, vb6, vb7, vb8, vb9, vb10, vz0, vz1, vy0, vx0, ↓reduceIte, Nat.reduceBEq, Nat.reduceEqDiff, Nat.reduceLT, Nat.reduceLeDiff, Nat.reduceAdd, Nat.reduceMul, Nat.reduceSub, reduceCtorEq, Int.reduceToNat]) (by omega) (by omega) ?_
                            rw [hst]
                            (simp (disch := (first | omega | (simp only [vlen]; first | done | omega))) only [Fits_u, Fits_m, Fits_nil, List.length_append, vcz, hn, hrt, hkt, ↓va0, ↓va1, ↓va2, ↓va3, vb0, vb1, vb2, vb3, vb4, vb5, vb6, vb7, vb8, vb9, vb10, vz0, vz1, vy0, vx0, ↓reduceIte, Nat.reduceBEq, Nat.reduceEqDiff, Nat.reduceLT, Nat.reduceLeDiff, Nat.reduceAdd, Nat.reduceMul, Nat.reduceSub, reduceCtorEq, Int.reduceToNat] <;> (repeat' first | rfl | apply And.intro))
                            all_goals first | rfl | skip
                          · rw [if_neg hk0] at hg
                            rw [hg] at hst
                            have hxw : w.getD k 0 ∈ tl w := by
                              unfold tl
                              rw [show w.getD k 0 = (w.drop 1).getD (k - 1) 0 by simp [List.getD, show 1 + (k - 1) = k by omega, show k - 1 + 1 = k by omega]]
                              exact getD_mem' (l := w.drop 1) (i := k - 1) (by rw [List.length_drop]; omega)
                            have hxr := hwr _ hxw
                            obtain ⟨x, hxe⟩ : ∃ x : Nat, w.getD k 0 = x := ⟨(w.getD k 0).toNat, by omega⟩
                            rw [hxe, Int.toNat_natCast] at hst
                            repeat' first | (refine Br.dec (fun h => ?_) (fun h => ?_) <;> try (exfalso; omega)) | (refine Br.eqi (fun h => ?_) (fun h => ?_) <;> try (exfalso; omega)) | (simp (disch := (first | omega | (simp only [vlen]; first | done | omega))) only [vcz, hn, hrt, hkt, hxe, ↓va0, ↓va1, ↓va2, ↓va3, vb0, vb1, vb2, vb3, vb4, vb5, vb6, vb7, vb8, vb9, vb10, vz0, vz1, vy0, vx0, ↓reduceIte, Nat.reduceBEq, Nat.reduceEqDiff, Nat.reduceLT, Nat.reduceLeDiff, Nat.reduceAdd, Nat.reduceMul, Nat.reduceSub, reduceCtorEq, Int.reduceToNat]) | (refine Br.mk (fun h => ?_) (fun h => ?_)) | (refine BrN.mk (fun h => ?_) ?_) | (refine AltVC.mk ?_ ?_)
                            refine CallVC.lendE [6, 5] [iv .i64 x, .ptr 0 1 0 0] (cmO C) (hN x) (by simp) (by rfl) (by (simp (disch := (first | omega | (simp only [vlen]; first | done | omega))) only [vle0, ↓va0, ↓va1, ↓va2, ↓va3, vb0, vb1, vb2, vb3, vb4, vb5, vb6, vb7, vb8, vb9, vb10, vz0, vz1, vy0, vx0, ↓reduceIte, Nat.reduceBEq, Nat.reduceEqDiff, Nat.reduceLT, Nat.reduceLeDiff, Nat.reduceAdd, Nat.reduceMul, Nat.reduceSub, reduceCtorEq, Int.reduceToNat] <;> (repeat' first | rfl | apply And.intro))) ?_
                            rintro _ _ ⟨rfl, rfl⟩
                            repeat' first | (refine Br.dec (fun h => ?_) (fun h => ?_) <;> try (exfalso; omega)) | (refine Br.eqi (fun h => ?_) (fun h => ?_) <;> try (exfalso; omega)) | (simp (disch := (first | omega | (simp only [vlen]; first | done | omega))) only [vcz, hn, hrt, hkt, hxe, ↓va0, ↓va1, ↓va2, ↓va3, vb0, vb1, vb2, vb3, vb4, vb5, vb6, vb7, vb8, vb9, vb10, vz0, vz1, vy0, vx0, ↓reduceIte, Nat.reduceBEq, Nat.reduceEqDiff, Nat.reduceLT, Nat.reduceLeDiff, Nat.reduceAdd, Nat.reduceMul, Nat.reduceSub, reduceCtorEq, Int.reduceToNat]) | (refine Br.mk (fun h => ?_) (fun h => ?_)) | (refine BrN.mk (fun h => ?_) ?_) | (refine AltVC.mk ?_ ?_)
                            refine loopK.mk (k + 1) (by simp (disch := (first | omega | (simp only [vlen]; first | done | omega))) only [↓va0, ↓va1, ↓va2, ↓va3, vb0, vb1, vb2, vb3, vb4, vb5, vb6, vb7, vb8, vb9, vb10, vz0, vz1, vy0, vx0, ↓reduceIte, Nat.reduceBEq, Nat.reduceEqDiff, Nat.reduceLT, Nat.reduceLeDiff, Nat.reduceAdd, Nat.reduceMul, Nat.reduceSub, reduceCtorEq, Int.reduceToNat]) (by omega) (by omega) ?_
                            rw [hst]
                            (simp (disch := (first | omega | (simp only [vlen]; first | done | omega))) only [Fits_u, Fits_m, Fits_nil, List.length_append, vcz, hn, hrt, hkt, ↓va0, ↓va1, ↓va2, ↓va3, vb0, vb1, vb2, vb3, vb4, vb5, vb6, vb7, vb8, vb9, vb10, vz0, vz1, vy0, vx0, ↓reduceIte, Nat.reduceBEq, Nat.reduceEqDiff, Nat.reduceLT, Nat.reduceLeDiff, Nat.reduceAdd, Nat.reduceMul, Nat.reduceSub, reduceCtorEq, Int.reduceToNat] <;> (repeat' first | rfl | apply And.intro))
                            all_goals first | rfl | skip
                        · have hkk : (renW C w).take k = renW C w := List.take_of_length_le (by omega)
                          have hkl2 : k = w.length := by omega
                          subst hkl2
                          rw [hkk]
                          have hrm : rows i64s (((lf i).take (q + 1)).map (renW C)) = rows i64s (((lf i).take q).map (renW C)) ++ [[.sl 1 (i64s (renW C w))]] := by
                            rw [take_succ_getD hql default, hwe, List.map_append, List.map_cons, List.map_nil, rows_app]
                          repeat' first | (refine Br.dec (fun h => ?_) (fun h => ?_) <;> try (exfalso; omega)) | (refine Br.eqi (fun h => ?_) (fun h => ?_) <;> try (exfalso; omega)) | (simp (disch := (first | omega | (simp only [vlen]; first | done | omega))) only [vcz, hn, hrt, hrl, ↓va0, ↓va1, ↓va2, ↓va3, vb0, vb1, vb2, vb3, vb4, vb5, vb6, vb7, vb8, vb9, vb10, vz0, vz1, vy0, vx0, ↓reduceIte, Nat.reduceBEq, Nat.reduceEqDiff, Nat.reduceLT, Nat.reduceLeDiff, Nat.reduceAdd, Nat.reduceMul, Nat.reduceSub, reduceCtorEq, Int.reduceToNat]) | (refine Br.mk (fun h => ?_) (fun h => ?_)) | (refine BrN.mk (fun h => ?_) ?_) | (refine AltVC.mk ?_ ?_)
                          refine loopK.frz 10 ?_
                          repeat' first | (refine Br.dec (fun h => ?_) (fun h => ?_) <;> try (exfalso; omega)) | (refine Br.eqi (fun h => ?_) (fun h => ?_) <;> try (exfalso; omega)) | (simp (disch := (first | omega | (simp only [vlen]; first | done | omega))) only [vcz, hn, hrt, hrl, ↓va0, ↓va1, ↓va2, ↓va3, vb0, vb1, vb2, vb3, vb4, vb5, vb6, vb7, vb8, vb9, vb10, vz0, vz1, vy0, vx0, ↓reduceIte, Nat.reduceBEq, Nat.reduceEqDiff, Nat.reduceLT, Nat.reduceLeDiff, Nat.reduceAdd, Nat.reduceMul, Nat.reduceSub, reduceCtorEq, Int.reduceToNat]) | (refine Br.mk (fun h => ?_) (fun h => ?_)) | (refine BrN.mk (fun h => ?_) ?_) | (refine AltVC.mk ?_ ?_)
                          refine loopK.flt 11 ?_
                          repeat' first | (refine Br.dec (fun h => ?_) (fun h => ?_) <;> try (exfalso; omega)) | (refine Br.eqi (fun h => ?_) (fun h => ?_) <;> try (exfalso; omega)) | (simp (disch := (first | omega | (simp only [vlen]; first | done | omega))) only [vcz, hn, hrt, hrl, ↓va0, ↓va1, ↓va2, ↓va3, vb0, vb1, vb2, vb3, vb4, vb5, vb6, vb7, vb8, vb9, vb10, vz0, vz1, vy0, vx0, ↓reduceIte, Nat.reduceBEq, Nat.reduceEqDiff, Nat.reduceLT, Nat.reduceLeDiff, Nat.reduceAdd, Nat.reduceMul, Nat.reduceSub, reduceCtorEq, Int.reduceToNat]) | (refine Br.mk (fun h => ?_) (fun h => ?_)) | (refine BrN.mk (fun h => ?_) ?_) | (refine AltVC.mk ?_ ?_)
                          refine loopK.fold 11 9 0 3 true ?_
                          repeat' first | (refine Br.dec (fun h => ?_) (fun h => ?_) <;> try (exfalso; omega)) | (refine Br.eqi (fun h => ?_) (fun h => ?_) <;> try (exfalso; omega)) | (simp (disch := (first | omega | (simp only [vlen]; first | done | omega))) only [vcz, hn, hrt, hrl, ↓va0, ↓va1, ↓va2, ↓va3, vb0, vb1, vb2, vb3, vb4, vb5, vb6, vb7, vb8, vb9, vb10, vz0, vz1, vy0, vx0, ↓reduceIte, Nat.reduceBEq, Nat.reduceEqDiff, Nat.reduceLT, Nat.reduceLeDiff, Nat.reduceAdd, Nat.reduceMul, Nat.reduceSub, reduceCtorEq, Int.reduceToNat]) | (refine Br.mk (fun h => ?_) (fun h => ?_)) | (refine BrN.mk (fun h => ?_) ?_) | (refine AltVC.mk ?_ ?_)
                          refine loopK.mk (q + 1) (by simp (disch := (first | omega | (simp only [vlen]; first | done | omega))) only [↓va0, ↓va1, ↓va2, ↓va3, vb0, vb1, vb2, vb3, vb4, vb5, vb6, vb7, vb8, vb9, vb10, vz0, vz1, vy0, vx0, ↓reduceIte, Nat.reduceBEq, Nat.reduceEqDiff, Nat.reduceLT, Nat.reduceLeDiff, Nat.reduceAdd, Nat.reduceMul, Nat.reduceSub, reduceCtorEq, Int.reduceToNat]) (by omega) (by omega) ?_
                          rw [hrm]
                          (simp (disch := (first | omega | (simp only [vlen]; first | done | omega))) only [Fits_u, Fits_m, Fits_nil, List.length_append, vcz, hn, hrt, ↓va0, ↓va1, ↓va2, ↓va3, vb0, vb1, vb2, vb3, vb4, vb5, vb6, vb7, vb8, vb9, vb10, vz0, vz1, vy0, vx0, ↓reduceIte, Nat.reduceBEq, Nat.reduceEqDiff, Nat.reduceLT, Nat.reduceLeDiff, Nat.reduceAdd, Nat.reduceMul, Nat.reduceSub, reduceCtorEq, Int.reduceToNat] <;> (repeat' first | rfl | apply And.intro))
                          all_goals first | rfl | skip
                    · repeat' first | (refine Br.dec (fun h => ?_) (fun h => ?_) <;> try (exfalso; omega)) | (refine Br.eqi (fun h => ?_) (fun h => ?_) <;> try (exfalso; omega)) | (simp (disch := (first | omega | (simp only [vlen]; first | done | omega))) only [vcz, hn, hrt, ↓va0, ↓va1, ↓va2, ↓va3, vb0, vb1, vb2, vb3, vb4, vb5, vb6, vb7, vb8, vb9, vb10, vz0, vz1, vy0, vx0, ↓reduceIte, Nat.reduceBEq, Nat.reduceEqDiff, Nat.reduceLT, Nat.reduceLeDiff, Nat.reduceAdd, Nat.reduceMul, Nat.reduceSub, reduceCtorEq, Int.reduceToNat]) | (refine Br.mk (fun h => ?_) (fun h => ?_)) | (refine BrN.mk (fun h => ?_) ?_) | (refine AltVC.mk ?_ ?_)
                      refine GhoV.frz 9 ?_
                      repeat' first | (refine Br.dec (fun h => ?_) (fun h => ?_) <;> try (exfalso; omega)) | (refine Br.eqi (fun h => ?_) (fun h => ?_) <;> try (exfalso; omega)) | (simp (disch := (first | omega | (simp only [vlen]; first | done | omega))) only [vcz, hn, hrt, ↓va0, ↓va1, ↓va2, ↓va3, vb0, vb1, vb2, vb3, vb4, vb5, vb6, vb7, vb8, vb9, vb10, vz0, vz1, vy0, vx0, ↓reduceIte, Nat.reduceBEq, Nat.reduceEqDiff, Nat.reduceLT, Nat.reduceLeDiff, Nat.reduceAdd, Nat.reduceMul, Nat.reduceSub, reduceCtorEq, Int.reduceToNat]) | (refine Br.mk (fun h => ?_) (fun h => ?_)) | (refine BrN.mk (fun h => ?_) ?_) | (refine AltVC.mk ?_ ?_)
                      refine GhoV.go ?_
                      repeat' first | (refine Br.dec (fun h => ?_) (fun h => ?_) <;> try (exfalso; omega)) | (refine Br.eqi (fun h => ?_) (fun h => ?_) <;> try (exfalso; omega)) | (simp (disch := (first | omega | (simp only [vlen]; first | done | omega))) only [vcz, hn, hrt, ↓va0, ↓va1, ↓va2, ↓va3, vb0, vb1, vb2, vb3, vb4, vb5, vb6, vb7, vb8, vb9, vb10, vz0, vz1, vy0, vx0, ↓reduceIte, Nat.reduceBEq, Nat.reduceEqDiff, Nat.reduceLT, Nat.reduceLeDiff, Nat.reduceAdd, Nat.reduceMul, Nat.reduceSub, reduceCtorEq, Int.reduceToNat]) | (refine Br.mk (fun h => ?_) (fun h => ?_)) | (refine BrN.mk (fun h => ?_) ?_) | (refine AltVC.mk ?_ ?_)
                      refine loopK.fold 10 7 0 0 true ?_
                      repeat' first | (refine Br.dec (fun h => ?_) (fun h => ?_) <;> try (exfalso; omega)) | (refine Br.eqi (fun h => ?_) (fun h => ?_) <;> try (exfalso; omega)) | (simp (disch := (first | omega | (simp only [vlen]; first | done | omega))) only [vcz, hn, hrt, ↓va0, ↓va1, ↓va2, ↓va3, vb0, vb1, vb2, vb3, vb4, vb5, vb6, vb7, vb8, vb9, vb10, vz0, vz1, vy0, vx0, ↓reduceIte, Nat.reduceBEq, Nat.reduceEqDiff, Nat.reduceLT, Nat.reduceLeDiff, Nat.reduceAdd, Nat.reduceMul, Nat.reduceSub, reduceCtorEq, Int.reduceToNat]) | (refine Br.mk (fun h => ?_) (fun h => ?_)) | (refine BrN.mk (fun h => ?_) ?_) | (refine AltVC.mk ?_ ?_)
                      refine loopK.mk (i + 1) (by simp (disch := (first | omega | (simp only [vlen]; first | done | omega))) only [↓va0, ↓va1, ↓va2, ↓va3, vb0, vb1, vb2, vb3, vb4, vb5, vb6, vb7, vb8, vb9, vb10, vz0, vz1, vy0, vx0, ↓reduceIte, Nat.reduceBEq, Nat.reduceEqDiff, Nat.reduceLT, Nat.reduceLeDiff, Nat.reduceAdd, Nat.reduceMul, Nat.reduceSub, reduceCtorEq, Int.reduceToNat]) (by omega) (by omega) ?_
                      rw [show tbl spoD (cutL t lf C (i + 1)) = tbl spoD (cutL t lf C i) ++ [[iv .i64 (t.spots.getD i default).sign, iv .i64 (t.spots.getD i default).fr, iv .i64 (t.spots.getD i default).to, .sl 1 (rows i64s ((lf i).map (renW C)))]] by rw [hs, tbl_app]; rfl]
                      (simp (disch := (first | omega | (simp only [vlen]; first | done | omega))) only [Fits_u, Fits_m, Fits_nil, List.length_append, vcz, hn, hrt, ↓va0, ↓va1, ↓va2, ↓va3, vb0, vb1, vb2, vb3, vb4, vb5, vb6, vb7, vb8, vb9, vb10, vz0, vz1, vy0, vx0, ↓reduceIte, Nat.reduceBEq, Nat.reduceEqDiff, Nat.reduceLT, Nat.reduceLeDiff, Nat.reduceAdd, Nat.reduceMul, Nat.reduceSub, reduceCtorEq, Int.reduceToNat] <;> (repeat' first | rfl | apply And.intro))
                      all_goals first | rfl | skip
                · have hs := @cutL_succ t lf C i
                  rw [if_neg hic, List.append_nil] at hs
                  rw [decide_eq_false hic] at hH
                  repeat' first | (refine Br.dec (fun h => ?_) (fun h => ?_) <;> try (exfalso; omega)) | (refine Br.eqi (fun h => ?_) (fun h => ?_) <;> try (exfalso; omega)) | (simp (disch := (first | omega | (simp only [vlen]; first | done | omega))) only [vcz, hn, hrt, ↓va0, ↓va1, ↓va2, ↓va3, vb0, vb1, vb2, vb3, vb4, vb5, vb6, vb7, vb8, vb9, vb10, vz0, vz1, vy0, vx0, ↓reduceIte, Nat.reduceBEq, Nat.reduceEqDiff, Nat.reduceLT, Nat.reduceLeDiff, Nat.reduceAdd, Nat.reduceMul, Nat.reduceSub, reduceCtorEq, Int.reduceToNat]) | (refine Br.mk (fun h => ?_) (fun h => ?_)) | (refine BrN.mk (fun h => ?_) ?_) | (refine AltVC.mk ?_ ?_)
                  refine CallVC.eqo hH (by simp (disch := (first | omega | (simp only [vlen]; first | done | omega))) only [↓va0, ↓va1, ↓va2, ↓va3, vb0, vb1, vb2, vb3, vb4, vb5, vb6, vb7, vb8, vb9, vb10, vz0, vz1, vy0, vx0, ↓reduceIte, Nat.reduceBEq, Nat.reduceEqDiff, Nat.reduceLT, Nat.reduceLeDiff, Nat.reduceAdd, Nat.reduceMul, Nat.reduceSub, reduceCtorEq, Int.reduceToNat]) ?_
                  repeat' first | (refine Br.dec (fun h => ?_) (fun h => ?_) <;> try (exfalso; omega)) | (refine Br.eqi (fun h => ?_) (fun h => ?_) <;> try (exfalso; omega)) | (simp (disch := (first | omega | (simp only [vlen]; first | done | omega))) only [vcz, hn, hrt, ↓va0, ↓va1, ↓va2, ↓va3, vb0, vb1, vb2, vb3, vb4, vb5, vb6, vb7, vb8, vb9, vb10, vz0, vz1, vy0, vx0, ↓reduceIte, Nat.reduceBEq, Nat.reduceEqDiff, Nat.reduceLT, Nat.reduceLeDiff, Nat.reduceAdd, Nat.reduceMul, Nat.reduceSub, reduceCtorEq, Int.reduceToNat]) | (refine Br.mk (fun h => ?_) (fun h => ?_)) | (refine BrN.mk (fun h => ?_) ?_) | (refine AltVC.mk ?_ ?_)
                  refine loopK.mk (i + 1) (by simp (disch := (first | omega | (simp only [vlen]; first | done | omega))) only [↓va0, ↓va1, ↓va2, ↓va3, vb0, vb1, vb2, vb3, vb4, vb5, vb6, vb7, vb8, vb9, vb10, vz0, vz1, vy0, vx0, ↓reduceIte, Nat.reduceBEq, Nat.reduceEqDiff, Nat.reduceLT, Nat.reduceLeDiff, Nat.reduceAdd, Nat.reduceMul, Nat.reduceSub, reduceCtorEq, Int.reduceToNat]) (by omega) (by omega) ?_
                  rw [hs]
                  (simp (disch := (first | omega | (simp only [vlen]; first | done | omega))) only [Fits_u, Fits_m, Fits_nil, List.length_append, vcz, hn, hrt, ↓va0, ↓va1, ↓va2, ↓va3, vb0, vb1, vb2, vb3, vb4, vb5, vb6, vb7, vb8, vb9, vb10, vz0, vz1, vy0, vx0, ↓reduceIte, Nat.reduceBEq, Nat.reduceEqDiff, Nat.reduceLT, Nat.reduceLeDiff, Nat.reduceAdd, Nat.reduceMul, Nat.reduceSub, reduceCtorEq, Int.reduceToNat] <;> (repeat' first | rfl | apply And.intro))
                  all_goals first | rfl | skip
              · have e : n = i := by omega
                subst e
                repeat' first | (refine Br.dec (fun h => ?_) (fun h => ?_) <;> try (exfalso; omega)) | (refine Br.eqi (fun h => ?_) (fun h => ?_) <;> try (exfalso; omega)) | (simp (disch := (first | omega | (simp only [vlen]; first | done | omega))) only [vcz, hn, hrt, ↓va0, ↓va1, ↓va2, ↓va3, vb0, vb1, vb2, vb3, vb4, vb5, vb6, vb7, vb8, vb9, vb10, vz0, vz1, vy0, vx0, ↓reduceIte, Nat.reduceBEq, Nat.reduceEqDiff, Nat.reduceLT, Nat.reduceLeDiff, Nat.reduceAdd, Nat.reduceMul, Nat.reduceSub, reduceCtorEq, Int.reduceToNat]) | (refine Br.mk (fun h => ?_) (fun h => ?_)) | (refine BrN.mk (fun h => ?_) ?_) | (refine AltVC.mk ?_ ?_)
                refine GhoV.frz 7 ?_
                repeat' first | (refine Br.dec (fun h => ?_) (fun h => ?_) <;> try (exfalso; omega)) | (refine Br.eqi (fun h => ?_) (fun h => ?_) <;> try (exfalso; omega)) | (simp (disch := (first | omega | (simp only [vlen]; first | done | omega))) only [vcz, hn, hrt, ↓va0, ↓va1, ↓va2, ↓va3, vb0, vb1, vb2, vb3, vb4, vb5, vb6, vb7, vb8, vb9, vb10, vz0, vz1, vy0, vx0, ↓reduceIte, Nat.reduceBEq, Nat.reduceEqDiff, Nat.reduceLT, Nat.reduceLeDiff, Nat.reduceAdd, Nat.reduceMul, Nat.reduceSub, reduceCtorEq, Int.reduceToNat]) | (refine Br.mk (fun h => ?_) (fun h => ?_)) | (refine BrN.mk (fun h => ?_) ?_) | (refine AltVC.mk ?_ ?_)
                refine GhoV.go ?_
                repeat' first | (refine Br.dec (fun h => ?_) (fun h => ?_) <;> try (exfalso; omega)) | (refine Br.eqi (fun h => ?_) (fun h => ?_) <;> try (exfalso; omega)) | (simp (disch := (first | omega | (simp only [vlen]; first | done | omega))) only [vcz, hn, hrt, ↓va0, ↓va1, ↓va2, ↓va3, vb0, vb1, vb2, vb3, vb4, vb5, vb6, vb7, vb8, vb9, vb10, vz0, vz1, vy0, vx0, ↓reduceIte, Nat.reduceBEq, Nat.reduceEqDiff, Nat.reduceLT, Nat.reduceLeDiff, Nat.reduceAdd, Nat.reduceMul, Nat.reduceSub, reduceCtorEq, Int.reduceToNat]) | (refine Br.mk (fun h => ?_) (fun h => ?_)) | (refine BrN.mk (fun h => ?_) ?_) | (refine AltVC.mk ?_ ?_)
                exact fin_mk ⟨go, lf, hS, .inr ⟨by rw [hrt, Int.toNat_natCast]; assumption, C, by rw [hrt, Int.toNat_natCast, hn]; exact hCF, by unfold cutT; rw [hn, hrt, Int.toNat_natCast]; rfl⟩⟩
end Go.Proofs.Ytcbilnmpiladnaa
