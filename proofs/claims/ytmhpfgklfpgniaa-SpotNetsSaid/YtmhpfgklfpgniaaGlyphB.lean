/-
  glyph.builder: positions of an occurrence of a node.
-/
import Derived.Test.YtmhpfgklfpgniaaGlyph
import Derived.Test.YtmhpfgklfpgniaaHollow
import Derived.Test.YtmhpfgklfpgniaaLend
import Derived.Test.YtmhpfgklfpgniaaMore
namespace Go.Proofs.Ytmhpfgklfpgniaa
open Go.Dm
set_option linter.unusedSimpArgs false
set_option linter.unnecessarySimpa false
set_option linter.unusedVariables false
set_option linter.defProp false
/-- Positions: their symbols, what follows each. -/
structure Au where
  syms : List Int
  fol : Nat → Nat → Bool
structure Ps where
  first : Nat → Bool
  last : Nat → Bool
  empty : Bool
def gsR (n : Nat) (f : Nat → Nat → Bool) : List (List D) := (List.range n).map fun p => gsD (f p)
theorem gsR_len {n : Nat} {f : Nat → Nat → Bool} : (gsR n f).length = n := by simp [gsR]
theorem gsR_get {n p : Nat} {f : Nat → Nat → Bool} {d : List D} (h : p < n) : (gsR n f).getD p d = [.v (.int .u64 (gwN (f p) 0)), .v (.int .u64 (gwN (f p) 1)), .v (.int .u64 (gwN (f p) 2)), .v (.int .u64 (gwN (f p) 3)), .v (.int .u64 (gwN (f p) 4))] := by simp [gsR, List.getD, h, gsD_eq]
theorem gsR_take {n : Nat} {f : Nat → Nat → Bool} : (gsR n f).take n = gsR n f := List.take_of_length_le (by rw [gsR_len]; omega)
theorem gsR_set {n p : Nat} {f : Nat → Nat → Bool} {g : Nat → Bool} : (gsR n f).set p [.v (.int .u64 (gwN g 0)), .v (.int .u64 (gwN g 1)), .v (.int .u64 (gwN g 2)), .v (.int .u64 (gwN g 3)), .v (.int .u64 (gwN g 4))] = gsR n fun j => if j = p then g else f j := by
  rw [← gsD_eq]
  apply List.ext_getElem
  · simp [gsR]
  · intro k h1 h2
    simp only [gsR, List.getElem_set, List.getElem_map, List.getElem_range]
    by_cases e : p = k
    · rw [if_pos e, if_pos e.symm]
    · rw [if_neg e, if_neg (fun h => e h.symm)]
theorem gsR_ext {n : Nat} {f g : Nat → Nat → Bool} (h : ∀ p, p < n → ∀ q, q < 320 → f p q = g p q) : gsR n f = gsR n g := by
  unfold gsR
  exact List.map_congr_left fun p hp => gs_ext (h p (List.mem_range.mp hp))
theorem gsR_app {n : Nat} {f : Nat → Nat → Bool} : gsR n f ++ [[.v (.int .u64 0), .v (.int .u64 0), .v (.int .u64 0), .v (.int .u64 0), .v (.int .u64 0)]] = gsR (n + 1) fun p q => if p = n then false else f p q := by
  unfold gsR
  rw [List.range_succ, List.map_append, List.map_cons, List.map_nil]
  congr 1
  · exact List.map_congr_left fun p hp => gs_ext fun q _ => by
      have := List.mem_range.mp hp
      show f p q = if p = n then false else f p q
      rw [if_neg (by omega)]
  · rw [← gs_zero]
    simp
theorem blbt_get {n i : Nat} {f : Nat → Bool} {d : List D} (h : i < n) : (bls (bt n f)).getD i d = [.v (.bool (f i))] := by simp [bls, bt, List.getD, h]
def vgb := And.intro @blbt_get <| And.intro vmr <| And.intro @gsR_len <| And.intro @gsR_get <| And.intro @gsR_set <| And.intro @gsR_app <| And.intro @gsD_eq <| And.intro @bt_len <| And.intro @bt_get <| And.intro @Int.add_sub_cancel @Int.add_sub_cancel
def gJo (last first : Nat → Bool) (f : Nat → Nat → Bool) (p q : Nat) : Bool := f p q || (last p && first q)
def gJoU (last first : Nat → Bool) (f : Nat → Nat → Bool) (i p : Nat) : Nat → Bool := if p < i then gJo last first f p else f p
noncomputable def glO (l : List Dm.Node) (u : Au) : List Ob := [⟨9, [[.sl 3 (tbl nodD l), .sl 1 (bls (bt l.length (ebB l))), .ref 1 1 0 u.syms.length, .ref 2 5 0 u.syms.length, .v (.int .u64 0), .v (.int .u64 0), .v (.int .u64 0), .v (.int .u64 0), .v (.int .u64 0)]], false, false, .fix⟩, ⟨1, i64s u.syms, true, false, .arr⟩, ⟨5, gsR u.syms.length u.fol, true, false, .arr⟩]
theorem gl_fin {R : D → List (Option Ob) → Prop} {s : S} {d : D} {l : List Dm.Node} {u : Au} (h1 : 3 ≤ s.N) (h2 : fitL s 3 0 ((glO l u).map some)) (h : R (d.trim 3) ((glO l u).map some)) : FinH 3 R s d := finH_mk ((glO l u).map some) (Nat.le_refl _) h1 h2 h
theorem gjo_step {last first : Nat → Bool} {f : Nat → Nat → Bool} {n i : Nat} (h : last i = true) : (gsR n fun j => if j = i then gOr (gJoU last first f i i) first else gJoU last first f i j) = gsR n (gJoU last first f (i + 1)) := gsR_ext fun p _ q _ => by
  by_cases e : p = i
  · subst e
    rw [if_pos rfl]
    unfold gOr gJoU gJo
    rw [if_neg (by omega), if_pos (by omega), h]
    simp
  · rw [if_neg e]
    unfold gJoU
    by_cases h2 : p < i
    · rw [if_pos h2, if_pos (by omega)]
    · rw [if_neg h2, if_neg (by omega)]
theorem gjo_skip {last first : Nat → Bool} {f : Nat → Nat → Bool} {n i : Nat} (h : last i = false) : gsR n (gJoU last first f i) = gsR n (gJoU last first f (i + 1)) := gsR_ext fun p _ q _ => by
  unfold gJoU
  by_cases e : p = i
  · subst e
    rw [if_neg (by omega), if_pos (by omega)]
    unfold gJo
    rw [h]; simp
  · by_cases h2 : p < i
    · rw [if_pos h2, if_pos (by omega)]
    · rw [if_neg h2, if_neg (by omega)]
theorem gjo_all {last first : Nat → Bool} {f : Nat → Nat → Bool} {n : Nat} : gsR n (gJoU last first f n) = gsR n (gJo last first f) := gsR_ext fun p hp q _ => by
  unfold gJoU; rw [if_pos hp]
theorem gjo_zero {last first : Nat → Bool} {f : Nat → Nat → Bool} {n : Nat} : gsR n f = gsR n (gJoU last first f 0) := gsR_ext fun p hp q _ => by
  unfold gJoU; rw [if_neg (by omega)]
set_option maxRecDepth 10000 in
set_option maxHeartbeats 4000000 in
theorem join_spec (l : List Dm.Node) (u : Au) (hu : u.syms.length ≤ 319) (last first : Nat → Bool) : Dm.SpecH Try.prog 82 [.ptr 0 9 0 0, .ag (gsD last), .ag (gsD first)] (glO l u) (fun d o => d = .tu [] ∧ o = (glO l ⟨u.syms, gJo last first u.fol⟩).map some) := by
  refine specH_of_vc mixed Try.func82 c82 (by rw [show Try.f82.ntmps = _ from Try.ntmps82]; simp) ?_
  unfold m82 r82
  unfold glO
  repeat' first | (refine Br.dec (fun h => ?_) (fun h => ?_) <;> try (exfalso; omega)) | (refine Br.eqi (fun h => ?_) (fun h => ?_) <;> try (exfalso; omega)) | (simp (disch := (first | omega | (simp only [vlen]; first | done | omega))) only [vgb, ↓va0, ↓va1, ↓va2, ↓va3, vb0, vb1, vb2, vb3, vb4, vb5, vb6, vb7, vb8, vb9, vb10, vz0, vz1, vy0, vx0, ↓reduceIte, Nat.reduceBEq, Nat.reduceEqDiff, Nat.reduceLT, Nat.reduceLeDiff, Nat.reduceAdd, Nat.reduceMul, Nat.reduceSub, reduceCtorEq, Int.reduceToNat]) | (refine Br.mk (fun h => ?_) (fun h => ?_)) | (refine BrN.mk (fun h => ?_) ?_) | (refine AltVC.mk ?_ ?_)
  refine LoopVC.mk (X := Nat) (fun i => [(13, iv .i64 i)]) (fun i => [(0, ⟨9, [[.sl 3 (tbl nodD l), .sl 1 (bls (bt l.length (ebB l))), .ref 1 1 0 u.syms.length, .ref 2 5 0 u.syms.length, .v (.int .u64 0), .v (.int .u64 0), .v (.int .u64 0), .v (.int .u64 0), .v (.int .u64 0)]], false, false, .fix⟩), (1, ⟨1, i64s u.syms, true, false, .arr⟩), (2, ⟨5, gsR u.syms.length (gJoU last first u.fol i), true, false, .arr⟩), (3, ⟨5, [gsD last], true, false, .fix⟩), (4, ⟨5, [gsD first], true, false, .fix⟩)]) (fun i => u.syms.length - i) (fun i => i ≤ u.syms.length) 0 (Nat.zero_le _) ?_ ?_
  · rw [← gjo_zero]
    (simp (disch := (first | omega | (simp only [vlen]; first | done | omega))) only [Fits_u, Fits_m, Fits_nil, List.length_append, vgb, ↓va0, ↓va1, ↓va2, ↓va3, vb0, vb1, vb2, vb3, vb4, vb5, vb6, vb7, vb8, vb9, vb10, vz0, vz1, vy0, vx0, ↓reduceIte, Nat.reduceBEq, Nat.reduceEqDiff, Nat.reduceLT, Nat.reduceLeDiff, Nat.reduceAdd, Nat.reduceMul, Nat.reduceSub, reduceCtorEq, Int.reduceToNat] <;> (repeat' first | rfl | apply And.intro))
  · intro i hi
    by_cases hil : i < u.syms.length
    · have hH := gHas_spec last i (by omega)
      cases hli : last i with
      | false =>
        rw [hli] at hH
        repeat' first | (refine Br.dec (fun h => ?_) (fun h => ?_) <;> try (exfalso; omega)) | (refine Br.eqi (fun h => ?_) (fun h => ?_) <;> try (exfalso; omega)) | (simp (disch := (first | omega | (simp only [vlen]; first | done | omega))) only [vgb, ↓va0, ↓va1, ↓va2, ↓va3, vb0, vb1, vb2, vb3, vb4, vb5, vb6, vb7, vb8, vb9, vb10, vz0, vz1, vy0, vx0, ↓reduceIte, Nat.reduceBEq, Nat.reduceEqDiff, Nat.reduceLT, Nat.reduceLeDiff, Nat.reduceAdd, Nat.reduceMul, Nat.reduceSub, reduceCtorEq, Int.reduceToNat]) | (refine Br.mk (fun h => ?_) (fun h => ?_)) | (refine BrN.mk (fun h => ?_) ?_) | (refine AltVC.mk ?_ ?_)
        refine CallVC.eq hH ?_
        repeat' first | (refine Br.dec (fun h => ?_) (fun h => ?_) <;> try (exfalso; omega)) | (refine Br.eqi (fun h => ?_) (fun h => ?_) <;> try (exfalso; omega)) | (simp (disch := (first | omega | (simp only [vlen]; first | done | omega))) only [vgb, ↓va0, ↓va1, ↓va2, ↓va3, vb0, vb1, vb2, vb3, vb4, vb5, vb6, vb7, vb8, vb9, vb10, vz0, vz1, vy0, vx0, ↓reduceIte, Nat.reduceBEq, Nat.reduceEqDiff, Nat.reduceLT, Nat.reduceLeDiff, Nat.reduceAdd, Nat.reduceMul, Nat.reduceSub, reduceCtorEq, Int.reduceToNat]) | (refine Br.mk (fun h => ?_) (fun h => ?_)) | (refine BrN.mk (fun h => ?_) ?_) | (refine AltVC.mk ?_ ?_)
        refine loopK.mk (i + 1) (by simp (disch := (first | omega | (simp only [vlen]; first | done | omega))) only [↓va0, ↓va1, ↓va2, ↓va3, vb0, vb1, vb2, vb3, vb4, vb5, vb6, vb7, vb8, vb9, vb10, vz0, vz1, vy0, vx0, ↓reduceIte, Nat.reduceBEq, Nat.reduceEqDiff, Nat.reduceLT, Nat.reduceLeDiff, Nat.reduceAdd, Nat.reduceMul, Nat.reduceSub, reduceCtorEq, Int.reduceToNat]) (by omega) (by omega) ?_
        rw [← gjo_skip hli]
        (simp (disch := (first | omega | (simp only [vlen]; first | done | omega))) only [Fits_u, Fits_m, Fits_nil, List.length_append, vgb, ↓va0, ↓va1, ↓va2, ↓va3, vb0, vb1, vb2, vb3, vb4, vb5, vb6, vb7, vb8, vb9, vb10, vz0, vz1, vy0, vx0, ↓reduceIte, Nat.reduceBEq, Nat.reduceEqDiff, Nat.reduceLT, Nat.reduceLeDiff, Nat.reduceAdd, Nat.reduceMul, Nat.reduceSub, reduceCtorEq, Int.reduceToNat] <;> (repeat' first | rfl | apply And.intro))
      | true =>
        rw [hli] at hH
        repeat' first | (refine Br.dec (fun h => ?_) (fun h => ?_) <;> try (exfalso; omega)) | (refine Br.eqi (fun h => ?_) (fun h => ?_) <;> try (exfalso; omega)) | (simp (disch := (first | omega | (simp only [vlen]; first | done | omega))) only [vgb, ↓va0, ↓va1, ↓va2, ↓va3, vb0, vb1, vb2, vb3, vb4, vb5, vb6, vb7, vb8, vb9, vb10, vz0, vz1, vy0, vx0, ↓reduceIte, Nat.reduceBEq, Nat.reduceEqDiff, Nat.reduceLT, Nat.reduceLeDiff, Nat.reduceAdd, Nat.reduceMul, Nat.reduceSub, reduceCtorEq, Int.reduceToNat]) | (refine Br.mk (fun h => ?_) (fun h => ?_)) | (refine BrN.mk (fun h => ?_) ?_) | (refine AltVC.mk ?_ ?_)
        refine CallVC.eq hH ?_
        repeat' first | (refine Br.dec (fun h => ?_) (fun h => ?_) <;> try (exfalso; omega)) | (refine Br.eqi (fun h => ?_) (fun h => ?_) <;> try (exfalso; omega)) | (simp (disch := (first | omega | (simp only [vlen]; first | done | omega))) only [vgb, ↓va0, ↓va1, ↓va2, ↓va3, vb0, vb1, vb2, vb3, vb4, vb5, vb6, vb7, vb8, vb9, vb10, vz0, vz1, vy0, vx0, ↓reduceIte, Nat.reduceBEq, Nat.reduceEqDiff, Nat.reduceLT, Nat.reduceLeDiff, Nat.reduceAdd, Nat.reduceMul, Nat.reduceSub, reduceCtorEq, Int.reduceToNat]) | (refine Br.mk (fun h => ?_) (fun h => ?_)) | (refine BrN.mk (fun h => ?_) ?_) | (refine AltVC.mk ?_ ?_)
        refine CallP.eq (gOr_spec (gJoU last first u.fol i i) first) (fun h => by cases h) ?_
        repeat' first | (refine Br.dec (fun h => ?_) (fun h => ?_) <;> try (exfalso; omega)) | (refine Br.eqi (fun h => ?_) (fun h => ?_) <;> try (exfalso; omega)) | (simp (disch := (first | omega | (simp only [vlen]; first | done | omega))) only [vgb, ↓va0, ↓va1, ↓va2, ↓va3, vb0, vb1, vb2, vb3, vb4, vb5, vb6, vb7, vb8, vb9, vb10, vz0, vz1, vy0, vx0, ↓reduceIte, Nat.reduceBEq, Nat.reduceEqDiff, Nat.reduceLT, Nat.reduceLeDiff, Nat.reduceAdd, Nat.reduceMul, Nat.reduceSub, reduceCtorEq, Int.reduceToNat]) | (refine Br.mk (fun h => ?_) (fun h => ?_)) | (refine BrN.mk (fun h => ?_) ?_) | (refine AltVC.mk ?_ ?_)
        refine loopK.mk (i + 1) (by simp (disch := (first | omega | (simp only [vlen]; first | done | omega))) only [↓va0, ↓va1, ↓va2, ↓va3, vb0, vb1, vb2, vb3, vb4, vb5, vb6, vb7, vb8, vb9, vb10, vz0, vz1, vy0, vx0, ↓reduceIte, Nat.reduceBEq, Nat.reduceEqDiff, Nat.reduceLT, Nat.reduceLeDiff, Nat.reduceAdd, Nat.reduceMul, Nat.reduceSub, reduceCtorEq, Int.reduceToNat]) (by omega) (by omega) ?_
        rw [← gjo_step hli]
        (simp (disch := (first | omega | (simp only [vlen]; first | done | omega))) only [Fits_u, Fits_m, Fits_nil, List.length_append, vgb, ↓va0, ↓va1, ↓va2, ↓va3, vb0, vb1, vb2, vb3, vb4, vb5, vb6, vb7, vb8, vb9, vb10, vz0, vz1, vy0, vx0, ↓reduceIte, Nat.reduceBEq, Nat.reduceEqDiff, Nat.reduceLT, Nat.reduceLeDiff, Nat.reduceAdd, Nat.reduceMul, Nat.reduceSub, reduceCtorEq, Int.reduceToNat] <;> (repeat' first | rfl | apply And.intro))
    · have : i = u.syms.length := by omega
      subst this
      repeat' first | (refine Br.dec (fun h => ?_) (fun h => ?_) <;> try (exfalso; omega)) | (refine Br.eqi (fun h => ?_) (fun h => ?_) <;> try (exfalso; omega)) | (simp (disch := (first | omega | (simp only [vlen]; first | done | omega))) only [vgb, ↓va0, ↓va1, ↓va2, ↓va3, vb0, vb1, vb2, vb3, vb4, vb5, vb6, vb7, vb8, vb9, vb10, vz0, vz1, vy0, vx0, ↓reduceIte, Nat.reduceBEq, Nat.reduceEqDiff, Nat.reduceLT, Nat.reduceLeDiff, Nat.reduceAdd, Nat.reduceMul, Nat.reduceSub, reduceCtorEq, Int.reduceToNat]) | (refine Br.mk (fun h => ?_) (fun h => ?_)) | (refine BrN.mk (fun h => ?_) ?_) | (refine AltVC.mk ?_ ?_)
      rw [gjo_all]
      exact gl_fin (l := l) (u := ⟨u.syms, gJo last first u.fol⟩) (by simp (disch := (first | omega | (simp only [vlen]; first | done | omega))) only [vgb, ↓va0, ↓va1, ↓va2, ↓va3, vb0, vb1, vb2, vb3, vb4, vb5, vb6, vb7, vb8, vb9, vb10, vz0, vz1, vy0, vx0, ↓reduceIte, Nat.reduceBEq, Nat.reduceEqDiff, Nat.reduceLT, Nat.reduceLeDiff, Nat.reduceAdd, Nat.reduceMul, Nat.reduceSub, reduceCtorEq, Int.reduceToNat]) (by unfold glO; simp (disch := (first | omega | (simp only [vlen]; first | done | omega))) only [vgb, ↓va0, ↓va1, ↓va2, ↓va3, vb0, vb1, vb2, vb3, vb4, vb5, vb6, vb7, vb8, vb9, vb10, vz0, vz1, vy0, vx0, ↓reduceIte, Nat.reduceBEq, Nat.reduceEqDiff, Nat.reduceLT, Nat.reduceLeDiff, Nat.reduceAdd, Nat.reduceMul, Nat.reduceSub, reduceCtorEq, Int.reduceToNat]) ⟨by simp [D.trim, lf_tu], by simp [glO, gsD_eq]⟩
/-- What the building of an occurrence of a node comes to. -/
inductive Bl (l : List Dm.Node) : Nat → Au → Ps → Au → Prop
  | none {i : Nat} {u : Au} (h : (l.getD i default).kind < 3) : Bl l i u ⟨fun _ => false, fun _ => false, ebB l i⟩ u
  | sym {i : Nat} {u : Au} (h : (l.getD i default).kind = 3) : Bl l i u ⟨fun q => decide (q = u.syms.length), fun q => decide (q = u.syms.length), ebB l i⟩ ⟨u.syms ++ [(l.getD i default).a], fun p q => if p = u.syms.length then false else u.fol p q⟩
  | cat {i : Nat} {u u1 u2 : Au} {x y : Ps} (h : (l.getD i default).kind = 4) (hx : Bl l (l.getD i default).a.toNat u x u1) (hy : Bl l (l.getD i default).b.toNat u1 y u2) :
      Bl l i u ⟨if x.empty then gOr x.first y.first else x.first, if y.empty then gOr y.last x.last else y.last, ebB l i⟩ ⟨u2.syms, gJo x.last y.first u2.fol⟩
  | or {i : Nat} {u u1 u2 : Au} {x y : Ps} (h : (l.getD i default).kind = 5) (hx : Bl l (l.getD i default).a.toNat u x u1) (hy : Bl l (l.getD i default).b.toNat u1 y u2) :
      Bl l i u ⟨gOr x.first y.first, gOr x.last y.last, ebB l i⟩ u2
  | star {i : Nat} {u u1 : Au} {x : Ps} (h : (l.getD i default).kind = 6) (hx : Bl l (l.getD i default).a.toNat u x u1) :
      Bl l i u ⟨x.first, x.last, ebB l i⟩ ⟨u1.syms, gJo x.last x.first u1.fol⟩
def psD (x : Ps) : List D := gsD x.first ++ gsD x.last ++ [.v (.bool x.empty)]
theorem psD_eq {x : Ps} : psD x = [.v (.int .u64 (gwN x.first 0)), .v (.int .u64 (gwN x.first 1)), .v (.int .u64 (gwN x.first 2)), .v (.int .u64 (gwN x.first 3)), .v (.int .u64 (gwN x.first 4)), .v (.int .u64 (gwN x.last 0)), .v (.int .u64 (gwN x.last 1)), .v (.int .u64 (gwN x.last 2)), .v (.int .u64 (gwN x.last 3)), .v (.int .u64 (gwN x.last 4)), .v (.bool x.empty)] := (rfl)
theorem ps_zero {b : Bool} : [D.v (.int .u64 0), .v (.int .u64 0), .v (.int .u64 0), .v (.int .u64 0), .v (.int .u64 0), .v (.int .u64 0), .v (.int .u64 0), .v (.int .u64 0), .v (.int .u64 0), .v (.int .u64 0), .v (.bool b)] = psD ⟨fun _ => false, fun _ => false, b⟩ := by
  unfold psD
  rw [gs_zero]; rfl
theorem ps_trim {x : Ps} {n : Nat} : (D.ag (psD x)).trim n = .ag (psD x) := by simp [psD_eq, trim_ag, trim_v]
def blR (l : List Dm.Node) (i : Nat) (u : Au) (d : D) (o : List (Option Ob)) : Prop := ∃ x u', d = .ag (psD x) ∧ o = (glO l u').map some ∧ Bl l i u x u' ∧ u'.syms.length ≤ u.syms.length + 2 ^ i
theorem bl_fin {s : S} {l : List Dm.Node} {i : Nat} {u : Au} {c : List D} (x : Ps) (u' : Au) (h1 : 3 ≤ s.N) (h2 : fitL s 3 0 ((glO l u').map some)) (hc : c = psD x) (hb : Bl l i u x u') (hn : u'.syms.length ≤ u.syms.length + 2 ^ i) : FinH 3 (blR l i u) s (.ag c) := gl_fin h1 h2 ⟨x, u', by rw [hc]; exact ps_trim, rfl, hb, hn⟩
theorem two_pow2 {a b i : Nat} (ha : a < i) (hb : b < i) : 2 ^ a + 2 ^ b ≤ 2 ^ i := by
  have h1 : 2 ^ a ≤ 2 ^ (i - 1) := Nat.pow_le_pow_right (by omega) (by omega)
  have h2 : 2 ^ b ≤ 2 ^ (i - 1) := Nat.pow_le_pow_right (by omega) (by omega)
  have h3 : 2 ^ i = 2 ^ (i - 1) * 2 := by rw [← Nat.pow_succ]; congr 1; omega
  omega
def vgc := And.intro vgb @psD_eq
set_option maxRecDepth 10000 in
set_option maxHeartbeats 4000000 in
theorem build_spec (k0 : Int) (l : List Dm.Node) (hv : NodesOk k0 l) (hl : l.length ≤ 9) (i : Nat) (hi : i < l.length) (u : Au) (hu : u.syms.length + 2 ^ i ≤ 300) : Dm.SpecH Try.prog 70 [.ptr 0 9 0 0, iv .i64 i] (glO l u) (blR l i u) := by
  refine specH_of_vc mixed Try.func70 c70 (by rw [show Try.f70.ntmps = _ from Try.ntmps70]; simp) ?_
  unfold m70 r70
  have hok := hv i hi
  obtain ⟨hk1, hk6, hk3, hk4, hk5⟩ := hok
  obtain ⟨nd, hnd⟩ : ∃ nd, l.getD i default = nd := ⟨_, rfl⟩
  rw [hnd] at hk1 hk6 hk3 hk4 hk5
  obtain ⟨B, hB⟩ : ∃ B, 2 ^ i = B := ⟨_, rfl⟩
  have hB0 : 0 < B := by rw [← hB]; exact Nat.pow_pos (by omega)
  rw [hB] at hu
  have hkk : nd.kind < 3 ∨ nd.kind = 3 ∨ nd.kind = 4 ∨ nd.kind = 5 ∨ nd.kind = 6 := by omega
  unfold glO
  rcases hkk with hk | hk | hk | hk | hk
  · repeat' first | (refine Br.dec (fun h => ?_) (fun h => ?_) <;> try (exfalso; omega)) | (refine Br.eqi (fun h => ?_) (fun h => ?_) <;> try (exfalso; omega)) | (simp (disch := (first | omega | (simp only [vlen]; first | done | omega))) only [vgc, hnd, ↓va0, ↓va1, ↓va2, ↓va3, vb0, vb1, vb2, vb3, vb4, vb5, vb6, vb7, vb8, vb9, vb10, vz0, vz1, vy0, vx0, ↓reduceIte, Nat.reduceBEq, Nat.reduceEqDiff, Nat.reduceLT, Nat.reduceLeDiff, Nat.reduceAdd, Nat.reduceMul, Nat.reduceSub, reduceCtorEq, Int.reduceToNat]) | (refine Br.mk (fun h => ?_) (fun h => ?_)) | (refine BrN.mk (fun h => ?_) ?_) | (refine AltVC.mk ?_ ?_)
    all_goals first | (exfalso; omega; done) | skip
    exact bl_fin _ u (by simp (disch := (first | omega | (simp only [vlen]; first | done | omega))) only [vgc, ↓va0, ↓va1, ↓va2, ↓va3, vb0, vb1, vb2, vb3, vb4, vb5, vb6, vb7, vb8, vb9, vb10, vz0, vz1, vy0, vx0, ↓reduceIte, Nat.reduceBEq, Nat.reduceEqDiff, Nat.reduceLT, Nat.reduceLeDiff, Nat.reduceAdd, Nat.reduceMul, Nat.reduceSub, reduceCtorEq, Int.reduceToNat]) (by unfold glO; simp (disch := (first | omega | (simp only [vlen]; first | done | omega))) only [vgc, ↓va0, ↓va1, ↓va2, ↓va3, vb0, vb1, vb2, vb3, vb4, vb5, vb6, vb7, vb8, vb9, vb10, vz0, vz1, vy0, vx0, ↓reduceIte, Nat.reduceBEq, Nat.reduceEqDiff, Nat.reduceLT, Nat.reduceLeDiff, Nat.reduceAdd, Nat.reduceMul, Nat.reduceSub, reduceCtorEq, Int.reduceToNat]) ps_zero (.none (by rw [hnd]; exact hk)) (by omega)
  · have hW := gWith_spec (fun _ => false) u.syms.length (by omega)
    rw [gs_zero] at hW
    repeat' first | (refine Br.dec (fun h => ?_) (fun h => ?_) <;> try (exfalso; omega)) | (refine Br.eqi (fun h => ?_) (fun h => ?_) <;> try (exfalso; omega)) | (simp (disch := (first | omega | (simp only [vlen]; first | done | omega))) only [vgc, hnd, ↓va0, ↓va1, ↓va2, ↓va3, vb0, vb1, vb2, vb3, vb4, vb5, vb6, vb7, vb8, vb9, vb10, vz0, vz1, vy0, vx0, ↓reduceIte, Nat.reduceBEq, Nat.reduceEqDiff, Nat.reduceLT, Nat.reduceLeDiff, Nat.reduceAdd, Nat.reduceMul, Nat.reduceSub, reduceCtorEq, Int.reduceToNat]) | (refine Br.mk (fun h => ?_) (fun h => ?_)) | (refine BrN.mk (fun h => ?_) ?_) | (refine AltVC.mk ?_ ?_)
    all_goals first | (exfalso; omega; done) | skip
    refine CallP.eq hW (fun h => by cases h) ?_
    repeat' first | (refine Br.dec (fun h => ?_) (fun h => ?_) <;> try (exfalso; omega)) | (refine Br.eqi (fun h => ?_) (fun h => ?_) <;> try (exfalso; omega)) | (simp (disch := (first | omega | (simp only [vlen]; first | done | omega))) only [vgc, hnd, ↓va0, ↓va1, ↓va2, ↓va3, vb0, vb1, vb2, vb3, vb4, vb5, vb6, vb7, vb8, vb9, vb10, vz0, vz1, vy0, vx0, ↓reduceIte, Nat.reduceBEq, Nat.reduceEqDiff, Nat.reduceLT, Nat.reduceLeDiff, Nat.reduceAdd, Nat.reduceMul, Nat.reduceSub, reduceCtorEq, Int.reduceToNat]) | (refine Br.mk (fun h => ?_) (fun h => ?_)) | (refine BrN.mk (fun h => ?_) ?_) | (refine AltVC.mk ?_ ?_)
    refine CallP.eq hW (fun h => by cases h) ?_
    repeat' first | (refine Br.dec (fun h => ?_) (fun h => ?_) <;> try (exfalso; omega)) | (refine Br.eqi (fun h => ?_) (fun h => ?_) <;> try (exfalso; omega)) | (simp (disch := (first | omega | (simp only [vlen]; first | done | omega))) only [vgc, hnd, ↓va0, ↓va1, ↓va2, ↓va3, vb0, vb1, vb2, vb3, vb4, vb5, vb6, vb7, vb8, vb9, vb10, vz0, vz1, vy0, vx0, ↓reduceIte, Nat.reduceBEq, Nat.reduceEqDiff, Nat.reduceLT, Nat.reduceLeDiff, Nat.reduceAdd, Nat.reduceMul, Nat.reduceSub, reduceCtorEq, Int.reduceToNat]) | (refine Br.mk (fun h => ?_) (fun h => ?_)) | (refine BrN.mk (fun h => ?_) ?_) | (refine AltVC.mk ?_ ?_)
    have hz : gAdd (fun _ => false) u.syms.length = fun q => decide (q = u.syms.length) := by funext q; unfold gAdd; rw [Bool.false_or]
    have hbl : Bl l i u _ _ := .sym (by rw [hnd]; exact hk)
    rw [hnd] at hbl
    rw [hz]
    have hsl : (u.syms ++ [nd.a]).length = u.syms.length + 1 := by simp
    exact bl_fin _ _ (by simp (disch := (first | omega | (simp only [vlen]; first | done | omega))) only [vgc, ↓va0, ↓va1, ↓va2, ↓va3, vb0, vb1, vb2, vb3, vb4, vb5, vb6, vb7, vb8, vb9, vb10, vz0, vz1, vy0, vx0, ↓reduceIte, Nat.reduceBEq, Nat.reduceEqDiff, Nat.reduceLT, Nat.reduceLeDiff, Nat.reduceAdd, Nat.reduceMul, Nat.reduceSub, reduceCtorEq, Int.reduceToNat]) (by unfold glO; simp (disch := (first | omega | (simp only [vlen]; first | done | omega))) only [vgc, hsl, gsR_take, ↓va0, ↓va1, ↓va2, ↓va3, vb0, vb1, vb2, vb3, vb4, vb5, vb6, vb7, vb8, vb9, vb10, vz0, vz1, vy0, vx0, ↓reduceIte, Nat.reduceBEq, Nat.reduceEqDiff, Nat.reduceLT, Nat.reduceLeDiff, Nat.reduceAdd, Nat.reduceMul, Nat.reduceSub, reduceCtorEq, Int.reduceToNat]) (by rw [psD_eq]) hbl (by show (u.syms ++ [_]).length ≤ _; rw [hB, List.length_append]; simp only [List.length_cons, List.length_nil]; omega)
  · obtain ⟨h4a, h4b⟩ := hk4 (by omega)
    obtain ⟨h5a, h5b⟩ := hk5 (.inl hk)
    obtain ⟨a, ha⟩ : ∃ a : Nat, nd.a = a := ⟨nd.a.toNat, by omega⟩
    obtain ⟨b, hb⟩ : ∃ b : Nat, nd.b = b := ⟨nd.b.toNat, by omega⟩
    have hpa : 0 < 2 ^ a := Nat.pow_pos (by omega)
    have hpb : 0 < 2 ^ b := Nat.pow_pos (by omega)
    have hab := two_pow2 (a := a) (b := b) (i := i) (by omega) (by omega)
    have hIa := fun u (hu : u.syms.length + 2 ^ a ≤ 300) => build_spec k0 l hv hl a (by omega) u hu
    have hIb := fun u (hu : u.syms.length + 2 ^ b ≤ 300) => build_spec k0 l hv hl b (by omega) u hu
    rw [hB] at hab
    repeat' first | (refine Br.dec (fun h => ?_) (fun h => ?_) <;> try (exfalso; omega)) | (refine Br.eqi (fun h => ?_) (fun h => ?_) <;> try (exfalso; omega)) | (simp (disch := (first | omega | (simp only [vlen]; first | done | omega))) only [vgc, hnd, ha, hb, ↓va0, ↓va1, ↓va2, ↓va3, vb0, vb1, vb2, vb3, vb4, vb5, vb6, vb7, vb8, vb9, vb10, vz0, vz1, vy0, vx0, ↓reduceIte, Nat.reduceBEq, Nat.reduceEqDiff, Nat.reduceLT, Nat.reduceLeDiff, Nat.reduceAdd, Nat.reduceMul, Nat.reduceSub, reduceCtorEq, Int.reduceToNat]) | (refine Br.mk (fun h => ?_) (fun h => ?_)) | (refine BrN.mk (fun h => ?_) ?_) | (refine AltVC.mk ?_ ?_)
    all_goals first | (exfalso; omega; done) | skip
    refine CallVC.lendE [0, 1, 2] [.ptr 0 9 0 0, iv .i64 a] (glO l u) (hIa u (by omega)) (by simp) (by rfl) (by unfold glO; (simp (disch := (first | omega | (simp only [vlen]; first | done | omega))) only [vle0, ↓va0, ↓va1, ↓va2, ↓va3, vb0, vb1, vb2, vb3, vb4, vb5, vb6, vb7, vb8, vb9, vb10, vz0, vz1, vy0, vx0, ↓reduceIte, Nat.reduceBEq, Nat.reduceEqDiff, Nat.reduceLT, Nat.reduceLeDiff, Nat.reduceAdd, Nat.reduceMul, Nat.reduceSub, reduceCtorEq, Int.reduceToNat] <;> (repeat' first | rfl | apply And.intro))) ?_
    rintro _ _ ⟨x, u1, rfl, rfl, hx, hn1⟩
    unfold glO
    repeat' first | (refine Br.dec (fun h => ?_) (fun h => ?_) <;> try (exfalso; omega)) | (refine Br.eqi (fun h => ?_) (fun h => ?_) <;> try (exfalso; omega)) | (simp (disch := (first | omega | (simp only [vlen]; first | done | omega))) only [vgc, hnd, ha, hb, ↓va0, ↓va1, ↓va2, ↓va3, vb0, vb1, vb2, vb3, vb4, vb5, vb6, vb7, vb8, vb9, vb10, vz0, vz1, vy0, vx0, ↓reduceIte, Nat.reduceBEq, Nat.reduceEqDiff, Nat.reduceLT, Nat.reduceLeDiff, Nat.reduceAdd, Nat.reduceMul, Nat.reduceSub, reduceCtorEq, Int.reduceToNat]) | (refine Br.mk (fun h => ?_) (fun h => ?_)) | (refine BrN.mk (fun h => ?_) ?_) | (refine AltVC.mk ?_ ?_)
    refine CallVC.lendE [0, 1, 2] [.ptr 0 9 0 0, iv .i64 b] (glO l u1) (hIb u1 (by omega)) (by simp) (by rfl) (by unfold glO; (simp (disch := (first | omega | (simp only [vlen]; first | done | omega))) only [vle0, ↓va0, ↓va1, ↓va2, ↓va3, vb0, vb1, vb2, vb3, vb4, vb5, vb6, vb7, vb8, vb9, vb10, vz0, vz1, vy0, vx0, ↓reduceIte, Nat.reduceBEq, Nat.reduceEqDiff, Nat.reduceLT, Nat.reduceLeDiff, Nat.reduceAdd, Nat.reduceMul, Nat.reduceSub, reduceCtorEq, Int.reduceToNat] <;> (repeat' first | rfl | apply And.intro))) ?_
    rintro _ _ ⟨y, u2, rfl, rfl, hy, hn2⟩
    unfold glO
    repeat' first | (refine Br.dec (fun h => ?_) (fun h => ?_) <;> try (exfalso; omega)) | (refine Br.eqi (fun h => ?_) (fun h => ?_) <;> try (exfalso; omega)) | (simp (disch := (first | omega | (simp only [vlen]; first | done | omega))) only [vgc, hnd, ha, hb, ↓va0, ↓va1, ↓va2, ↓va3, vb0, vb1, vb2, vb3, vb4, vb5, vb6, vb7, vb8, vb9, vb10, vz0, vz1, vy0, vx0, ↓reduceIte, Nat.reduceBEq, Nat.reduceEqDiff, Nat.reduceLT, Nat.reduceLeDiff, Nat.reduceAdd, Nat.reduceMul, Nat.reduceSub, reduceCtorEq, Int.reduceToNat]) | (refine Br.mk (fun h => ?_) (fun h => ?_)) | (refine BrN.mk (fun h => ?_) ?_) | (refine AltVC.mk ?_ ?_)
    refine CallVC.lendE [0, 1, 2] [.ptr 0 9 0 0, .ag (gsD x.last), .ag (gsD y.first)] (glO l u2) (join_spec l u2 (by omega) x.last y.first) (by simp) (by rfl) (by unfold glO gsD gw; (simp (disch := (first | omega | (simp only [vlen]; first | done | omega))) only [vle0, ↓va0, ↓va1, ↓va2, ↓va3, vb0, vb1, vb2, vb3, vb4, vb5, vb6, vb7, vb8, vb9, vb10, vz0, vz1, vy0, vx0, ↓reduceIte, Nat.reduceBEq, Nat.reduceEqDiff, Nat.reduceLT, Nat.reduceLeDiff, Nat.reduceAdd, Nat.reduceMul, Nat.reduceSub, reduceCtorEq, Int.reduceToNat] <;> (repeat' first | rfl | apply And.intro))) ?_
    rintro _ _ ⟨rfl, rfl⟩
    unfold glO
    repeat' first | (refine Br.dec (fun h => ?_) (fun h => ?_) <;> try (exfalso; omega)) | (refine Br.eqi (fun h => ?_) (fun h => ?_) <;> try (exfalso; omega)) | (simp (disch := (first | omega | (simp only [vlen]; first | done | omega))) only [vgc, hnd, ha, hb, ↓va0, ↓va1, ↓va2, ↓va3, vb0, vb1, vb2, vb3, vb4, vb5, vb6, vb7, vb8, vb9, vb10, vz0, vz1, vy0, vx0, ↓reduceIte, Nat.reduceBEq, Nat.reduceEqDiff, Nat.reduceLT, Nat.reduceLeDiff, Nat.reduceAdd, Nat.reduceMul, Nat.reduceSub, reduceCtorEq, Int.reduceToNat]) | (refine Br.mk (fun h => ?_) (fun h => ?_)) | (refine BrN.mk (fun h => ?_) ?_) | (refine AltVC.mk ?_ ?_)
    refine DrawVC.u ?_
    have hbl : Bl l i u _ _ := .cat (by rw [hnd]; exact hk) (by rw [hnd, ha]; exact hx) (by rw [hnd, hb]; exact hy)
    cases hxe : x.empty <;> cases hye : y.empty
    all_goals
      rw [hxe, hye] at hbl
      simp only [if_true, Bool.false_eq_true, if_false] at hbl
      repeat' first | (refine Br.dec (fun h => ?_) (fun h => ?_) <;> try (exfalso; omega)) | (refine Br.eqi (fun h => ?_) (fun h => ?_) <;> try (exfalso; omega)) | (simp (disch := (first | omega | (simp only [vlen]; first | done | omega))) only [vgc, hnd, ha, hb, hxe, hye, ↓va0, ↓va1, ↓va2, ↓va3, vb0, vb1, vb2, vb3, vb4, vb5, vb6, vb7, vb8, vb9, vb10, vz0, vz1, vy0, vx0, ↓reduceIte, Nat.reduceBEq, Nat.reduceEqDiff, Nat.reduceLT, Nat.reduceLeDiff, Nat.reduceAdd, Nat.reduceMul, Nat.reduceSub, reduceCtorEq, Int.reduceToNat]) | (refine Br.mk (fun h => ?_) (fun h => ?_)) | (refine BrN.mk (fun h => ?_) ?_) | (refine AltVC.mk ?_ ?_)
    all_goals
      repeat (first
        | (refine CallVC.eq (gOr_spec x.first y.first) ?_; (repeat' first | (refine Br.dec (fun h => ?_) (fun h => ?_) <;> try (exfalso; omega)) | (refine Br.eqi (fun h => ?_) (fun h => ?_) <;> try (exfalso; omega)) | (simp (disch := (first | omega | (simp only [vlen]; first | done | omega))) only [vgc, hnd, ha, hb, hxe, hye, ↓va0, ↓va1, ↓va2, ↓va3, vb0, vb1, vb2, vb3, vb4, vb5, vb6, vb7, vb8, vb9, vb10, vz0, vz1, vy0, vx0, ↓reduceIte, Nat.reduceBEq, Nat.reduceEqDiff, Nat.reduceLT, Nat.reduceLeDiff, Nat.reduceAdd, Nat.reduceMul, Nat.reduceSub, reduceCtorEq, Int.reduceToNat]) | (refine Br.mk (fun h => ?_) (fun h => ?_)) | (refine BrN.mk (fun h => ?_) ?_) | (refine AltVC.mk ?_ ?_)))
        | (refine CallVC.eq (gOr_spec y.last x.last) ?_; (repeat' first | (refine Br.dec (fun h => ?_) (fun h => ?_) <;> try (exfalso; omega)) | (refine Br.eqi (fun h => ?_) (fun h => ?_) <;> try (exfalso; omega)) | (simp (disch := (first | omega | (simp only [vlen]; first | done | omega))) only [vgc, hnd, ha, hb, hxe, hye, ↓va0, ↓va1, ↓va2, ↓va3, vb0, vb1, vb2, vb3, vb4, vb5, vb6, vb7, vb8, vb9, vb10, vz0, vz1, vy0, vx0, ↓reduceIte, Nat.reduceBEq, Nat.reduceEqDiff, Nat.reduceLT, Nat.reduceLeDiff, Nat.reduceAdd, Nat.reduceMul, Nat.reduceSub, reduceCtorEq, Int.reduceToNat]) | (refine Br.mk (fun h => ?_) (fun h => ?_)) | (refine BrN.mk (fun h => ?_) ?_) | (refine AltVC.mk ?_ ?_))))
    all_goals
      exact bl_fin _ _ (by simp (disch := (first | omega | (simp only [vlen]; first | done | omega))) only [vgc, ↓va0, ↓va1, ↓va2, ↓va3, vb0, vb1, vb2, vb3, vb4, vb5, vb6, vb7, vb8, vb9, vb10, vz0, vz1, vy0, vx0, ↓reduceIte, Nat.reduceBEq, Nat.reduceEqDiff, Nat.reduceLT, Nat.reduceLeDiff, Nat.reduceAdd, Nat.reduceMul, Nat.reduceSub, reduceCtorEq, Int.reduceToNat]) (by unfold glO; simp (disch := (first | omega | (simp only [vlen]; first | done | omega))) only [vgc, ↓va0, ↓va1, ↓va2, ↓va3, vb0, vb1, vb2, vb3, vb4, vb5, vb6, vb7, vb8, vb9, vb10, vz0, vz1, vy0, vx0, ↓reduceIte, Nat.reduceBEq, Nat.reduceEqDiff, Nat.reduceLT, Nat.reduceLeDiff, Nat.reduceAdd, Nat.reduceMul, Nat.reduceSub, reduceCtorEq, Int.reduceToNat]) (by rw [psD_eq]) hbl (by show u2.syms.length ≤ _; rw [hB]; omega)
  · obtain ⟨h4a, h4b⟩ := hk4 (by omega)
    obtain ⟨h5a, h5b⟩ := hk5 (.inr hk)
    obtain ⟨a, ha⟩ : ∃ a : Nat, nd.a = a := ⟨nd.a.toNat, by omega⟩
    obtain ⟨b, hb⟩ : ∃ b : Nat, nd.b = b := ⟨nd.b.toNat, by omega⟩
    have hpa : 0 < 2 ^ a := Nat.pow_pos (by omega)
    have hpb : 0 < 2 ^ b := Nat.pow_pos (by omega)
    have hab := two_pow2 (a := a) (b := b) (i := i) (by omega) (by omega)
    have hIa := fun u (hu : u.syms.length + 2 ^ a ≤ 300) => build_spec k0 l hv hl a (by omega) u hu
    have hIb := fun u (hu : u.syms.length + 2 ^ b ≤ 300) => build_spec k0 l hv hl b (by omega) u hu
    rw [hB] at hab
    repeat' first | (refine Br.dec (fun h => ?_) (fun h => ?_) <;> try (exfalso; omega)) | (refine Br.eqi (fun h => ?_) (fun h => ?_) <;> try (exfalso; omega)) | (simp (disch := (first | omega | (simp only [vlen]; first | done | omega))) only [vgc, hnd, ha, hb, ↓va0, ↓va1, ↓va2, ↓va3, vb0, vb1, vb2, vb3, vb4, vb5, vb6, vb7, vb8, vb9, vb10, vz0, vz1, vy0, vx0, ↓reduceIte, Nat.reduceBEq, Nat.reduceEqDiff, Nat.reduceLT, Nat.reduceLeDiff, Nat.reduceAdd, Nat.reduceMul, Nat.reduceSub, reduceCtorEq, Int.reduceToNat]) | (refine Br.mk (fun h => ?_) (fun h => ?_)) | (refine BrN.mk (fun h => ?_) ?_) | (refine AltVC.mk ?_ ?_)
    all_goals first | (exfalso; omega; done) | skip
    refine CallVC.lendE [0, 1, 2] [.ptr 0 9 0 0, iv .i64 a] (glO l u) (hIa u (by omega)) (by simp) (by rfl) (by unfold glO; (simp (disch := (first | omega | (simp only [vlen]; first | done | omega))) only [vle0, ↓va0, ↓va1, ↓va2, ↓va3, vb0, vb1, vb2, vb3, vb4, vb5, vb6, vb7, vb8, vb9, vb10, vz0, vz1, vy0, vx0, ↓reduceIte, Nat.reduceBEq, Nat.reduceEqDiff, Nat.reduceLT, Nat.reduceLeDiff, Nat.reduceAdd, Nat.reduceMul, Nat.reduceSub, reduceCtorEq, Int.reduceToNat] <;> (repeat' first | rfl | apply And.intro))) ?_
    rintro _ _ ⟨x, u1, rfl, rfl, hx, hn1⟩
    unfold glO
    repeat' first | (refine Br.dec (fun h => ?_) (fun h => ?_) <;> try (exfalso; omega)) | (refine Br.eqi (fun h => ?_) (fun h => ?_) <;> try (exfalso; omega)) | (simp (disch := (first | omega | (simp only [vlen]; first | done | omega))) only [vgc, hnd, ha, hb, ↓va0, ↓va1, ↓va2, ↓va3, vb0, vb1, vb2, vb3, vb4, vb5, vb6, vb7, vb8, vb9, vb10, vz0, vz1, vy0, vx0, ↓reduceIte, Nat.reduceBEq, Nat.reduceEqDiff, Nat.reduceLT, Nat.reduceLeDiff, Nat.reduceAdd, Nat.reduceMul, Nat.reduceSub, reduceCtorEq, Int.reduceToNat]) | (refine Br.mk (fun h => ?_) (fun h => ?_)) | (refine BrN.mk (fun h => ?_) ?_) | (refine AltVC.mk ?_ ?_)
    refine CallVC.lendE [0, 1, 2] [.ptr 0 9 0 0, iv .i64 b] (glO l u1) (hIb u1 (by omega)) (by simp) (by rfl) (by unfold glO; (simp (disch := (first | omega | (simp only [vlen]; first | done | omega))) only [vle0, ↓va0, ↓va1, ↓va2, ↓va3, vb0, vb1, vb2, vb3, vb4, vb5, vb6, vb7, vb8, vb9, vb10, vz0, vz1, vy0, vx0, ↓reduceIte, Nat.reduceBEq, Nat.reduceEqDiff, Nat.reduceLT, Nat.reduceLeDiff, Nat.reduceAdd, Nat.reduceMul, Nat.reduceSub, reduceCtorEq, Int.reduceToNat] <;> (repeat' first | rfl | apply And.intro))) ?_
    rintro _ _ ⟨y, u2, rfl, rfl, hy, hn2⟩
    unfold glO
    repeat' first | (refine Br.dec (fun h => ?_) (fun h => ?_) <;> try (exfalso; omega)) | (refine Br.eqi (fun h => ?_) (fun h => ?_) <;> try (exfalso; omega)) | (simp (disch := (first | omega | (simp only [vlen]; first | done | omega))) only [vgc, hnd, ha, hb, ↓va0, ↓va1, ↓va2, ↓va3, vb0, vb1, vb2, vb3, vb4, vb5, vb6, vb7, vb8, vb9, vb10, vz0, vz1, vy0, vx0, ↓reduceIte, Nat.reduceBEq, Nat.reduceEqDiff, Nat.reduceLT, Nat.reduceLeDiff, Nat.reduceAdd, Nat.reduceMul, Nat.reduceSub, reduceCtorEq, Int.reduceToNat]) | (refine Br.mk (fun h => ?_) (fun h => ?_)) | (refine BrN.mk (fun h => ?_) ?_) | (refine AltVC.mk ?_ ?_)
    have hbl : Bl l i u _ _ := .or (by rw [hnd]; exact hk) (by rw [hnd, ha]; exact hx) (by rw [hnd, hb]; exact hy)
    refine CallP.eq (gOr_spec x.first y.first) (fun h => by cases h) ?_
    repeat' first | (refine Br.dec (fun h => ?_) (fun h => ?_) <;> try (exfalso; omega)) | (refine Br.eqi (fun h => ?_) (fun h => ?_) <;> try (exfalso; omega)) | (simp (disch := (first | omega | (simp only [vlen]; first | done | omega))) only [vgc, hnd, ha, hb, ↓va0, ↓va1, ↓va2, ↓va3, vb0, vb1, vb2, vb3, vb4, vb5, vb6, vb7, vb8, vb9, vb10, vz0, vz1, vy0, vx0, ↓reduceIte, Nat.reduceBEq, Nat.reduceEqDiff, Nat.reduceLT, Nat.reduceLeDiff, Nat.reduceAdd, Nat.reduceMul, Nat.reduceSub, reduceCtorEq, Int.reduceToNat]) | (refine Br.mk (fun h => ?_) (fun h => ?_)) | (refine BrN.mk (fun h => ?_) ?_) | (refine AltVC.mk ?_ ?_)
    refine CallP.eq (gOr_spec x.last y.last) (fun h => by cases h) ?_
    repeat' first | (refine Br.dec (fun h => ?_) (fun h => ?_) <;> try (exfalso; omega)) | (refine Br.eqi (fun h => ?_) (fun h => ?_) <;> try (exfalso; omega)) | (simp (disch := (first | omega | (simp only [vlen]; first | done | omega))) only [vgc, hnd, ha, hb, ↓va0, ↓va1, ↓va2, ↓va3, vb0, vb1, vb2, vb3, vb4, vb5, vb6, vb7, vb8, vb9, vb10, vz0, vz1, vy0, vx0, ↓reduceIte, Nat.reduceBEq, Nat.reduceEqDiff, Nat.reduceLT, Nat.reduceLeDiff, Nat.reduceAdd, Nat.reduceMul, Nat.reduceSub, reduceCtorEq, Int.reduceToNat]) | (refine Br.mk (fun h => ?_) (fun h => ?_)) | (refine BrN.mk (fun h => ?_) ?_) | (refine AltVC.mk ?_ ?_)
    exact bl_fin _ _ (by simp (disch := (first | omega | (simp only [vlen]; first | done | omega))) only [vgc, ↓va0, ↓va1, ↓va2, ↓va3, vb0, vb1, vb2, vb3, vb4, vb5, vb6, vb7, vb8, vb9, vb10, vz0, vz1, vy0, vx0, ↓reduceIte, Nat.reduceBEq, Nat.reduceEqDiff, Nat.reduceLT, Nat.reduceLeDiff, Nat.reduceAdd, Nat.reduceMul, Nat.reduceSub, reduceCtorEq, Int.reduceToNat]) (by unfold glO; simp (disch := (first | omega | (simp only [vlen]; first | done | omega))) only [vgc, ↓va0, ↓va1, ↓va2, ↓va3, vb0, vb1, vb2, vb3, vb4, vb5, vb6, vb7, vb8, vb9, vb10, vz0, vz1, vy0, vx0, ↓reduceIte, Nat.reduceBEq, Nat.reduceEqDiff, Nat.reduceLT, Nat.reduceLeDiff, Nat.reduceAdd, Nat.reduceMul, Nat.reduceSub, reduceCtorEq, Int.reduceToNat]) (by rw [psD_eq]) hbl (by show u2.syms.length ≤ _; rw [hB]; omega)
  · obtain ⟨h4a, h4b⟩ := hk4 (by omega)
    obtain ⟨a, ha⟩ : ∃ a : Nat, nd.a = a := ⟨nd.a.toNat, by omega⟩
    have hpa : 0 < 2 ^ a := Nat.pow_pos (by omega)
    have hab := two_pow2 (a := a) (b := a) (i := i) (by omega) (by omega)
    have hIa := fun u (hu : u.syms.length + 2 ^ a ≤ 300) => build_spec k0 l hv hl a (by omega) u hu
    rw [hB] at hab
    repeat' first | (refine Br.dec (fun h => ?_) (fun h => ?_) <;> try (exfalso; omega)) | (refine Br.eqi (fun h => ?_) (fun h => ?_) <;> try (exfalso; omega)) | (simp (disch := (first | omega | (simp only [vlen]; first | done | omega))) only [vgc, hnd, ha, ↓va0, ↓va1, ↓va2, ↓va3, vb0, vb1, vb2, vb3, vb4, vb5, vb6, vb7, vb8, vb9, vb10, vz0, vz1, vy0, vx0, ↓reduceIte, Nat.reduceBEq, Nat.reduceEqDiff, Nat.reduceLT, Nat.reduceLeDiff, Nat.reduceAdd, Nat.reduceMul, Nat.reduceSub, reduceCtorEq, Int.reduceToNat]) | (refine Br.mk (fun h => ?_) (fun h => ?_)) | (refine BrN.mk (fun h => ?_) ?_) | (refine AltVC.mk ?_ ?_)
    all_goals first | (exfalso; omega; done) | skip
    refine CallVC.lendE [0, 1, 2] [.ptr 0 9 0 0, iv .i64 a] (glO l u) (hIa u (by omega)) (by simp) (by rfl) (by unfold glO; (simp (disch := (first | omega | (simp only [vlen]; first | done | omega))) only [vle0, ↓va0, ↓va1, ↓va2, ↓va3, vb0, vb1, vb2, vb3, vb4, vb5, vb6, vb7, vb8, vb9, vb10, vz0, vz1, vy0, vx0, ↓reduceIte, Nat.reduceBEq, Nat.reduceEqDiff, Nat.reduceLT, Nat.reduceLeDiff, Nat.reduceAdd, Nat.reduceMul, Nat.reduceSub, reduceCtorEq, Int.reduceToNat] <;> (repeat' first | rfl | apply And.intro))) ?_
    rintro _ _ ⟨x, u1, rfl, rfl, hx, hn1⟩
    unfold glO
    repeat' first | (refine Br.dec (fun h => ?_) (fun h => ?_) <;> try (exfalso; omega)) | (refine Br.eqi (fun h => ?_) (fun h => ?_) <;> try (exfalso; omega)) | (simp (disch := (first | omega | (simp only [vlen]; first | done | omega))) only [vgc, hnd, ha, ↓va0, ↓va1, ↓va2, ↓va3, vb0, vb1, vb2, vb3, vb4, vb5, vb6, vb7, vb8, vb9, vb10, vz0, vz1, vy0, vx0, ↓reduceIte, Nat.reduceBEq, Nat.reduceEqDiff, Nat.reduceLT, Nat.reduceLeDiff, Nat.reduceAdd, Nat.reduceMul, Nat.reduceSub, reduceCtorEq, Int.reduceToNat]) | (refine Br.mk (fun h => ?_) (fun h => ?_)) | (refine BrN.mk (fun h => ?_) ?_) | (refine AltVC.mk ?_ ?_)
    refine CallVC.lendE [0, 1, 2] [.ptr 0 9 0 0, .ag (gsD x.last), .ag (gsD x.first)] (glO l u1) (join_spec l u1 (by omega) x.last x.first) (by simp) (by rfl) (by unfold glO gsD gw; (simp (disch := (first | omega | (simp only [vlen]; first | done | omega))) only [vle0, ↓va0, ↓va1, ↓va2, ↓va3, vb0, vb1, vb2, vb3, vb4, vb5, vb6, vb7, vb8, vb9, vb10, vz0, vz1, vy0, vx0, ↓reduceIte, Nat.reduceBEq, Nat.reduceEqDiff, Nat.reduceLT, Nat.reduceLeDiff, Nat.reduceAdd, Nat.reduceMul, Nat.reduceSub, reduceCtorEq, Int.reduceToNat] <;> (repeat' first | rfl | apply And.intro))) ?_
    rintro _ _ ⟨rfl, rfl⟩
    unfold glO
    repeat' first | (refine Br.dec (fun h => ?_) (fun h => ?_) <;> try (exfalso; omega)) | (refine Br.eqi (fun h => ?_) (fun h => ?_) <;> try (exfalso; omega)) | (simp (disch := (first | omega | (simp only [vlen]; first | done | omega))) only [vgc, hnd, ha, ↓va0, ↓va1, ↓va2, ↓va3, vb0, vb1, vb2, vb3, vb4, vb5, vb6, vb7, vb8, vb9, vb10, vz0, vz1, vy0, vx0, ↓reduceIte, Nat.reduceBEq, Nat.reduceEqDiff, Nat.reduceLT, Nat.reduceLeDiff, Nat.reduceAdd, Nat.reduceMul, Nat.reduceSub, reduceCtorEq, Int.reduceToNat]) | (refine Br.mk (fun h => ?_) (fun h => ?_)) | (refine BrN.mk (fun h => ?_) ?_) | (refine AltVC.mk ?_ ?_)
    have hbl : Bl l i u _ _ := .star (by rw [hnd]; exact hk) (by rw [hnd, ha]; exact hx)
    refine DrawVC.u ?_
    repeat' first | (refine Br.dec (fun h => ?_) (fun h => ?_) <;> try (exfalso; omega)) | (refine Br.eqi (fun h => ?_) (fun h => ?_) <;> try (exfalso; omega)) | (simp (disch := (first | omega | (simp only [vlen]; first | done | omega))) only [vgc, hnd, ha, ↓va0, ↓va1, ↓va2, ↓va3, vb0, vb1, vb2, vb3, vb4, vb5, vb6, vb7, vb8, vb9, vb10, vz0, vz1, vy0, vx0, ↓reduceIte, Nat.reduceBEq, Nat.reduceEqDiff, Nat.reduceLT, Nat.reduceLeDiff, Nat.reduceAdd, Nat.reduceMul, Nat.reduceSub, reduceCtorEq, Int.reduceToNat]) | (refine Br.mk (fun h => ?_) (fun h => ?_)) | (refine BrN.mk (fun h => ?_) ?_) | (refine AltVC.mk ?_ ?_)
    all_goals exact bl_fin _ _ (by simp (disch := (first | omega | (simp only [vlen]; first | done | omega))) only [vgc, ↓va0, ↓va1, ↓va2, ↓va3, vb0, vb1, vb2, vb3, vb4, vb5, vb6, vb7, vb8, vb9, vb10, vz0, vz1, vy0, vx0, ↓reduceIte, Nat.reduceBEq, Nat.reduceEqDiff, Nat.reduceLT, Nat.reduceLeDiff, Nat.reduceAdd, Nat.reduceMul, Nat.reduceSub, reduceCtorEq, Int.reduceToNat]) (by unfold glO; simp (disch := (first | omega | (simp only [vlen]; first | done | omega))) only [vgc, ↓va0, ↓va1, ↓va2, ↓va3, vb0, vb1, vb2, vb3, vb4, vb5, vb6, vb7, vb8, vb9, vb10, vz0, vz1, vy0, vx0, ↓reduceIte, Nat.reduceBEq, Nat.reduceEqDiff, Nat.reduceLT, Nat.reduceLeDiff, Nat.reduceAdd, Nat.reduceMul, Nat.reduceSub, reduceCtorEq, Int.reduceToNat]) (by rw [psD_eq]) hbl (by show u1.syms.length ≤ _; rw [hB]; omega)
termination_by i
end Go.Proofs.Ytmhpfgklfpgniaa
