/-
  glyph.Make.
-/
import Derived.Test.YtmhpfgklfpgniaaGlyphB
namespace Go.Proofs.Ytmhpfgklfpgniaa
open Go.Dm
set_option linter.unusedSimpArgs false
set_option linter.unnecessarySimpa false
set_option linter.unusedVariables false
set_option linter.defProp false
def au0 : Au := ⟨[-1], fun _ _ => false⟩
/-- What is known of the positions of an expression. -/
structure Gl where
  syms : List Int
  fol : Nat → Nat → Bool
  last : Nat → Bool
def glD (g : Gl) : List D := [.sl 1 (i64s g.syms), .sl 5 (gsR g.syms.length g.fol)] ++ gsD g.last
theorem glD_eq {g : Gl} : glD g = [.sl 1 (i64s g.syms), .sl 5 (gsR g.syms.length g.fol), .v (.int .u64 (gwN g.last 0)), .v (.int .u64 (gwN g.last 1)), .v (.int .u64 (gwN g.last 2)), .v (.int .u64 (gwN g.last 3)), .v (.int .u64 (gwN g.last 4))] := (rfl)
def glOf (x : Ps) (u : Au) : Gl := ⟨u.syms, fun p => if p = 0 then x.first else u.fol p, if x.empty then gAdd x.last 0 else x.last⟩
def mkR (l : List Dm.Node) (d : D) : Prop := ∃ x u, d = .ag (glD (glOf x u)) ∧ Bl l (l.length - 1) au0 x u ∧ u.syms.length ≤ 257
theorem kBldS_rr5 {cells : List D} {off : Nat} {τ s1 o1 n1 υ s2 o2 n2 : Nat} {go : List D → Prop} : kBldS off 7 cells go [.ref τ s1 o1 n1, .ref υ s2 o2 n2, .v (.int .u64 0), .v (.int .u64 0), .v (.int .u64 0), .v (.int .u64 0), .v (.int .u64 0)] = ChkD (off + 7 ≤ cells.length) (splice cells off [.ref τ s1 o1 n1, .ref υ s2 o2 n2, .v (.int .u64 0), .v (.int .u64 0), .v (.int .u64 0), .v (.int .u64 0), .v (.int .u64 0)]) go := by
  rw [kBldS_n]; unfold ChkD; simp [D.one, Value.one]
theorem glO0 {l : List Dm.Node} : glO l au0 = [⟨9, [[.sl 3 (tbl nodD l), .sl 1 (bls (bt l.length (ebB l))), .ref 1 1 0 1, .ref 2 5 0 1, .v (.int .u64 0), .v (.int .u64 0), .v (.int .u64 0), .v (.int .u64 0), .v (.int .u64 0)]], false, false, .fix⟩, ⟨1, [[.v (.int .i64 (-1))]], true, false, .arr⟩, ⟨5, [[.v (.int .u64 0), .v (.int .u64 0), .v (.int .u64 0), .v (.int .u64 0), .v (.int .u64 0)]], true, false, .arr⟩] := by
  have e : gsR 1 (fun _ _ => false) = [[.v (.int .u64 0), .v (.int .u64 0), .v (.int .u64 0), .v (.int .u64 0), .v (.int .u64 0)]] := by
    rw [← gs_zero]; rfl
  have e2 : glO l au0 = [⟨9, [[.sl 3 (tbl nodD l), .sl 1 (bls (bt l.length (ebB l))), .ref 1 1 0 1, .ref 2 5 0 1, .v (.int .u64 0), .v (.int .u64 0), .v (.int .u64 0), .v (.int .u64 0), .v (.int .u64 0)]], false, false, .fix⟩, ⟨1, i64s [-1], true, false, .arr⟩, ⟨5, gsR 1 (fun _ _ => false), true, false, .arr⟩] := rfl
  rw [e2, e]; rfl
theorem bl_grow {l : List Dm.Node} {i : Nat} {u u' : Au} {x : Ps} (h : Bl l i u x u') : ∃ t, u'.syms = u.syms ++ t := by
  induction h with
  | none _ => exact ⟨[], by simp⟩
  | sym _ => exact ⟨_, rfl⟩
  | cat _ _ _ ih1 ih2 =>
    obtain ⟨t1, e1⟩ := ih1
    obtain ⟨t2, e2⟩ := ih2
    exact ⟨t1 ++ t2, by show _ = _; rw [e2, e1, List.append_assoc]⟩
  | or _ _ _ ih1 ih2 =>
    obtain ⟨t1, e1⟩ := ih1
    obtain ⟨t2, e2⟩ := ih2
    exact ⟨t1 ++ t2, by rw [e2, e1, List.append_assoc]⟩
  | star _ _ ih => exact ih
theorem viewO_gs {n : Nat} {f : Nat → Nat → Bool} : viewO (some ⟨5, gsR n f, true, false, .arr⟩) 5 0 n = .sl 5 (gsR n f) := viewO_all (by rw [gsR_len])
def vgm := And.intro @viewO_gs <| And.intro vgc @kBldS_rr5
set_option maxRecDepth 10000 in
set_option maxHeartbeats 4000000 in
theorem gMake_spec (k0 : Int) (l : List Dm.Node) (hv : NodesOk k0 l) (hl : 0 < l.length ∧ l.length ≤ 9) : Dm.Spec Try.prog 45 [.sl 3 (tbl nodD l)] (mkR l) := by
  refine spec_of_vc mixed Try.func45 c45 (by rw [show Try.f45.ntmps = _ from Try.ntmps45]; simp) ?_
  unfold m45 r45
  have hm1 : (l.length : Int) - 1 = ((l.length - 1 : Nat) : Int) := by omega
  have hp : 2 ^ (l.length - 1) ≤ 256 := Nat.le_trans (Nat.pow_le_pow_right (by omega) (show l.length - 1 ≤ 8 by omega)) (by decide)
  have hB := build_spec k0 l hv hl.2 (l.length - 1) (by omega) au0 (by show 1 + _ ≤ 300; omega)
  rw [glO0] at hB
  repeat' first | (refine Br.dec (fun h => ?_) (fun h => ?_) <;> try (exfalso; omega)) | (refine Br.eqi (fun h => ?_) (fun h => ?_) <;> try (exfalso; omega)) | (simp (disch := (first | omega | (simp only [vlen]; first | done | omega))) only [vgm, ↓va0, ↓va1, ↓va2, ↓va3, vb0, vb1, vb2, vb3, vb4, vb5, vb6, vb7, vb8, vb9, vb10, vz0, vz1, vy0, vx0, ↓reduceIte, Nat.reduceBEq, Nat.reduceEqDiff, Nat.reduceLT, Nat.reduceLeDiff, Nat.reduceAdd, Nat.reduceMul, Nat.reduceSub, reduceCtorEq, Int.reduceToNat]) | (refine Br.mk (fun h => ?_) (fun h => ?_)) | (refine BrN.mk (fun h => ?_) ?_) | (refine AltVC.mk ?_ ?_)
  refine CallVC.eq (hollow_spec k0 l hv (by omega)) ?_
  repeat' first | (refine Br.dec (fun h => ?_) (fun h => ?_) <;> try (exfalso; omega)) | (refine Br.eqi (fun h => ?_) (fun h => ?_) <;> try (exfalso; omega)) | (simp (disch := (first | omega | (simp only [vlen]; first | done | omega))) only [vgm, hm1, ↓va0, ↓va1, ↓va2, ↓va3, vb0, vb1, vb2, vb3, vb4, vb5, vb6, vb7, vb8, vb9, vb10, vz0, vz1, vy0, vx0, ↓reduceIte, Nat.reduceBEq, Nat.reduceEqDiff, Nat.reduceLT, Nat.reduceLeDiff, Nat.reduceAdd, Nat.reduceMul, Nat.reduceSub, reduceCtorEq, Int.reduceToNat]) | (refine Br.mk (fun h => ?_) (fun h => ?_)) | (refine BrN.mk (fun h => ?_) ?_) | (refine AltVC.mk ?_ ?_)
  refine CallVC.lendE [3, 1, 2] [.ptr 0 9 0 0, iv .i64 (l.length - 1 : Nat)] _ hB (by simp) (by rfl) (by (simp (disch := (first | omega | (simp only [vlen]; first | done | omega))) only [vle0, ↓va0, ↓va1, ↓va2, ↓va3, vb0, vb1, vb2, vb3, vb4, vb5, vb6, vb7, vb8, vb9, vb10, vz0, vz1, vy0, vx0, ↓reduceIte, Nat.reduceBEq, Nat.reduceEqDiff, Nat.reduceLT, Nat.reduceLeDiff, Nat.reduceAdd, Nat.reduceMul, Nat.reduceSub, reduceCtorEq, Int.reduceToNat] <;> (repeat' first | rfl | apply And.intro))) ?_
  rintro _ _ ⟨x, u, rfl, rfl, hbl, hn⟩
  unfold glO
  have hn1 : u.syms.length ≤ 257 := by
    have e : au0.syms.length = 1 := rfl
    omega
  have hn0 : 0 < u.syms.length := by
    obtain ⟨t, e⟩ := bl_grow hbl
    rw [e, List.length_append]
    have e : au0.syms.length = 1 := rfl
    omega
  have hW := gWith_spec x.last 0 (by omega)
  have hg : gsR u.syms.length (fun j => if j = 0 then x.first else u.fol j) = gsR u.syms.length (glOf x u).fol := rfl
  cases hxe : x.empty
  · have hl : (glOf x u).last = x.last := by unfold glOf; rw [hxe]; rfl
    repeat' first | (refine Br.dec (fun h => ?_) (fun h => ?_) <;> try (exfalso; omega)) | (refine Br.eqi (fun h => ?_) (fun h => ?_) <;> try (exfalso; omega)) | (simp (disch := (first | omega | (simp only [vlen]; first | done | omega))) only [vgm, hm1, hxe, ↓va0, ↓va1, ↓va2, ↓va3, vb0, vb1, vb2, vb3, vb4, vb5, vb6, vb7, vb8, vb9, vb10, vz0, vz1, vy0, vx0, ↓reduceIte, Nat.reduceBEq, Nat.reduceEqDiff, Nat.reduceLT, Nat.reduceLeDiff, Nat.reduceAdd, Nat.reduceMul, Nat.reduceSub, reduceCtorEq, Int.reduceToNat]) | (refine Br.mk (fun h => ?_) (fun h => ?_)) | (refine BrN.mk (fun h => ?_) ?_) | (refine AltVC.mk ?_ ?_)
    exact fin_mk ⟨x, u, by rw [glD_eq, hl]; rfl, hbl, hn1⟩
  · have hl : (glOf x u).last = gAdd x.last 0 := by unfold glOf; rw [hxe]; rfl
    repeat' first | (refine Br.dec (fun h => ?_) (fun h => ?_) <;> try (exfalso; omega)) | (refine Br.eqi (fun h => ?_) (fun h => ?_) <;> try (exfalso; omega)) | (simp (disch := (first | omega | (simp only [vlen]; first | done | omega))) only [vgm, hm1, hxe, ↓va0, ↓va1, ↓va2, ↓va3, vb0, vb1, vb2, vb3, vb4, vb5, vb6, vb7, vb8, vb9, vb10, vz0, vz1, vy0, vx0, ↓reduceIte, Nat.reduceBEq, Nat.reduceEqDiff, Nat.reduceLT, Nat.reduceLeDiff, Nat.reduceAdd, Nat.reduceMul, Nat.reduceSub, reduceCtorEq, Int.reduceToNat]) | (refine Br.mk (fun h => ?_) (fun h => ?_)) | (refine BrN.mk (fun h => ?_) ?_) | (refine AltVC.mk ?_ ?_)
    refine CallVC.eq hW ?_
    repeat' first | (refine Br.dec (fun h => ?_) (fun h => ?_) <;> try (exfalso; omega)) | (refine Br.eqi (fun h => ?_) (fun h => ?_) <;> try (exfalso; omega)) | (simp (disch := (first | omega | (simp only [vlen]; first | done | omega))) only [vgm, hm1, hxe, ↓va0, ↓va1, ↓va2, ↓va3, vb0, vb1, vb2, vb3, vb4, vb5, vb6, vb7, vb8, vb9, vb10, vz0, vz1, vy0, vx0, ↓reduceIte, Nat.reduceBEq, Nat.reduceEqDiff, Nat.reduceLT, Nat.reduceLeDiff, Nat.reduceAdd, Nat.reduceMul, Nat.reduceSub, reduceCtorEq, Int.reduceToNat]) | (refine Br.mk (fun h => ?_) (fun h => ?_)) | (refine BrN.mk (fun h => ?_) ?_) | (refine AltVC.mk ?_ ?_)
    exact fin_mk ⟨x, u, by rw [glD_eq, hl]; rfl, hbl, hn1⟩
end Go.Proofs.Ytmhpfgklfpgniaa
