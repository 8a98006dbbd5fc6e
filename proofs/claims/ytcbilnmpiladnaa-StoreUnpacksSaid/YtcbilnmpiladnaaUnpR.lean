/-
  coppicerref.Unpacked: a thicket out of bytes, found anew.
-/
import Derived.Test.YtcbilnmpiladnaaUnpW
namespace Go.Proofs.Ytcbilnmpiladnaa
open Go.Dm
set_option linter.unusedSimpArgs false
set_option linter.unnecessarySimpa false
set_option linter.unusedVariables false
set_option linter.defProp false
theorem pWays_le {n : Nat} {l : List Int} {y : List (List Int) × List Int} (h : pWays n l = some y) (hl : Rg6 l) : n ≤ l.length := by
  have := pWays_rg h hl; omega
theorem pSpots_short {n : Nat} {l : List Int} (h : l.length < 4) : pSpots (n + 1) l = none := by
  match l, h with
  | [], _ => rfl
  | [_], _ => rfl
  | [_, _], _ => rfl
  | [_, _, _], _ => rfl
theorem pSpots_step {n : Nat} {l : List Int} (h : 4 ≤ l.length) : pSpots (n + 1) l = match pWays (l.getD 3 0).toNat (l.drop 4) with
    | none => none
    | some y => (pSpots n y.2).map fun x => (⟨l.getD 0 0, l.getD 1 0, l.getD 2 0, y.1⟩ :: x.1, x.2) := by
  match l, h with
  | a :: b :: c :: d :: r, _ => rfl
theorem pWays_step {n : Nat} {l : List Int} (h : 1 ≤ l.length) : pWays (n + 1) l = if l.length - 1 < (l.getD 0 0).toNat then none else (pWays n (l.drop (1 + (l.getD 0 0).toNat))).map fun x => ((l.drop 1).take (l.getD 0 0).toNat :: x.1, x.2) := by
  match l, h with
  | a :: r, _ => simp only [pWays, List.length_cons, List.getD_cons_zero, Nat.add_sub_cancel, List.drop_succ_cons, List.drop_zero, Nat.add_comm 1]
theorem pAll_step {l : List Int} (h : 2 ≤ l.length) : pAll l = (pSpots (l.getD 1 0).toNat (l.drop 2)).map fun x => (⟨x.1, l.getD 0 0⟩, x.2) := by
  match l, h with
  | a :: m :: r, _ => rfl
def uR (c : List UInt8) (d : D) : Prop := (∃ t, pAll (ns c) = some (t, []) ∧ c.length % 2 = 0 ∧ Good t ∧ d = .tu [.ag (thiD t), .v (.bool true)]) ∨ ((∀ t, pAll (ns c) = some (t, []) → c.length % 2 = 0 → ¬ Good t) ∧ (d = .tu [.ag [.nl, iv .i64 0], .v (.bool false)] ∨ ∃ t, d = .tu [.ag (thiD t), .v (.bool false)]))
def urO (r : Int) (S : List Dm.Spot) : List (Nat × Ob) := [(0, ⟨2, [[.nl, iv .i64 0]], true, false, .fix⟩), (2, ⟨2, [[.own false 4 (tbl spoD S), iv .i64 r]], true, true, .fix⟩)]
set_option maxRecDepth 10000 in
set_option maxHeartbeats 4000000 in
theorem unpacked_spec (c : List UInt8) (hc : c.length ≤ 4000) : Dm.Spec Try.prog 14 [.sl 1 (u8s c)] (uR c) := by
  refine spec_of_vc mixed Try.func14 c14 (by rw [show Try.f14.ntmps = _ from Try.ntmps14]; simp) ?_
  unfold m14 r14
  have hnl := ns_len c
  repeat' first | (refine Br.dec (fun h => ?_) (fun h => ?_) <;> try (exfalso; omega)) | (refine Br.eqi (fun h => ?_) (fun h => ?_) <;> try (exfalso; omega)) | (simp (disch := (first | omega | (simp only [vlen]; first | done | omega))) only [vuw, ↓va0, ↓va1, ↓va2, ↓va3, vb0, vb1, vb2, vb3, vb4, vb5, vb6, vb7, vb8, vb9, vb10, vz0, vz1, vy0, vx0, ↓reduceIte, Nat.reduceBEq, Nat.reduceEqDiff, Nat.reduceLT, Nat.reduceLeDiff, Nat.reduceAdd, Nat.reduceMul, Nat.reduceSub, reduceCtorEq, Int.reduceToNat]) | (refine Br.mk (fun h => ?_) (fun h => ?_)) | (refine BrN.mk (fun h => ?_) ?_) | (refine AltVC.mk ?_ ?_)
  refine LoopVC.mk (X := Nat) (fun p => [(4, .ref 1 1 0 p), (5, iv .i64 (2 * p : Nat))]) (fun p => [(0, ⟨2, [[.nl, iv .i64 0]], true, false, .fix⟩), (1, ⟨1, i64s ((ns c).take p), true, false, .arr⟩)]) (fun p => c.length / 2 - p) (fun p => p ≤ c.length / 2) 0 (Nat.zero_le _) ?_ ?_
  · (simp (disch := (first | omega | (simp only [vlen]; first | done | omega))) only [Fits_u, Fits_m, Fits_nil, List.length_append, vuw, ↓va0, ↓va1, ↓va2, ↓va3, vb0, vb1, vb2, vb3, vb4, vb5, vb6, vb7, vb8, vb9, vb10, vz0, vz1, vy0, vx0, ↓reduceIte, Nat.reduceBEq, Nat.reduceEqDiff, Nat.reduceLT, Nat.reduceLeDiff, Nat.reduceAdd, Nat.reduceMul, Nat.reduceSub, reduceCtorEq, Int.reduceToNat] <;> (repeat' first | rfl | apply And.intro))
    all_goals first | rfl | skip
  · intro p hp
    have hlt : ((ns c).take p).length = p := by rw [List.length_take]; omega
    by_cases hpl : p < c.length / 2
    · have hg := ns_get c p hpl
      have hs := take_succ_getD (l := ns c) (i := p) (by omega) 0
      have b1 := byte_le (c.getD (2 * p) 0)
      have b2 := byte_le (c.getD (2 * p + 1) 0)
      rw [hg] at hs
      repeat' first | (refine Br.dec (fun h => ?_) (fun h => ?_) <;> try (exfalso; omega)) | (refine Br.eqi (fun h => ?_) (fun h => ?_) <;> try (exfalso; omega)) | (simp (disch := (first | omega | (simp only [vlen]; first | done | omega))) only [vuw, hlt, ↓va0, ↓va1, ↓va2, ↓va3, vb0, vb1, vb2, vb3, vb4, vb5, vb6, vb7, vb8, vb9, vb10, vz0, vz1, vy0, vx0, ↓reduceIte, Nat.reduceBEq, Nat.reduceEqDiff, Nat.reduceLT, Nat.reduceLeDiff, Nat.reduceAdd, Nat.reduceMul, Nat.reduceSub, reduceCtorEq, Int.reduceToNat]) | (refine Br.mk (fun h => ?_) (fun h => ?_)) | (refine BrN.mk (fun h => ?_) ?_) | (refine AltVC.mk ?_ ?_)
      refine loopK.mk (p + 1) (by simp (disch := (first | omega | (simp only [vlen]; first | done | omega))) only [↓va0, ↓va1, ↓va2, ↓va3, vb0, vb1, vb2, vb3, vb4, vb5, vb6, vb7, vb8, vb9, vb10, vz0, vz1, vy0, vx0, ↓reduceIte, Nat.reduceBEq, Nat.reduceEqDiff, Nat.reduceLT, Nat.reduceLeDiff, Nat.reduceAdd, Nat.reduceMul, Nat.reduceSub, reduceCtorEq, Int.reduceToNat]) (by omega) (by omega) ?_
      have hcast : ((c.getD (2 * p) 0).toNat : Int) + 256 * ((c.getD (2 * p + 1) 0).toNat : Int) = (((c.getD (2 * p) 0).toNat + 256 * (c.getD (2 * p + 1) 0).toNat : Nat) : Int) := by omega
      rw [hcast, ← hs]
      (simp (disch := (first | omega | (simp only [vlen]; first | done | omega))) only [Fits_u, Fits_m, Fits_nil, List.length_append, vuw, hlt, ↓va0, ↓va1, ↓va2, ↓va3, vb0, vb1, vb2, vb3, vb4, vb5, vb6, vb7, vb8, vb9, vb10, vz0, vz1, vy0, vx0, ↓reduceIte, Nat.reduceBEq, Nat.reduceEqDiff, Nat.reduceLT, Nat.reduceLeDiff, Nat.reduceAdd, Nat.reduceMul, Nat.reduceSub, reduceCtorEq, Int.reduceToNat] <;> (repeat' first | rfl | apply And.intro))
      all_goals first | rfl | exact viEq (by omega) | skip
    · have e : p = c.length / 2 := by omega
      have hall : (ns c).take p = ns c := List.take_of_length_le (by omega)
      rw [hall]
      obtain ⟨L, hL⟩ : ∃ L, ns c = L := ⟨_, rfl⟩
      rw [hL] at hnl ⊢
      have hrg : Rg6 L := by rw [← hL]; exact fun x hx => ns_rg c x hx
      rw [e, ← hnl]
      by_cases hodd : c.length % 2 = 1
      · repeat' first | (refine Br.dec (fun h => ?_) (fun h => ?_) <;> try (exfalso; omega)) | (refine Br.eqi (fun h => ?_) (fun h => ?_) <;> try (exfalso; omega)) | (simp (disch := (first | omega | (simp only [vlen]; first | done | omega))) only [vuw, ↓va0, ↓va1, ↓va2, ↓va3, vb0, vb1, vb2, vb3, vb4, vb5, vb6, vb7, vb8, vb9, vb10, vz0, vz1, vy0, vx0, ↓reduceIte, Nat.reduceBEq, Nat.reduceEqDiff, Nat.reduceLT, Nat.reduceLeDiff, Nat.reduceAdd, Nat.reduceMul, Nat.reduceSub, reduceCtorEq, Int.reduceToNat]) | (refine Br.mk (fun h => ?_) (fun h => ?_)) | (refine BrN.mk (fun h => ?_) ?_) | (refine AltVC.mk ?_ ?_)
        exact fin_mk (.inr ⟨fun t _ h => by omega, .inl rfl⟩)
      · by_cases hl2 : L.length < 2
        · have hno : pAll L = none := by
            match L, hl2 with
            | [], _ => rfl
            | [_], _ => rfl
          repeat' first | (refine Br.dec (fun h => ?_) (fun h => ?_) <;> try (exfalso; omega)) | (refine Br.eqi (fun h => ?_) (fun h => ?_) <;> try (exfalso; omega)) | (simp (disch := (first | omega | (simp only [vlen]; first | done | omega))) only [vuw, ↓va0, ↓va1, ↓va2, ↓va3, vb0, vb1, vb2, vb3, vb4, vb5, vb6, vb7, vb8, vb9, vb10, vz0, vz1, vy0, vx0, ↓reduceIte, Nat.reduceBEq, Nat.reduceEqDiff, Nat.reduceLT, Nat.reduceLeDiff, Nat.reduceAdd, Nat.reduceMul, Nat.reduceSub, reduceCtorEq, Int.reduceToNat]) | (refine Br.mk (fun h => ?_) (fun h => ?_)) | (refine BrN.mk (fun h => ?_) ?_) | (refine AltVC.mk ?_ ?_)
          exact fin_mk (.inr ⟨(fun t h => by rw [hL, hno] at h; cases h), .inl rfl⟩)
        · have hps := pAll_step (l := L) (by omega)
          have hr1 := hrg _ (getD_mem' (l := L) (i := 1) (by omega))
          have hr0 := hrg _ (getD_mem' (l := L) (i := 0) (by omega))
          obtain ⟨mn, hmn⟩ : ∃ mn : Nat, L.getD 1 0 = mn := ⟨(L.getD 1 0).toNat, by have := hr1.1; change 0 ≤ L.getD 1 0 at this; omega⟩
          obtain ⟨rt, hrt⟩ : ∃ rt : Int, L.getD 0 0 = rt := ⟨_, rfl⟩
          have hmr : (mn : Int) ≤ 65535 := by rw [← hmn]; exact hr1.2
          rw [hmn, hrt, Int.toNat_natCast] at hps
          have hrg2 : Rg6 (L.drop 2) := fun x hx => hrg x (List.mem_of_mem_drop hx)
          by_cases hmany : L.length < mn
          · have hno : pAll L = none := by
              rw [hps]
              cases e : pSpots mn (L.drop 2) with
              | none => rfl
              | some y => have := pSpots_rg e hrg2; rw [List.length_drop] at this; omega
            repeat' first | (refine Br.dec (fun h => ?_) (fun h => ?_) <;> try (exfalso; omega)) | (refine Br.eqi (fun h => ?_) (fun h => ?_) <;> try (exfalso; omega)) | (simp (disch := (first | omega | (simp only [vlen]; first | done | omega))) only [vuw, hmn, ↓va0, ↓va1, ↓va2, ↓va3, vb0, vb1, vb2, vb3, vb4, vb5, vb6, vb7, vb8, vb9, vb10, vz0, vz1, vy0, vx0, ↓reduceIte, Nat.reduceBEq, Nat.reduceEqDiff, Nat.reduceLT, Nat.reduceLeDiff, Nat.reduceAdd, Nat.reduceMul, Nat.reduceSub, reduceCtorEq, Int.reduceToNat]) | (refine Br.mk (fun h => ?_) (fun h => ?_)) | (refine BrN.mk (fun h => ?_) ?_) | (refine AltVC.mk ?_ ?_)
            exact fin_mk (.inr ⟨(fun t h => by rw [hL, hno] at h; cases h), .inl rfl⟩)
          · repeat' first | (refine Br.dec (fun h => ?_) (fun h => ?_) <;> try (exfalso; omega)) | (refine Br.eqi (fun h => ?_) (fun h => ?_) <;> try (exfalso; omega)) | (simp (disch := (first | omega | (simp only [vlen]; first | done | omega))) only [vuw, hmn, hrt, ↓va0, ↓va1, ↓va2, ↓va3, vb0, vb1, vb2, vb3, vb4, vb5, vb6, vb7, vb8, vb9, vb10, vz0, vz1, vy0, vx0, ↓reduceIte, Nat.reduceBEq, Nat.reduceEqDiff, Nat.reduceLT, Nat.reduceLeDiff, Nat.reduceAdd, Nat.reduceMul, Nat.reduceSub, reduceCtorEq, Int.reduceToNat]) | (refine Br.mk (fun h => ?_) (fun h => ?_)) | (refine BrN.mk (fun h => ?_) ?_) | (refine AltVC.mk ?_ ?_)
            refine LoopVC.frz 1 ?_
            repeat' first | (refine Br.dec (fun h => ?_) (fun h => ?_) <;> try (exfalso; omega)) | (refine Br.eqi (fun h => ?_) (fun h => ?_) <;> try (exfalso; omega)) | (simp (disch := (first | omega | (simp only [vlen]; first | done | omega))) only [vuw, hmn, hrt, ↓va0, ↓va1, ↓va2, ↓va3, vb0, vb1, vb2, vb3, vb4, vb5, vb6, vb7, vb8, vb9, vb10, vz0, vz1, vy0, vx0, ↓reduceIte, Nat.reduceBEq, Nat.reduceEqDiff, Nat.reduceLT, Nat.reduceLeDiff, Nat.reduceAdd, Nat.reduceMul, Nat.reduceSub, reduceCtorEq, Int.reduceToNat]) | (refine Br.mk (fun h => ?_) (fun h => ?_)) | (refine BrN.mk (fun h => ?_) ?_) | (refine AltVC.mk ?_ ?_)
            refine LoopVC.nlo 2 0 0 4 ?_
            repeat' first | (refine Br.dec (fun h => ?_) (fun h => ?_) <;> try (exfalso; omega)) | (refine Br.eqi (fun h => ?_) (fun h => ?_) <;> try (exfalso; omega)) | (simp (disch := (first | omega | (simp only [vlen]; first | done | omega))) only [vuw, hmn, hrt, ↓va0, ↓va1, ↓va2, ↓va3, vb0, vb1, vb2, vb3, vb4, vb5, vb6, vb7, vb8, vb9, vb10, vz0, vz1, vy0, vx0, ↓reduceIte, Nat.reduceBEq, Nat.reduceEqDiff, Nat.reduceLT, Nat.reduceLeDiff, Nat.reduceAdd, Nat.reduceMul, Nat.reduceSub, reduceCtorEq, Int.reduceToNat]) | (refine Br.mk (fun h => ?_) (fun h => ?_)) | (refine BrN.mk (fun h => ?_) ?_) | (refine AltVC.mk ?_ ?_)
            obtain ⟨F, hF⟩ : ∃ F, pSpots mn (L.drop 2) = F := ⟨_, rfl⟩
            rw [hF] at hps
            have hbad : F = none → ∀ t, pAll (ns c) = some (t, []) → c.length % 2 = 0 → ¬ Good t := fun h t ht => by
              rw [hL, hps, h] at ht; cases ht
            have hd2 := List.length_drop (i := 2) (l := L)
            refine LoopVC.mk (X := Nat × List Dm.Spot × List Int) (fun x => [(4, .sl 1 (i64s x.2.2)), (6, .ptr 2 2 0 0), (8, iv .i64 x.1)]) (fun x => urO rt x.2.1) (fun x => mn - x.1) (fun x => x.1 ≤ mn ∧ x.2.1.length ≤ x.1 ∧ x.2.2.length ≤ 2000 ∧ Rg6 x.2.2 ∧ F = kS x.2.1 (pSpots (mn - x.1) x.2.2)) (0, [], L.drop 2) ⟨Nat.zero_le _, Nat.le_refl _, by show (L.drop 2).length ≤ 2000; omega, hrg2, by rw [← hF]; show _ = kS [] (pSpots mn (L.drop 2)); cases pSpots mn (L.drop 2) <;> rfl⟩ ?_ ?_
            · simp only [urO]
              (simp (disch := (first | omega | (simp only [vlen]; first | done | omega))) only [Fits_u, Fits_m, Fits_nil, List.length_append, vuw, hmn, hrt, ↓va0, ↓va1, ↓va2, ↓va3, vb0, vb1, vb2, vb3, vb4, vb5, vb6, vb7, vb8, vb9, vb10, vz0, vz1, vy0, vx0, ↓reduceIte, Nat.reduceBEq, Nat.reduceEqDiff, Nat.reduceLT, Nat.reduceLeDiff, Nat.reduceAdd, Nat.reduceMul, Nat.reduceSub, reduceCtorEq, Int.reduceToNat] <;> (repeat' first | rfl | apply And.intro))
              all_goals first | rfl | skip
            · rintro ⟨k, S, M⟩ ⟨hk, hSk, hM, hMr, hI⟩
              simp only at hk hSk hM hMr hI ⊢
              simp only [urO]
              by_cases hkm : k < mn
              · obtain ⟨m, hm⟩ : ∃ m, mn - k = m + 1 := ⟨mn - k - 1, by omega⟩
                rw [hm] at hI
                by_cases hM4 : M.length < 4
                · rw [pSpots_short hM4] at hI
                  repeat' first | (refine Br.dec (fun h => ?_) (fun h => ?_) <;> try (exfalso; omega)) | (refine Br.eqi (fun h => ?_) (fun h => ?_) <;> try (exfalso; omega)) | (simp (disch := (first | omega | (simp only [vlen]; first | done | omega))) only [vuw, ↓va0, ↓va1, ↓va2, ↓va3, vb0, vb1, vb2, vb3, vb4, vb5, vb6, vb7, vb8, vb9, vb10, vz0, vz1, vy0, vx0, ↓reduceIte, Nat.reduceBEq, Nat.reduceEqDiff, Nat.reduceLT, Nat.reduceLeDiff, Nat.reduceAdd, Nat.reduceMul, Nat.reduceSub, reduceCtorEq, Int.reduceToNat]) | (refine Br.mk (fun h => ?_) (fun h => ?_)) | (refine BrN.mk (fun h => ?_) ?_) | (refine AltVC.mk ?_ ?_)
                  exact fin_mk (.inr ⟨hbad hI, .inl rfl⟩)
                · have hst := @pSpots_step m M (by omega)
                  have g3 := hMr _ (getD_mem' (l := M) (i := 3) (by omega))
                  obtain ⟨wn, hwn⟩ : ∃ wn : Nat, M.getD 3 0 = wn := ⟨(M.getD 3 0).toNat, by have := g3.1; change 0 ≤ M.getD 3 0 at this; omega⟩
                  have hwr : (wn : Int) ≤ 65535 := by rw [← hwn]; exact g3.2
                  rw [hwn, Int.toNat_natCast] at hst
                  have hrg4 : Rg6 (M.drop 4) := fun x hx => hMr x (List.mem_of_mem_drop hx)
                  by_cases hwm : M.length < wn
                  · have hno : pWays wn (M.drop 4) = none := by
                      cases e : pWays wn (M.drop 4) with
                      | none => rfl
                      | some y => have := pWays_le e hrg4; rw [List.length_drop] at this; omega
                    rw [hno] at hst
                    rw [hst] at hI
                    repeat' first | (refine Br.dec (fun h => ?_) (fun h => ?_) <;> try (exfalso; omega)) | (refine Br.eqi (fun h => ?_) (fun h => ?_) <;> try (exfalso; omega)) | (simp (disch := (first | omega | (simp only [vlen]; first | done | omega))) only [vuw, hwn, ↓va0, ↓va1, ↓va2, ↓va3, vb0, vb1, vb2, vb3, vb4, vb5, vb6, vb7, vb8, vb9, vb10, vz0, vz1, vy0, vx0, ↓reduceIte, Nat.reduceBEq, Nat.reduceEqDiff, Nat.reduceLT, Nat.reduceLeDiff, Nat.reduceAdd, Nat.reduceMul, Nat.reduceSub, reduceCtorEq, Int.reduceToNat]) | (refine Br.mk (fun h => ?_) (fun h => ?_)) | (refine BrN.mk (fun h => ?_) ?_) | (refine AltVC.mk ?_ ?_)
                    exact fin_mk (.inr ⟨hbad hI, .inl rfl⟩)
                  · repeat' first | (refine Br.dec (fun h => ?_) (fun h => ?_) <;> try (exfalso; omega)) | (refine Br.eqi (fun h => ?_) (fun h => ?_) <;> try (exfalso; omega)) | (simp (disch := (first | omega | (simp only [vlen]; first | done | omega))) only [vuw, hwn, ↓va0, ↓va1, ↓va2, ↓va3, vb0, vb1, vb2, vb3, vb4, vb5, vb6, vb7, vb8, vb9, vb10, vz0, vz1, vy0, vx0, ↓reduceIte, Nat.reduceBEq, Nat.reduceEqDiff, Nat.reduceLT, Nat.reduceLeDiff, Nat.reduceAdd, Nat.reduceMul, Nat.reduceSub, reduceCtorEq, Int.reduceToNat]) | (refine Br.mk (fun h => ?_) (fun h => ?_)) | (refine BrN.mk (fun h => ?_) ?_) | (refine AltVC.mk ?_ ?_)
                    refine LoopVC.nlo 3 0 3 1 ?_
                    repeat' first | (refine Br.dec (fun h => ?_) (fun h => ?_) <;> try (exfalso; omega)) | (refine Br.eqi (fun h => ?_) (fun h => ?_) <;> try (exfalso; omega)) | (simp (disch := (first | omega | (simp only [vlen]; first | done | omega))) only [vuw, hwn, ↓va0, ↓va1, ↓va2, ↓va3, vb0, vb1, vb2, vb3, vb4, vb5, vb6, vb7, vb8, vb9, vb10, vz0, vz1, vy0, vx0, ↓reduceIte, Nat.reduceBEq, Nat.reduceEqDiff, Nat.reduceLT, Nat.reduceLeDiff, Nat.reduceAdd, Nat.reduceMul, Nat.reduceSub, reduceCtorEq, Int.reduceToNat]) | (refine Br.mk (fun h => ?_) (fun h => ?_)) | (refine BrN.mk (fun h => ?_) ?_) | (refine AltVC.mk ?_ ?_)
                    have hI2 : F = kW (M.getD 0 0) (M.getD 1 0) (M.getD 2 0) [] m S (pWays wn (M.drop 4)) := by
                      rw [hI, hst]
                      cases pWays wn (M.drop 4) with
                      | none => rfl
                      | some y => rfl
                    have hd4 := List.length_drop (i := 4) (l := M)
                    refine LoopVC.mk (X := Nat × List (List Int) × List Int) (fun x => [(4, .sl 1 (i64s x.2.2)), (6, .ptr 2 2 0 0), (9, .ptr 3 4 0 0), (11, iv .i64 x.1)]) (fun x => urO rt S ++ [(3, ⟨4, [[iv .i64 (M.getD 0 0), iv .i64 (M.getD 1 0), iv .i64 (M.getD 2 0), .own false 1 (rows i64s x.2.1)]], true, true, .fix⟩)]) (fun x => wn - x.1) (fun x => x.1 ≤ wn ∧ x.2.1.length ≤ x.1 ∧ x.2.2.length ≤ 2000 ∧ Rg6 x.2.2 ∧ F = kW (M.getD 0 0) (M.getD 1 0) (M.getD 2 0) x.2.1 m S (pWays (wn - x.1) x.2.2)) (0, [], M.drop 4) ⟨Nat.zero_le _, Nat.le_refl _, by show (M.drop 4).length ≤ 2000; omega, hrg4, hI2⟩ ?_ ?_
                    · simp only [urO, List.cons_append, List.nil_append]
                      (simp (disch := (first | omega | (simp only [vlen]; first | done | omega))) only [Fits_u, Fits_m, Fits_nil, List.length_append, vuw, hwn, ↓va0, ↓va1, ↓va2, ↓va3, vb0, vb1, vb2, vb3, vb4, vb5, vb6, vb7, vb8, vb9, vb10, vz0, vz1, vy0, vx0, ↓reduceIte, Nat.reduceBEq, Nat.reduceEqDiff, Nat.reduceLT, Nat.reduceLeDiff, Nat.reduceAdd, Nat.reduceMul, Nat.reduceSub, reduceCtorEq, Int.reduceToNat] <;> (repeat' first | rfl | apply And.intro))
                      all_goals first | rfl | skip
                    · rintro ⟨i, W, Q⟩ ⟨hi, hWi, hQ, hQr, hJ⟩
                      simp only at hi hWi hQ hQr hJ ⊢
                      simp only [urO, List.cons_append, List.nil_append]
                      by_cases hiw : i < wn
                      · obtain ⟨j, hj⟩ : ∃ j, wn - i = j + 1 := ⟨wn - i - 1, by omega⟩
                        rw [hj] at hJ
                        by_cases hQ0 : Q.length = 0
                        · have hQn : Q = [] := List.eq_nil_of_length_eq_zero hQ0
                          subst hQn
                          repeat' first | (refine Br.dec (fun h => ?_) (fun h => ?_) <;> try (exfalso; omega)) | (refine Br.eqi (fun h => ?_) (fun h => ?_) <;> try (exfalso; omega)) | (simp (disch := (first | omega | (simp only [vlen]; first | done | omega))) only [vuw, ↓va0, ↓va1, ↓va2, ↓va3, vb0, vb1, vb2, vb3, vb4, vb5, vb6, vb7, vb8, vb9, vb10, vz0, vz1, vy0, vx0, ↓reduceIte, Nat.reduceBEq, Nat.reduceEqDiff, Nat.reduceLT, Nat.reduceLeDiff, Nat.reduceAdd, Nat.reduceMul, Nat.reduceSub, reduceCtorEq, Int.reduceToNat]) | (refine Br.mk (fun h => ?_) (fun h => ?_)) | (refine BrN.mk (fun h => ?_) ?_) | (refine AltVC.mk ?_ ?_)
                          exact fin_mk (.inr ⟨hbad hJ, .inl rfl⟩)
                        · have hws := @pWays_step j Q (by omega)
                          have g0 := hQr _ (getD_mem' (l := Q) (i := 0) (by omega))
                          obtain ⟨hn0, hh0⟩ : ∃ h : Nat, Q.getD 0 0 = h := ⟨(Q.getD 0 0).toNat, by have := g0.1; change 0 ≤ Q.getD 0 0 at this; omega⟩
                          have hhr : (hn0 : Int) ≤ 65535 := by rw [← hh0]; exact g0.2
                          rw [hh0, Int.toNat_natCast] at hws
                          by_cases hlong : Q.length - 1 < hn0
                          · rw [if_pos hlong] at hws
                            rw [hws] at hJ
                            repeat' first | (refine Br.dec (fun h => ?_) (fun h => ?_) <;> try (exfalso; omega)) | (refine Br.eqi (fun h => ?_) (fun h => ?_) <;> try (exfalso; omega)) | (simp (disch := (first | omega | (simp only [vlen]; first | done | omega))) only [vuw, hh0, ↓va0, ↓va1, ↓va2, ↓va3, vb0, vb1, vb2, vb3, vb4, vb5, vb6, vb7, vb8, vb9, vb10, vz0, vz1, vy0, vx0, ↓reduceIte, Nat.reduceBEq, Nat.reduceEqDiff, Nat.reduceLT, Nat.reduceLeDiff, Nat.reduceAdd, Nat.reduceMul, Nat.reduceSub, reduceCtorEq, Int.reduceToNat]) | (refine Br.mk (fun h => ?_) (fun h => ?_)) | (refine BrN.mk (fun h => ?_) ?_) | (refine AltVC.mk ?_ ?_)
                            exact fin_mk (.inr ⟨hbad hJ, .inl rfl⟩)
                          · rw [if_neg hlong] at hws
                            rw [hws, kW_snoc] at hJ
                            repeat' first | (refine Br.dec (fun h => ?_) (fun h => ?_) <;> try (exfalso; omega)) | (refine Br.eqi (fun h => ?_) (fun h => ?_) <;> try (exfalso; omega)) | (simp (disch := (first | omega | (simp only [vlen]; first | done | omega))) only [vuw, hh0, ↓va0, ↓va1, ↓va2, ↓va3, vb0, vb1, vb2, vb3, vb4, vb5, vb6, vb7, vb8, vb9, vb10, vz0, vz1, vy0, vx0, ↓reduceIte, Nat.reduceBEq, Nat.reduceEqDiff, Nat.reduceLT, Nat.reduceLeDiff, Nat.reduceAdd, Nat.reduceMul, Nat.reduceSub, reduceCtorEq, Int.reduceToNat]) | (refine Br.mk (fun h => ?_) (fun h => ?_)) | (refine BrN.mk (fun h => ?_) ?_) | (refine AltVC.mk ?_ ?_)
                            refine DrawVC.t ?_
                            obtain ⟨u, hu⟩ : ∃ u, (Q.drop 1).take hn0 = u := ⟨_, rfl⟩
                            obtain ⟨Q2, hQ2⟩ : ∃ Q2, Q.drop (1 + hn0) = Q2 := ⟨_, rfl⟩
                            have hA : ((1 : Int) + (hn0 : Int)).toNat = 1 + hn0 := by omega
                            have hB : List.drop 1 (List.take (1 + hn0) Q) = u := by rw [← hu, List.drop_take]; congr 1; omega
                            have hul : u.length ≤ 2000 := by rw [← hu, List.length_take, List.length_drop]; omega
                            have hQ2l : Q2.length ≤ Q.length := by rw [← hQ2, List.length_drop]; omega
                            have hQ2r : Rg6 Q2 := by rw [← hQ2]; exact fun x hx => hQr x (List.mem_of_mem_drop hx)
                            rw [hu, hQ2] at hJ
                            have hJ2 : F = kW (M.getD 0 0) (M.getD 1 0) (M.getD 2 0) (W ++ [u]) m S (pWays (wn - (i + 1)) Q2) := by
                              rw [show wn - (i + 1) = j by omega]; exact hJ
                            repeat' first | (refine Br.dec (fun h => ?_) (fun h => ?_) <;> try (exfalso; omega)) | (refine Br.eqi (fun h => ?_) (fun h => ?_) <;> try (exfalso; omega)) | (simp (disch := (first | omega | (simp only [vlen]; first | done | omega))) only [vuw, hh0, hA, hB, hQ2, ↓va0, ↓va1, ↓va2, ↓va3, vb0, vb1, vb2, vb3, vb4, vb5, vb6, vb7, vb8, vb9, vb10, vz0, vz1, vy0, vx0, ↓reduceIte, Nat.reduceBEq, Nat.reduceEqDiff, Nat.reduceLT, Nat.reduceLeDiff, Nat.reduceAdd, Nat.reduceMul, Nat.reduceSub, reduceCtorEq, Int.reduceToNat]) | (refine Br.mk (fun h => ?_) (fun h => ?_)) | (refine BrN.mk (fun h => ?_) ?_) | (refine AltVC.mk ?_ ?_)
                            all_goals first
                              | (
                                refine loopK.frz 5 ?_
                                repeat' first | (refine Br.dec (fun h => ?_) (fun h => ?_) <;> try (exfalso; omega)) | (refine Br.eqi (fun h => ?_) (fun h => ?_) <;> try (exfalso; omega)) | (simp (disch := (first | omega | (simp only [vlen]; first | done | omega))) only [vuw, hh0, ↓va0, ↓va1, ↓va2, ↓va3, vb0, vb1, vb2, vb3, vb4, vb5, vb6, vb7, vb8, vb9, vb10, vz0, vz1, vy0, vx0, ↓reduceIte, Nat.reduceBEq, Nat.reduceEqDiff, Nat.reduceLT, Nat.reduceLeDiff, Nat.reduceAdd, Nat.reduceMul, Nat.reduceSub, reduceCtorEq, Int.reduceToNat]) | (refine Br.mk (fun h => ?_) (fun h => ?_)) | (refine BrN.mk (fun h => ?_) ?_) | (refine AltVC.mk ?_ ?_)
                                refine loopK.flt 4 ?_
                                repeat' first | (refine Br.dec (fun h => ?_) (fun h => ?_) <;> try (exfalso; omega)) | (refine Br.eqi (fun h => ?_) (fun h => ?_) <;> try (exfalso; omega)) | (simp (disch := (first | omega | (simp only [vlen]; first | done | omega))) only [vuw, hh0, ↓va0, ↓va1, ↓va2, ↓va3, vb0, vb1, vb2, vb3, vb4, vb5, vb6, vb7, vb8, vb9, vb10, vz0, vz1, vy0, vx0, ↓reduceIte, Nat.reduceBEq, Nat.reduceEqDiff, Nat.reduceLT, Nat.reduceLeDiff, Nat.reduceAdd, Nat.reduceMul, Nat.reduceSub, reduceCtorEq, Int.reduceToNat]) | (refine Br.mk (fun h => ?_) (fun h => ?_)) | (refine BrN.mk (fun h => ?_) ?_) | (refine AltVC.mk ?_ ?_)
                                refine loopK.fold 4 3 0 3 true ?_
                                repeat' first | (refine Br.dec (fun h => ?_) (fun h => ?_) <;> try (exfalso; omega)) | (refine Br.eqi (fun h => ?_) (fun h => ?_) <;> try (exfalso; omega)) | (simp (disch := (first | omega | (simp only [vlen]; first | done | omega))) only [vuw, hh0, ↓va0, ↓va1, ↓va2, ↓va3, vb0, vb1, vb2, vb3, vb4, vb5, vb6, vb7, vb8, vb9, vb10, vz0, vz1, vy0, vx0, ↓reduceIte, Nat.reduceBEq, Nat.reduceEqDiff, Nat.reduceLT, Nat.reduceLeDiff, Nat.reduceAdd, Nat.reduceMul, Nat.reduceSub, reduceCtorEq, Int.reduceToNat]) | (refine Br.mk (fun h => ?_) (fun h => ?_)) | (refine BrN.mk (fun h => ?_) ?_) | (refine AltVC.mk ?_ ?_)
                                refine loopK.mk (i + 1, W ++ [u], Q2) (by simp (disch := (first | omega | (simp only [vlen]; first | done | omega))) only [↓va0, ↓va1, ↓va2, ↓va3, vb0, vb1, vb2, vb3, vb4, vb5, vb6, vb7, vb8, vb9, vb10, vz0, vz1, vy0, vx0, ↓reduceIte, Nat.reduceBEq, Nat.reduceEqDiff, Nat.reduceLT, Nat.reduceLeDiff, Nat.reduceAdd, Nat.reduceMul, Nat.reduceSub, reduceCtorEq, Int.reduceToNat]) ⟨by show i + 1 ≤ wn; omega, by show (W ++ [u]).length ≤ i + 1; rw [List.length_append]; simp only [List.length_cons, List.length_nil]; omega, by show Q2.length ≤ 2000; omega, hQ2r, hJ2⟩ (by show wn - (i + 1) < wn - i; omega) ?_
                                (simp (disch := (first | omega | (simp only [vlen]; first | done | omega))) only [Fits_u, Fits_m, Fits_nil, List.length_append, vuw, hh0, ↓va0, ↓va1, ↓va2, ↓va3, vb0, vb1, vb2, vb3, vb4, vb5, vb6, vb7, vb8, vb9, vb10, vz0, vz1, vy0, vx0, ↓reduceIte, Nat.reduceBEq, Nat.reduceEqDiff, Nat.reduceLT, Nat.reduceLeDiff, Nat.reduceAdd, Nat.reduceMul, Nat.reduceSub, reduceCtorEq, Int.reduceToNat] <;> (repeat' first | rfl | apply And.intro))
                                all_goals rfl)
                              | (
                                refine loopK.frz 4 ?_
                                repeat' first | (refine Br.dec (fun h => ?_) (fun h => ?_) <;> try (exfalso; omega)) | (refine Br.eqi (fun h => ?_) (fun h => ?_) <;> try (exfalso; omega)) | (simp (disch := (first | omega | (simp only [vlen]; first | done | omega))) only [vuw, hh0, ↓va0, ↓va1, ↓va2, ↓va3, vb0, vb1, vb2, vb3, vb4, vb5, vb6, vb7, vb8, vb9, vb10, vz0, vz1, vy0, vx0, ↓reduceIte, Nat.reduceBEq, Nat.reduceEqDiff, Nat.reduceLT, Nat.reduceLeDiff, Nat.reduceAdd, Nat.reduceMul, Nat.reduceSub, reduceCtorEq, Int.reduceToNat]) | (refine Br.mk (fun h => ?_) (fun h => ?_)) | (refine BrN.mk (fun h => ?_) ?_) | (refine AltVC.mk ?_ ?_)
                                refine loopK.flt 5 ?_
                                repeat' first | (refine Br.dec (fun h => ?_) (fun h => ?_) <;> try (exfalso; omega)) | (refine Br.eqi (fun h => ?_) (fun h => ?_) <;> try (exfalso; omega)) | (simp (disch := (first | omega | (simp only [vlen]; first | done | omega))) only [vuw, hh0, ↓va0, ↓va1, ↓va2, ↓va3, vb0, vb1, vb2, vb3, vb4, vb5, vb6, vb7, vb8, vb9, vb10, vz0, vz1, vy0, vx0, ↓reduceIte, Nat.reduceBEq, Nat.reduceEqDiff, Nat.reduceLT, Nat.reduceLeDiff, Nat.reduceAdd, Nat.reduceMul, Nat.reduceSub, reduceCtorEq, Int.reduceToNat]) | (refine Br.mk (fun h => ?_) (fun h => ?_)) | (refine BrN.mk (fun h => ?_) ?_) | (refine AltVC.mk ?_ ?_)
                                refine loopK.fold 5 3 0 3 true ?_
                                repeat' first | (refine Br.dec (fun h => ?_) (fun h => ?_) <;> try (exfalso; omega)) | (refine Br.eqi (fun h => ?_) (fun h => ?_) <;> try (exfalso; omega)) | (simp (disch := (first | omega | (simp only [vlen]; first | done | omega))) only [vuw, hh0, ↓va0, ↓va1, ↓va2, ↓va3, vb0, vb1, vb2, vb3, vb4, vb5, vb6, vb7, vb8, vb9, vb10, vz0, vz1, vy0, vx0, ↓reduceIte, Nat.reduceBEq, Nat.reduceEqDiff, Nat.reduceLT, Nat.reduceLeDiff, Nat.reduceAdd, Nat.reduceMul, Nat.reduceSub, reduceCtorEq, Int.reduceToNat]) | (refine Br.mk (fun h => ?_) (fun h => ?_)) | (refine BrN.mk (fun h => ?_) ?_) | (refine AltVC.mk ?_ ?_)
                                refine loopK.mk (i + 1, W ++ [u], Q2) (by simp (disch := (first | omega | (simp only [vlen]; first | done | omega))) only [↓va0, ↓va1, ↓va2, ↓va3, vb0, vb1, vb2, vb3, vb4, vb5, vb6, vb7, vb8, vb9, vb10, vz0, vz1, vy0, vx0, ↓reduceIte, Nat.reduceBEq, Nat.reduceEqDiff, Nat.reduceLT, Nat.reduceLeDiff, Nat.reduceAdd, Nat.reduceMul, Nat.reduceSub, reduceCtorEq, Int.reduceToNat]) ⟨by show i + 1 ≤ wn; omega, by show (W ++ [u]).length ≤ i + 1; rw [List.length_append]; simp only [List.length_cons, List.length_nil]; omega, by show Q2.length ≤ 2000; omega, hQ2r, hJ2⟩ (by show wn - (i + 1) < wn - i; omega) ?_
                                (simp (disch := (first | omega | (simp only [vlen]; first | done | omega))) only [Fits_u, Fits_m, Fits_nil, List.length_append, vuw, hh0, ↓va0, ↓va1, ↓va2, ↓va3, vb0, vb1, vb2, vb3, vb4, vb5, vb6, vb7, vb8, vb9, vb10, vz0, vz1, vy0, vx0, ↓reduceIte, Nat.reduceBEq, Nat.reduceEqDiff, Nat.reduceLT, Nat.reduceLeDiff, Nat.reduceAdd, Nat.reduceMul, Nat.reduceSub, reduceCtorEq, Int.reduceToNat] <;> (repeat' first | rfl | apply And.intro))
                                all_goals rfl)
                              | (
                                refine loopK.frz 4 ?_
                                repeat' first | (refine Br.dec (fun h => ?_) (fun h => ?_) <;> try (exfalso; omega)) | (refine Br.eqi (fun h => ?_) (fun h => ?_) <;> try (exfalso; omega)) | (simp (disch := (first | omega | (simp only [vlen]; first | done | omega))) only [vuw, hh0, ↓va0, ↓va1, ↓va2, ↓va3, vb0, vb1, vb2, vb3, vb4, vb5, vb6, vb7, vb8, vb9, vb10, vz0, vz1, vy0, vx0, ↓reduceIte, Nat.reduceBEq, Nat.reduceEqDiff, Nat.reduceLT, Nat.reduceLeDiff, Nat.reduceAdd, Nat.reduceMul, Nat.reduceSub, reduceCtorEq, Int.reduceToNat]) | (refine Br.mk (fun h => ?_) (fun h => ?_)) | (refine BrN.mk (fun h => ?_) ?_) | (refine AltVC.mk ?_ ?_)
                                refine loopK.flt 6 ?_
                                repeat' first | (refine Br.dec (fun h => ?_) (fun h => ?_) <;> try (exfalso; omega)) | (refine Br.eqi (fun h => ?_) (fun h => ?_) <;> try (exfalso; omega)) | (simp (disch := (first | omega | (simp only [vlen]; first | done | omega))) only [vuw, hh0, ↓va0, ↓va1, ↓va2, ↓va3, vb0, vb1, vb2, vb3, vb4, vb5, vb6, vb7, vb8, vb9, vb10, vz0, vz1, vy0, vx0, ↓reduceIte, Nat.reduceBEq, Nat.reduceEqDiff, Nat.reduceLT, Nat.reduceLeDiff, Nat.reduceAdd, Nat.reduceMul, Nat.reduceSub, reduceCtorEq, Int.reduceToNat]) | (refine Br.mk (fun h => ?_) (fun h => ?_)) | (refine BrN.mk (fun h => ?_) ?_) | (refine AltVC.mk ?_ ?_)
                                refine loopK.fold 6 3 0 3 true ?_
                                repeat' first | (refine Br.dec (fun h => ?_) (fun h => ?_) <;> try (exfalso; omega)) | (refine Br.eqi (fun h => ?_) (fun h => ?_) <;> try (exfalso; omega)) | (simp (disch := (first | omega | (simp only [vlen]; first | done | omega))) only [vuw, hh0, ↓va0, ↓va1, ↓va2, ↓va3, vb0, vb1, vb2, vb3, vb4, vb5, vb6, vb7, vb8, vb9, vb10, vz0, vz1, vy0, vx0, ↓reduceIte, Nat.reduceBEq, Nat.reduceEqDiff, Nat.reduceLT, Nat.reduceLeDiff, Nat.reduceAdd, Nat.reduceMul, Nat.reduceSub, reduceCtorEq, Int.reduceToNat]) | (refine Br.mk (fun h => ?_) (fun h => ?_)) | (refine BrN.mk (fun h => ?_) ?_) | (refine AltVC.mk ?_ ?_)
                                refine loopK.mk (i + 1, W ++ [u], Q2) (by simp (disch := (first | omega | (simp only [vlen]; first | done | omega))) only [↓va0, ↓va1, ↓va2, ↓va3, vb0, vb1, vb2, vb3, vb4, vb5, vb6, vb7, vb8, vb9, vb10, vz0, vz1, vy0, vx0, ↓reduceIte, Nat.reduceBEq, Nat.reduceEqDiff, Nat.reduceLT, Nat.reduceLeDiff, Nat.reduceAdd, Nat.reduceMul, Nat.reduceSub, reduceCtorEq, Int.reduceToNat]) ⟨by show i + 1 ≤ wn; omega, by show (W ++ [u]).length ≤ i + 1; rw [List.length_append]; simp only [List.length_cons, List.length_nil]; omega, by show Q2.length ≤ 2000; omega, hQ2r, hJ2⟩ (by show wn - (i + 1) < wn - i; omega) ?_
                                (simp (disch := (first | omega | (simp only [vlen]; first | done | omega))) only [Fits_u, Fits_m, Fits_nil, List.length_append, vuw, hh0, ↓va0, ↓va1, ↓va2, ↓va3, vb0, vb1, vb2, vb3, vb4, vb5, vb6, vb7, vb8, vb9, vb10, vz0, vz1, vy0, vx0, ↓reduceIte, Nat.reduceBEq, Nat.reduceEqDiff, Nat.reduceLT, Nat.reduceLeDiff, Nat.reduceAdd, Nat.reduceMul, Nat.reduceSub, reduceCtorEq, Int.reduceToNat] <;> (repeat' first | rfl | apply And.intro))
                                all_goals rfl)
                      · have hi0 : wn - i = 0 := by omega
                        rw [hi0, kW_done] at hJ
                        have hI3 : F = kS (S ++ [⟨M.getD 0 0, M.getD 1 0, M.getD 2 0, W⟩]) (pSpots (mn - (k + 1)) Q) := by
                          rw [show mn - (k + 1) = m by omega]; exact hJ
                        have hts : tbl spoD S ++ [[iv .i64 (M.getD 0 0), iv .i64 (M.getD 1 0), iv .i64 (M.getD 2 0), .sl 1 (rows i64s W)]] = tbl spoD (S ++ [⟨M.getD 0 0, M.getD 1 0, M.getD 2 0, W⟩]) := by rw [tbl_app]; rfl
                        repeat' first | (refine Br.dec (fun h => ?_) (fun h => ?_) <;> try (exfalso; omega)) | (refine Br.eqi (fun h => ?_) (fun h => ?_) <;> try (exfalso; omega)) | (simp (disch := (first | omega | (simp only [vlen]; first | done | omega))) only [vuw, ↓va0, ↓va1, ↓va2, ↓va3, vb0, vb1, vb2, vb3, vb4, vb5, vb6, vb7, vb8, vb9, vb10, vz0, vz1, vy0, vx0, ↓reduceIte, Nat.reduceBEq, Nat.reduceEqDiff, Nat.reduceLT, Nat.reduceLeDiff, Nat.reduceAdd, Nat.reduceMul, Nat.reduceSub, reduceCtorEq, Int.reduceToNat]) | (refine Br.mk (fun h => ?_) (fun h => ?_)) | (refine BrN.mk (fun h => ?_) ?_) | (refine AltVC.mk ?_ ?_)
                        refine GhoV.frz 3 ?_
                        repeat' first | (refine Br.dec (fun h => ?_) (fun h => ?_) <;> try (exfalso; omega)) | (refine Br.eqi (fun h => ?_) (fun h => ?_) <;> try (exfalso; omega)) | (simp (disch := (first | omega | (simp only [vlen]; first | done | omega))) only [vuw, ↓va0, ↓va1, ↓va2, ↓va3, vb0, vb1, vb2, vb3, vb4, vb5, vb6, vb7, vb8, vb9, vb10, vz0, vz1, vy0, vx0, ↓reduceIte, Nat.reduceBEq, Nat.reduceEqDiff, Nat.reduceLT, Nat.reduceLeDiff, Nat.reduceAdd, Nat.reduceMul, Nat.reduceSub, reduceCtorEq, Int.reduceToNat]) | (refine Br.mk (fun h => ?_) (fun h => ?_)) | (refine BrN.mk (fun h => ?_) ?_) | (refine AltVC.mk ?_ ?_)
                        refine GhoV.go ?_
                        repeat' first | (refine Br.dec (fun h => ?_) (fun h => ?_) <;> try (exfalso; omega)) | (refine Br.eqi (fun h => ?_) (fun h => ?_) <;> try (exfalso; omega)) | (simp (disch := (first | omega | (simp only [vlen]; first | done | omega))) only [vuw, ↓va0, ↓va1, ↓va2, ↓va3, vb0, vb1, vb2, vb3, vb4, vb5, vb6, vb7, vb8, vb9, vb10, vz0, vz1, vy0, vx0, ↓reduceIte, Nat.reduceBEq, Nat.reduceEqDiff, Nat.reduceLT, Nat.reduceLeDiff, Nat.reduceAdd, Nat.reduceMul, Nat.reduceSub, reduceCtorEq, Int.reduceToNat]) | (refine Br.mk (fun h => ?_) (fun h => ?_)) | (refine BrN.mk (fun h => ?_) ?_) | (refine AltVC.mk ?_ ?_)
                        refine loopK.fold 4 2 0 0 true ?_
                        repeat' first | (refine Br.dec (fun h => ?_) (fun h => ?_) <;> try (exfalso; omega)) | (refine Br.eqi (fun h => ?_) (fun h => ?_) <;> try (exfalso; omega)) | (simp (disch := (first | omega | (simp only [vlen]; first | done | omega))) only [vuw, ↓va0, ↓va1, ↓va2, ↓va3, vb0, vb1, vb2, vb3, vb4, vb5, vb6, vb7, vb8, vb9, vb10, vz0, vz1, vy0, vx0, ↓reduceIte, Nat.reduceBEq, Nat.reduceEqDiff, Nat.reduceLT, Nat.reduceLeDiff, Nat.reduceAdd, Nat.reduceMul, Nat.reduceSub, reduceCtorEq, Int.reduceToNat]) | (refine Br.mk (fun h => ?_) (fun h => ?_)) | (refine BrN.mk (fun h => ?_) ?_) | (refine AltVC.mk ?_ ?_)
                        refine loopK.mk (k + 1, S ++ [⟨M.getD 0 0, M.getD 1 0, M.getD 2 0, W⟩], Q) (by simp (disch := (first | omega | (simp only [vlen]; first | done | omega))) only [↓va0, ↓va1, ↓va2, ↓va3, vb0, vb1, vb2, vb3, vb4, vb5, vb6, vb7, vb8, vb9, vb10, vz0, vz1, vy0, vx0, ↓reduceIte, Nat.reduceBEq, Nat.reduceEqDiff, Nat.reduceLT, Nat.reduceLeDiff, Nat.reduceAdd, Nat.reduceMul, Nat.reduceSub, reduceCtorEq, Int.reduceToNat]) ⟨by show k + 1 ≤ mn; omega, by show (S ++ [_]).length ≤ k + 1; rw [List.length_append]; simp only [List.length_cons, List.length_nil]; omega, hQ, hQr, hI3⟩ (by show mn - (k + 1) < mn - k; omega) ?_
                        (simp (disch := (first | omega | (simp only [vlen]; first | done | omega))) only [Fits_u, Fits_m, Fits_nil, List.length_append, vuw, ↓va0, ↓va1, ↓va2, ↓va3, vb0, vb1, vb2, vb3, vb4, vb5, vb6, vb7, vb8, vb9, vb10, vz0, vz1, vy0, vx0, ↓reduceIte, Nat.reduceBEq, Nat.reduceEqDiff, Nat.reduceLT, Nat.reduceLeDiff, Nat.reduceAdd, Nat.reduceMul, Nat.reduceSub, reduceCtorEq, Int.reduceToNat] <;> (repeat' first | rfl | apply And.intro))
                        all_goals first | rfl | exact obTs hts | skip
              · have hk0 : mn - k = 0 := by omega
                have hFs : F = some (S, M) := by
                  rw [hI, hk0]; simp [pSpots, kS]
                have hpa : pAll (ns c) = some (⟨S, rt⟩, M) := by rw [hL, hps, hFs]; rfl
                have hok2 := pAll_ok hpa (fun x hx => ns_rg _ x hx) (by rw [ns_len]; omega)
                repeat' first | (refine Br.dec (fun h => ?_) (fun h => ?_) <;> try (exfalso; omega)) | (refine Br.eqi (fun h => ?_) (fun h => ?_) <;> try (exfalso; omega)) | (simp (disch := (first | omega | (simp only [vlen]; first | done | omega))) only [vuw, ↓va0, ↓va1, ↓va2, ↓va3, vb0, vb1, vb2, vb3, vb4, vb5, vb6, vb7, vb8, vb9, vb10, vz0, vz1, vy0, vx0, ↓reduceIte, Nat.reduceBEq, Nat.reduceEqDiff, Nat.reduceLT, Nat.reduceLeDiff, Nat.reduceAdd, Nat.reduceMul, Nat.reduceSub, reduceCtorEq, Int.reduceToNat]) | (refine Br.mk (fun h => ?_) (fun h => ?_)) | (refine BrN.mk (fun h => ?_) ?_) | (refine AltVC.mk ?_ ?_)
                refine GhoV.frz 2 ?_
                repeat' first | (refine Br.dec (fun h => ?_) (fun h => ?_) <;> try (exfalso; omega)) | (refine Br.eqi (fun h => ?_) (fun h => ?_) <;> try (exfalso; omega)) | (simp (disch := (first | omega | (simp only [vlen]; first | done | omega))) only [vuw, ↓va0, ↓va1, ↓va2, ↓va3, vb0, vb1, vb2, vb3, vb4, vb5, vb6, vb7, vb8, vb9, vb10, vz0, vz1, vy0, vx0, ↓reduceIte, Nat.reduceBEq, Nat.reduceEqDiff, Nat.reduceLT, Nat.reduceLeDiff, Nat.reduceAdd, Nat.reduceMul, Nat.reduceSub, reduceCtorEq, Int.reduceToNat]) | (refine Br.mk (fun h => ?_) (fun h => ?_)) | (refine BrN.mk (fun h => ?_) ?_) | (refine AltVC.mk ?_ ?_)
                refine GhoV.go ?_
                repeat' first | (refine Br.dec (fun h => ?_) (fun h => ?_) <;> try (exfalso; omega)) | (refine Br.eqi (fun h => ?_) (fun h => ?_) <;> try (exfalso; omega)) | (simp (disch := (first | omega | (simp only [vlen]; first | done | omega))) only [vuw, ↓va0, ↓va1, ↓va2, ↓va3, vb0, vb1, vb2, vb3, vb4, vb5, vb6, vb7, vb8, vb9, vb10, vz0, vz1, vy0, vx0, ↓reduceIte, Nat.reduceBEq, Nat.reduceEqDiff, Nat.reduceLT, Nat.reduceLeDiff, Nat.reduceAdd, Nat.reduceMul, Nat.reduceSub, reduceCtorEq, Int.reduceToNat]) | (refine Br.mk (fun h => ?_) (fun h => ?_)) | (refine BrN.mk (fun h => ?_) ?_) | (refine AltVC.mk ?_ ?_)
                refine CallVC.mk (sound_spec ⟨S, rt⟩ hok2.1) ?_
                rintro _ (⟨out, rfl, hG, hO⟩ | ⟨out, rfl, hG⟩)
                · by_cases hM0 : M.length = 0
                  · have hMn : M = [] := List.eq_nil_of_length_eq_zero hM0
                    subst hMn
                    repeat' first | (refine Br.dec (fun h => ?_) (fun h => ?_) <;> try (exfalso; omega)) | (refine Br.eqi (fun h => ?_) (fun h => ?_) <;> try (exfalso; omega)) | (simp (disch := (first | omega | (simp only [vlen]; first | done | omega))) only [vuw, ↓va0, ↓va1, ↓va2, ↓va3, vb0, vb1, vb2, vb3, vb4, vb5, vb6, vb7, vb8, vb9, vb10, vz0, vz1, vy0, vx0, ↓reduceIte, Nat.reduceBEq, Nat.reduceEqDiff, Nat.reduceLT, Nat.reduceLeDiff, Nat.reduceAdd, Nat.reduceMul, Nat.reduceSub, reduceCtorEq, Int.reduceToNat]) | (refine Br.mk (fun h => ?_) (fun h => ?_)) | (refine BrN.mk (fun h => ?_) ?_) | (refine AltVC.mk ?_ ?_)
                    exact fin_mk (.inl ⟨⟨S, rt⟩, hpa, by omega, hG, rfl⟩)
                  · repeat' first | (refine Br.dec (fun h => ?_) (fun h => ?_) <;> try (exfalso; omega)) | (refine Br.eqi (fun h => ?_) (fun h => ?_) <;> try (exfalso; omega)) | (simp (disch := (first | omega | (simp only [vlen]; first | done | omega))) only [vuw, ↓va0, ↓va1, ↓va2, ↓va3, vb0, vb1, vb2, vb3, vb4, vb5, vb6, vb7, vb8, vb9, vb10, vz0, vz1, vy0, vx0, ↓reduceIte, Nat.reduceBEq, Nat.reduceEqDiff, Nat.reduceLT, Nat.reduceLeDiff, Nat.reduceAdd, Nat.reduceMul, Nat.reduceSub, reduceCtorEq, Int.reduceToNat]) | (refine Br.mk (fun h => ?_) (fun h => ?_)) | (refine BrN.mk (fun h => ?_) ?_) | (refine AltVC.mk ?_ ?_)
                    refine fin_mk (.inr ⟨fun t ht => ?_, .inr ⟨⟨S, rt⟩, by rw [beq_eq_false_iff_ne.mpr (show (M.length : Int) ≠ 0 by omega)]; rfl⟩⟩)
                    rw [hpa] at ht
                    simp only [Option.some.injEq, Prod.mk.injEq] at ht
                    rw [ht.2] at hM0; simp at hM0
                · repeat' first | (refine Br.dec (fun h => ?_) (fun h => ?_) <;> try (exfalso; omega)) | (refine Br.eqi (fun h => ?_) (fun h => ?_) <;> try (exfalso; omega)) | (simp (disch := (first | omega | (simp only [vlen]; first | done | omega))) only [vuw, ↓va0, ↓va1, ↓va2, ↓va3, vb0, vb1, vb2, vb3, vb4, vb5, vb6, vb7, vb8, vb9, vb10, vz0, vz1, vy0, vx0, ↓reduceIte, Nat.reduceBEq, Nat.reduceEqDiff, Nat.reduceLT, Nat.reduceLeDiff, Nat.reduceAdd, Nat.reduceMul, Nat.reduceSub, reduceCtorEq, Int.reduceToNat]) | (refine Br.mk (fun h => ?_) (fun h => ?_)) | (refine BrN.mk (fun h => ?_) ?_) | (refine AltVC.mk ?_ ?_)
                  refine fin_mk (.inr ⟨fun t ht _ => ?_, .inr ⟨⟨S, rt⟩, rfl⟩⟩)
                  rw [hpa] at ht
                  simp only [Option.some.injEq, Prod.mk.injEq] at ht
                  rw [← ht.1]; exact hG
end Go.Proofs.Ytcbilnmpiladnaa
