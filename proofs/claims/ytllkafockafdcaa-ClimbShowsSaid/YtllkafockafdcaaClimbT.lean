/-
  coppicerref.Read; the law ClimbReads.
-/
import Derived.Test.YtllkafockafdcaaClimbS
import Derived.Test.YtllkafockafdcaaInts
namespace Go.Proofs.Ytllkafockafdcaa
open Go.Dm
set_option linter.unusedSimpArgs false
set_option linter.unnecessarySimpa false
set_option linter.unusedVariables false
set_option linter.defProp false
def RfR (ops : List Opr) (l : List Int) (d : D) : Prop := (rdC ops l = none ∧ d = .tu [.sl 1 [], .v (.bool false)]) ∨ ∃ p, rdC ops l = some p ∧ d = .tu [.sl 1 (i64s p), .v (.bool true)]
theorem rdC_len {ops : List Opr} : ∀ {l p : List Int}, rdC ops l = some p → p.length ≤ l.length := by
  intro l
  induction hk : l.length using Nat.strongRecOn generalizing l with
  | _ n ih =>
  intro p h
  subst hk
  rw [rdC] at h
  split at h
  · next h1 =>
    simp only [Option.some.injEq] at h
    subst h
    simp only [List.length_cons, List.length_nil]; omega
  · split at h
    · cases h
    · next c hs =>
      split at h
      · cases h
      · split at h
        · split at h
          · cases h
          · next hb =>
            have := ih (inn l).length (by rw [inn_len]; omega) rfl h
            rw [inn_len] at this; omega
        · split at h
          · next hn =>
            split at h
            · next a b ha hb =>
              have h1 := ih (l.take c.2.toNat).length (by rw [List.length_take]; omega) rfl ha
              have h2 := ih (l.drop (c.2.toNat + 1)).length (by rw [List.length_drop]; omega) rfl hb
              simp only [Option.some.injEq] at h
              subst h
              rw [List.length_take] at h1
              rw [List.length_drop] at h2
              simp only [List.length_append, List.length_cons, List.length_nil]; omega
            · cases h
          · cases h
theorem dep_le : ∀ {l : List Int}, dep l ≤ l.length
  | [] => by simp [dep]
  | x :: l => by
    have := @dep_le l
    have h : dp1 x ≤ 1 := by unfold dp1; split; omega; split <;> omega
    simp only [dep, List.length_cons]; omega
theorem sc_next {ops : List Opr} {l : List Int} {k : Nat} {d la : Int} (h : scC ops l k = some (d, la)) (hn : ¬ (l.getD k 0 = -2 ∧ d + dp1 (l.getD k 0) < 0)) {e la' : Int} (he : d + dp1 (l.getD k 0) = e) (hla : (if e = 0 ∧ isO (l.getD k 0) ∧ (la < 0 ∨ chs ops (l.getD k 0) (l.getD la.toNat 0) = true) then (k : Int) else la) = la') : scC ops l (k + 1) = some (e, la') := by
  simp only [scC, h]
  rw [if_neg hn, he, hla]
theorem sc_fail {ops : List Opr} {l : List Int} {k : Nat} (h : scC ops l k = none) : ∀ m, k ≤ m → scC ops l m = none := fun m hm => by
  induction m with
  | zero => rw [show k = 0 by omega] at h; cases h
  | succ m ih =>
    by_cases e : k = m + 1
    · rw [← e]; exact h
    · simp only [scC, ih (by omega)]
theorem sc_stop {ops : List Opr} {l : List Int} {k : Nat} {d la : Int} (h : scC ops l k = some (d, la)) (hn : l.getD k 0 = -2 ∧ d + dp1 (l.getD k 0) < 0) : scC ops l (k + 1) = none := by
  simp only [scC, h]
  rw [if_pos hn]
set_option maxRecDepth 10000 in
set_option maxHeartbeats 4000000 in
theorem refRead_spec (ops : List Opr) (hn : ops.length ≤ 6) (hc : ConsO ops) (l : List Int) (hl : l.length ≤ 4000) (hv : ∀ s, s ∈ l → vS ops s) : Dm.Spec Try.prog 21 [.sl 2 (tbl oprD ops), .sl 1 (i64s l)] (RfR ops l) := by
  refine spec_of_vc mixed Try.func21 c21 (by rw [show Try.f21.ntmps = _ from Try.ntmps21]; simp) ?_
  unfold m21 r21
  by_cases h1 : l.length = 1 ∧ 100 ≤ l.getD 0 0
  · have hl1 := h1.1
    have hl2 := h1.2
    have hr := rdC_val (ops := ops) h1
    repeat' first | (refine Br.dec (fun h => ?_) (fun h => ?_) <;> try (exfalso; omega)) | (refine Br.eqi (fun h => ?_) (fun h => ?_) <;> try (exfalso; omega)) | (simp (disch := (first | omega | (simp only [vlen]; first | done | omega))) only [vcs2, ↓va0, ↓va1, ↓va2, ↓va3, vb0, vb1, vb2, vb3, vb4, vb5, vb6, vb7, vb8, vb9, vb10, vz0, vz1, vy0, vx0, ↓reduceIte, Nat.reduceBEq, Nat.reduceEqDiff, Nat.reduceLT, Nat.reduceLeDiff, Nat.reduceAdd, Nat.reduceMul, Nat.reduceSub, reduceCtorEq, Int.reduceToNat]) | (refine Br.mk (fun h => ?_) (fun h => ?_)) | (refine BrN.mk (fun h => ?_) ?_) | (refine AltVC.mk ?_ ?_)
    exact fin_mk (.inr ⟨_, hr, rfl⟩)
  · have h1' : l.length = 1 → l.getD 0 0 < 100 := fun h => by
      have : ¬ 100 ≤ l.getD 0 0 := fun h2 => h1 ⟨h, h2⟩
      omega
    have hnone := rdC_none (ops := ops) h1
    by_cases hl1 : l.length = 1
    all_goals
      first
        | have hl2 := h1' hl1
        | skip
      repeat' first | (refine Br.dec (fun h => ?_) (fun h => ?_) <;> try (exfalso; omega)) | (refine Br.eqi (fun h => ?_) (fun h => ?_) <;> try (exfalso; omega)) | (simp (disch := (first | omega | (simp only [vlen]; first | done | omega))) only [vcs2, ↓va0, ↓va1, ↓va2, ↓va3, vb0, vb1, vb2, vb3, vb4, vb5, vb6, vb7, vb8, vb9, vb10, vz0, vz1, vy0, vx0, ↓reduceIte, Nat.reduceBEq, Nat.reduceEqDiff, Nat.reduceLT, Nat.reduceLeDiff, Nat.reduceAdd, Nat.reduceMul, Nat.reduceSub, reduceCtorEq, Int.reduceToNat]) | (refine Br.mk (fun h => ?_) (fun h => ?_)) | (refine BrN.mk (fun h => ?_) ?_) | (refine AltVC.mk ?_ ?_)
      refine LoopVC.mk (X := Nat × Int × Int) (fun x => [(6, iv .i64 x.2.1), (7, iv .i64 x.2.2), (29, iv .i64 x.1)]) (fun x => []) (fun x => l.length - x.1) (fun x => x.1 ≤ l.length ∧ scC ops l x.1 = some (x.2.1, x.2.2)) (0, 0, -1) ⟨Nat.zero_le _, rfl⟩ ?_ ?_
      · (simp (disch := (first | omega | (simp only [vlen]; first | done | omega))) only [Fits_u, Fits_m, Fits_nil, List.length_append, vcs2, ↓va0, ↓va1, ↓va2, ↓va3, vb0, vb1, vb2, vb3, vb4, vb5, vb6, vb7, vb8, vb9, vb10, vz0, vz1, vy0, vx0, ↓reduceIte, Nat.reduceBEq, Nat.reduceEqDiff, Nat.reduceLT, Nat.reduceLeDiff, Nat.reduceAdd, Nat.reduceMul, Nat.reduceSub, reduceCtorEq, Int.reduceToNat] <;> (repeat' first | rfl | apply And.intro))
        all_goals first | rfl | skip
      · rintro ⟨k, d, la⟩ ⟨hk, hs⟩
        simp only at hk hs ⊢
        obtain ⟨k1, k2, k3⟩ := scC_spec hc hv hk hs
        have hd0 : 0 ≤ d := by rw [k1]; exact k2 k (Nat.le_refl _)
        have hdk : d ≤ 4000 := by
          have := @dep_le (l.take k)
          rw [List.length_take] at this
          omega
        have hlab : la = -1 ∨ ∃ n : Nat, la = n ∧ n < k ∧ isO (l.getD n 0) := by
          rcases k3 with ⟨h, _⟩ | ⟨n, h, hL⟩
          · exact .inl h
          · exact .inr ⟨n, h, hL.lt, hL.op⟩
        by_cases hkl : k < l.length
        · have hmk : l.getD k 0 ∈ l := getD_mem' hkl
          have hvk := hv _ hmk
          have hsx := fun e la' h1 h2 h3 => sc_next (e := e) (la' := la') hs h1 h2 h3
          have hst := fun h => sc_fail (sc_stop hs h) l.length (by omega)
          obtain ⟨x, hx⟩ : ∃ x, l.getD k 0 = x := ⟨_, rfl⟩
          rw [hx] at hsx hst hvk
          by_cases hx1 : x = -1
          · subst hx1
            have hs2 := hsx (d + 1) la (fun h => by omega) rfl (if_neg (fun h => by have := h.2.1.1; omega))
            repeat' first | (refine Br.dec (fun h => ?_) (fun h => ?_) <;> try (exfalso; omega)) | (refine Br.eqi (fun h => ?_) (fun h => ?_) <;> try (exfalso; omega)) | (simp (disch := (first | omega | (simp only [vlen]; first | done | omega))) only [vcs2, hx, ↓va0, ↓va1, ↓va2, ↓va3, vb0, vb1, vb2, vb3, vb4, vb5, vb6, vb7, vb8, vb9, vb10, vz0, vz1, vy0, vx0, ↓reduceIte, Nat.reduceBEq, Nat.reduceEqDiff, Nat.reduceLT, Nat.reduceLeDiff, Nat.reduceAdd, Nat.reduceMul, Nat.reduceSub, reduceCtorEq, Int.reduceToNat]) | (refine Br.mk (fun h => ?_) (fun h => ?_)) | (refine BrN.mk (fun h => ?_) ?_) | (refine AltVC.mk ?_ ?_)
            refine loopK.mk (k + 1, d + 1, la) (by simp (disch := (first | omega | (simp only [vlen]; first | done | omega))) only [↓va0, ↓va1, ↓va2, ↓va3, vb0, vb1, vb2, vb3, vb4, vb5, vb6, vb7, vb8, vb9, vb10, vz0, vz1, vy0, vx0, ↓reduceIte, Nat.reduceBEq, Nat.reduceEqDiff, Nat.reduceLT, Nat.reduceLeDiff, Nat.reduceAdd, Nat.reduceMul, Nat.reduceSub, reduceCtorEq, Int.reduceToNat]) ⟨by show k + 1 ≤ l.length; omega, hs2⟩ (by show l.length - (k + 1) < l.length - k; omega) ?_
            (simp (disch := (first | omega | (simp only [vlen]; first | done | omega))) only [Fits_u, Fits_m, Fits_nil, List.length_append, vcs2, ↓va0, ↓va1, ↓va2, ↓va3, vb0, vb1, vb2, vb3, vb4, vb5, vb6, vb7, vb8, vb9, vb10, vz0, vz1, vy0, vx0, ↓reduceIte, Nat.reduceBEq, Nat.reduceEqDiff, Nat.reduceLT, Nat.reduceLeDiff, Nat.reduceAdd, Nat.reduceMul, Nat.reduceSub, reduceCtorEq, Int.reduceToNat] <;> (repeat' first | rfl | apply And.intro))
            all_goals first | rfl | exact viEq (by omega) | skip
          · by_cases hx2 : x = -2
            · subst hx2
              have e2 : dp1 (-2) = -1 := rfl
              by_cases hneg : d - 1 < 0
              · have hno := hnone (hst ⟨rfl, by rw [e2]; omega⟩)
                repeat' first | (refine Br.dec (fun h => ?_) (fun h => ?_) <;> try (exfalso; omega)) | (refine Br.eqi (fun h => ?_) (fun h => ?_) <;> try (exfalso; omega)) | (simp (disch := (first | omega | (simp only [vlen]; first | done | omega))) only [vcs2, hx, ↓va0, ↓va1, ↓va2, ↓va3, vb0, vb1, vb2, vb3, vb4, vb5, vb6, vb7, vb8, vb9, vb10, vz0, vz1, vy0, vx0, ↓reduceIte, Nat.reduceBEq, Nat.reduceEqDiff, Nat.reduceLT, Nat.reduceLeDiff, Nat.reduceAdd, Nat.reduceMul, Nat.reduceSub, reduceCtorEq, Int.reduceToNat]) | (refine Br.mk (fun h => ?_) (fun h => ?_)) | (refine BrN.mk (fun h => ?_) ?_) | (refine AltVC.mk ?_ ?_)
                exact fin_mk (.inl ⟨hno, rfl⟩)
              · have hs2 := hsx (d - 1) la (fun h => by rw [e2] at h; omega) (by rw [e2]; omega) (if_neg (fun h => by have := h.2.1.1; omega))
                repeat' first | (refine Br.dec (fun h => ?_) (fun h => ?_) <;> try (exfalso; omega)) | (refine Br.eqi (fun h => ?_) (fun h => ?_) <;> try (exfalso; omega)) | (simp (disch := (first | omega | (simp only [vlen]; first | done | omega))) only [vcs2, hx, ↓va0, ↓va1, ↓va2, ↓va3, vb0, vb1, vb2, vb3, vb4, vb5, vb6, vb7, vb8, vb9, vb10, vz0, vz1, vy0, vx0, ↓reduceIte, Nat.reduceBEq, Nat.reduceEqDiff, Nat.reduceLT, Nat.reduceLeDiff, Nat.reduceAdd, Nat.reduceMul, Nat.reduceSub, reduceCtorEq, Int.reduceToNat]) | (refine Br.mk (fun h => ?_) (fun h => ?_)) | (refine BrN.mk (fun h => ?_) ?_) | (refine AltVC.mk ?_ ?_)
                all_goals
                  refine loopK.mk (k + 1, d - 1, la) (by simp (disch := (first | omega | (simp only [vlen]; first | done | omega))) only [↓va0, ↓va1, ↓va2, ↓va3, vb0, vb1, vb2, vb3, vb4, vb5, vb6, vb7, vb8, vb9, vb10, vz0, vz1, vy0, vx0, ↓reduceIte, Nat.reduceBEq, Nat.reduceEqDiff, Nat.reduceLT, Nat.reduceLeDiff, Nat.reduceAdd, Nat.reduceMul, Nat.reduceSub, reduceCtorEq, Int.reduceToNat]) ⟨by show k + 1 ≤ l.length; omega, hs2⟩ (by show l.length - (k + 1) < l.length - k; omega) ?_
                  (simp (disch := (first | omega | (simp only [vlen]; first | done | omega))) only [Fits_u, Fits_m, Fits_nil, List.length_append, vcs2, ↓va0, ↓va1, ↓va2, ↓va3, vb0, vb1, vb2, vb3, vb4, vb5, vb6, vb7, vb8, vb9, vb10, vz0, vz1, vy0, vx0, ↓reduceIte, Nat.reduceBEq, Nat.reduceEqDiff, Nat.reduceLT, Nat.reduceLeDiff, Nat.reduceAdd, Nat.reduceMul, Nat.reduceSub, reduceCtorEq, Int.reduceToNat] <;> (repeat' first | rfl | apply And.intro))
                  all_goals first | rfl | exact viEq (by omega) | skip
            · have e0 : dp1 x = 0 := by unfold dp1; rw [if_neg hx1, if_neg hx2]
              by_cases hxv : 100 ≤ x
              · have hs2 := hsx d la (fun h => by omega) (by rw [e0]; omega) (if_neg (fun h => by have := h.2.1.2; omega))
                repeat' first | (refine Br.dec (fun h => ?_) (fun h => ?_) <;> try (exfalso; omega)) | (refine Br.eqi (fun h => ?_) (fun h => ?_) <;> try (exfalso; omega)) | (simp (disch := (first | omega | (simp only [vlen]; first | done | omega))) only [vcs2, hx, ↓va0, ↓va1, ↓va2, ↓va3, vb0, vb1, vb2, vb3, vb4, vb5, vb6, vb7, vb8, vb9, vb10, vz0, vz1, vy0, vx0, ↓reduceIte, Nat.reduceBEq, Nat.reduceEqDiff, Nat.reduceLT, Nat.reduceLeDiff, Nat.reduceAdd, Nat.reduceMul, Nat.reduceSub, reduceCtorEq, Int.reduceToNat]) | (refine Br.mk (fun h => ?_) (fun h => ?_)) | (refine BrN.mk (fun h => ?_) ?_) | (refine AltVC.mk ?_ ?_)
                all_goals
                  refine loopK.mk (k + 1, d, la) (by simp (disch := (first | omega | (simp only [vlen]; first | done | omega))) only [↓va0, ↓va1, ↓va2, ↓va3, vb0, vb1, vb2, vb3, vb4, vb5, vb6, vb7, vb8, vb9, vb10, vz0, vz1, vy0, vx0, ↓reduceIte, Nat.reduceBEq, Nat.reduceEqDiff, Nat.reduceLT, Nat.reduceLeDiff, Nat.reduceAdd, Nat.reduceMul, Nat.reduceSub, reduceCtorEq, Int.reduceToNat]) ⟨by show k + 1 ≤ l.length; omega, hs2⟩ (by show l.length - (k + 1) < l.length - k; omega) ?_
                  (simp (disch := (first | omega | (simp only [vlen]; first | done | omega))) only [Fits_u, Fits_m, Fits_nil, List.length_append, vcs2, ↓va0, ↓va1, ↓va2, ↓va3, vb0, vb1, vb2, vb3, vb4, vb5, vb6, vb7, vb8, vb9, vb10, vz0, vz1, vy0, vx0, ↓reduceIte, Nat.reduceBEq, Nat.reduceEqDiff, Nat.reduceLT, Nat.reduceLeDiff, Nat.reduceAdd, Nat.reduceMul, Nat.reduceSub, reduceCtorEq, Int.reduceToNat] <;> (repeat' first | rfl | apply And.intro))
                  all_goals first | rfl | exact viEq (by omega) | skip
              · have hxn : 0 ≤ x ∧ x < ops.length := by unfold vS at hvk; omega
                have hxo : isO x := by unfold isO; omega
                obtain ⟨xn, rfl⟩ : ∃ xn : Nat, x = xn := ⟨x.toNat, by omega⟩
                by_cases hdz : d = 0
                · subst hdz
                  rcases hlab with hlab | ⟨n, hlab, hnk, hno⟩
                  · subst hlab
                    have hs2 := hsx 0 k (fun h => by omega) (by rw [e0]; omega) (if_pos ⟨rfl, hxo, .inl (by omega)⟩)
                    repeat' first | (refine Br.dec (fun h => ?_) (fun h => ?_) <;> try (exfalso; omega)) | (refine Br.eqi (fun h => ?_) (fun h => ?_) <;> try (exfalso; omega)) | (simp (disch := (first | omega | (simp only [vlen]; first | done | omega))) only [vcs2, hx, ↓va0, ↓va1, ↓va2, ↓va3, vb0, vb1, vb2, vb3, vb4, vb5, vb6, vb7, vb8, vb9, vb10, vz0, vz1, vy0, vx0, ↓reduceIte, Nat.reduceBEq, Nat.reduceEqDiff, Nat.reduceLT, Nat.reduceLeDiff, Nat.reduceAdd, Nat.reduceMul, Nat.reduceSub, reduceCtorEq, Int.reduceToNat]) | (refine Br.mk (fun h => ?_) (fun h => ?_)) | (refine BrN.mk (fun h => ?_) ?_) | (refine AltVC.mk ?_ ?_)
                    refine loopK.mk (k + 1, 0, (k : Int)) (by simp (disch := (first | omega | (simp only [vlen]; first | done | omega))) only [↓va0, ↓va1, ↓va2, ↓va3, vb0, vb1, vb2, vb3, vb4, vb5, vb6, vb7, vb8, vb9, vb10, vz0, vz1, vy0, vx0, ↓reduceIte, Nat.reduceBEq, Nat.reduceEqDiff, Nat.reduceLT, Nat.reduceLeDiff, Nat.reduceAdd, Nat.reduceMul, Nat.reduceSub, reduceCtorEq, Int.reduceToNat]) ⟨by show k + 1 ≤ l.length; omega, hs2⟩ (by show l.length - (k + 1) < l.length - k; omega) ?_
                    (simp (disch := (first | omega | (simp only [vlen]; first | done | omega))) only [Fits_u, Fits_m, Fits_nil, List.length_append, vcs2, ↓va0, ↓va1, ↓va2, ↓va3, vb0, vb1, vb2, vb3, vb4, vb5, vb6, vb7, vb8, vb9, vb10, vz0, vz1, vy0, vx0, ↓reduceIte, Nat.reduceBEq, Nat.reduceEqDiff, Nat.reduceLT, Nat.reduceLeDiff, Nat.reduceAdd, Nat.reduceMul, Nat.reduceSub, reduceCtorEq, Int.reduceToNat] <;> (repeat' first | rfl | apply And.intro))
                    all_goals first | rfl | exact viEq (by omega) | skip
                  · subst hlab
                    have hvn := hv _ (show l.getD n 0 ∈ l from getD_mem' (by omega))
                    have hyn : 0 ≤ l.getD n 0 ∧ l.getD n 0 < ops.length := by unfold isO at hno; unfold vS at hvn; omega
                    obtain ⟨yn, hy⟩ : ∃ yn : Nat, l.getD n 0 = yn := ⟨(l.getD n 0).toNat, by omega⟩
                    rw [hy] at hyn
                    rw [Int.toNat_natCast, hy] at hsx
                    have ech : chs ops xn yn = (decide ((ops.getD xn default).level < (ops.getD yn default).level) || (decide ((ops.getD xn default).level = (ops.getD yn default).level) && !(ops.getD xn default).right)) := rfl
                    cases hch : chs ops xn yn with
                    | true =>
                      have hs2 := hsx 0 k (fun h => by omega) (by rw [e0]; omega) (if_pos ⟨rfl, hxo, .inr hch⟩)
                      rw [ech] at hch
                      by_cases hlt : (ops.getD xn default).level < (ops.getD yn default).level
                      · repeat' first | (refine Br.dec (fun h => ?_) (fun h => ?_) <;> try (exfalso; omega)) | (refine Br.eqi (fun h => ?_) (fun h => ?_) <;> try (exfalso; omega)) | (simp (disch := (first | omega | (simp only [vlen]; first | done | omega))) only [vcs2, hx, hy, ↓va0, ↓va1, ↓va2, ↓va3, vb0, vb1, vb2, vb3, vb4, vb5, vb6, vb7, vb8, vb9, vb10, vz0, vz1, vy0, vx0, ↓reduceIte, Nat.reduceBEq, Nat.reduceEqDiff, Nat.reduceLT, Nat.reduceLeDiff, Nat.reduceAdd, Nat.reduceMul, Nat.reduceSub, reduceCtorEq, Int.reduceToNat]) | (refine Br.mk (fun h => ?_) (fun h => ?_)) | (refine BrN.mk (fun h => ?_) ?_) | (refine AltVC.mk ?_ ?_)
                        all_goals
                          refine loopK.mk (k + 1, 0, (k : Int)) (by simp (disch := (first | omega | (simp only [vlen]; first | done | omega))) only [↓va0, ↓va1, ↓va2, ↓va3, vb0, vb1, vb2, vb3, vb4, vb5, vb6, vb7, vb8, vb9, vb10, vz0, vz1, vy0, vx0, ↓reduceIte, Nat.reduceBEq, Nat.reduceEqDiff, Nat.reduceLT, Nat.reduceLeDiff, Nat.reduceAdd, Nat.reduceMul, Nat.reduceSub, reduceCtorEq, Int.reduceToNat]) ⟨by show k + 1 ≤ l.length; omega, hs2⟩ (by show l.length - (k + 1) < l.length - k; omega) ?_
                          (simp (disch := (first | omega | (simp only [vlen]; first | done | omega))) only [Fits_u, Fits_m, Fits_nil, List.length_append, vcs2, ↓va0, ↓va1, ↓va2, ↓va3, vb0, vb1, vb2, vb3, vb4, vb5, vb6, vb7, vb8, vb9, vb10, vz0, vz1, vy0, vx0, ↓reduceIte, Nat.reduceBEq, Nat.reduceEqDiff, Nat.reduceLT, Nat.reduceLeDiff, Nat.reduceAdd, Nat.reduceMul, Nat.reduceSub, reduceCtorEq, Int.reduceToNat] <;> (repeat' first | rfl | apply And.intro))
                          all_goals first | rfl | exact viEq (by omega) | skip
                      · rw [decide_eq_false hlt, Bool.false_or, Bool.and_eq_true, decide_eq_true_eq] at hch
                        obtain ⟨hle, hrt⟩ := hch
                        have hrt2 : (ops.getD xn default).right = false := by simpa using hrt
                        repeat' first | (refine Br.dec (fun h => ?_) (fun h => ?_) <;> try (exfalso; omega)) | (refine Br.eqi (fun h => ?_) (fun h => ?_) <;> try (exfalso; omega)) | (simp (disch := (first | omega | (simp only [vlen]; first | done | omega))) only [vcs2, hx, hy, hrt2, ↓va0, ↓va1, ↓va2, ↓va3, vb0, vb1, vb2, vb3, vb4, vb5, vb6, vb7, vb8, vb9, vb10, vz0, vz1, vy0, vx0, ↓reduceIte, Nat.reduceBEq, Nat.reduceEqDiff, Nat.reduceLT, Nat.reduceLeDiff, Nat.reduceAdd, Nat.reduceMul, Nat.reduceSub, reduceCtorEq, Int.reduceToNat]) | (refine Br.mk (fun h => ?_) (fun h => ?_)) | (refine BrN.mk (fun h => ?_) ?_) | (refine AltVC.mk ?_ ?_)
                        all_goals
                          refine loopK.mk (k + 1, 0, (k : Int)) (by simp (disch := (first | omega | (simp only [vlen]; first | done | omega))) only [↓va0, ↓va1, ↓va2, ↓va3, vb0, vb1, vb2, vb3, vb4, vb5, vb6, vb7, vb8, vb9, vb10, vz0, vz1, vy0, vx0, ↓reduceIte, Nat.reduceBEq, Nat.reduceEqDiff, Nat.reduceLT, Nat.reduceLeDiff, Nat.reduceAdd, Nat.reduceMul, Nat.reduceSub, reduceCtorEq, Int.reduceToNat]) ⟨by show k + 1 ≤ l.length; omega, hs2⟩ (by show l.length - (k + 1) < l.length - k; omega) ?_
                          (simp (disch := (first | omega | (simp only [vlen]; first | done | omega))) only [Fits_u, Fits_m, Fits_nil, List.length_append, vcs2, ↓va0, ↓va1, ↓va2, ↓va3, vb0, vb1, vb2, vb3, vb4, vb5, vb6, vb7, vb8, vb9, vb10, vz0, vz1, vy0, vx0, ↓reduceIte, Nat.reduceBEq, Nat.reduceEqDiff, Nat.reduceLT, Nat.reduceLeDiff, Nat.reduceAdd, Nat.reduceMul, Nat.reduceSub, reduceCtorEq, Int.reduceToNat] <;> (repeat' first | rfl | apply And.intro))
                          all_goals first | rfl | exact viEq (by omega) | skip
                    | false =>
                      have hs2 := hsx 0 n (fun h => by omega) (by rw [e0]; omega) (if_neg (fun h => by rcases h.2.2 with h | h; omega; rw [hch] at h; cases h))
                      rw [ech] at hch
                      rw [Bool.or_eq_false_iff, decide_eq_false_iff_not, Bool.and_eq_false_iff, decide_eq_false_iff_not] at hch
                      obtain ⟨hlt, hle⟩ := hch
                      by_cases hle2 : (ops.getD xn default).level = (ops.getD yn default).level
                      · have hrt2 : (ops.getD xn default).right = true := by
                          rcases hle with h | h
                          · exact absurd hle2 h
                          · simpa using h
                        repeat' first | (refine Br.dec (fun h => ?_) (fun h => ?_) <;> try (exfalso; omega)) | (refine Br.eqi (fun h => ?_) (fun h => ?_) <;> try (exfalso; omega)) | (simp (disch := (first | omega | (simp only [vlen]; first | done | omega))) only [vcs2, hx, hy, hrt2, ↓va0, ↓va1, ↓va2, ↓va3, vb0, vb1, vb2, vb3, vb4, vb5, vb6, vb7, vb8, vb9, vb10, vz0, vz1, vy0, vx0, ↓reduceIte, Nat.reduceBEq, Nat.reduceEqDiff, Nat.reduceLT, Nat.reduceLeDiff, Nat.reduceAdd, Nat.reduceMul, Nat.reduceSub, reduceCtorEq, Int.reduceToNat]) | (refine Br.mk (fun h => ?_) (fun h => ?_)) | (refine BrN.mk (fun h => ?_) ?_) | (refine AltVC.mk ?_ ?_)
                        all_goals
                          refine loopK.mk (k + 1, 0, (n : Int)) (by simp (disch := (first | omega | (simp only [vlen]; first | done | omega))) only [↓va0, ↓va1, ↓va2, ↓va3, vb0, vb1, vb2, vb3, vb4, vb5, vb6, vb7, vb8, vb9, vb10, vz0, vz1, vy0, vx0, ↓reduceIte, Nat.reduceBEq, Nat.reduceEqDiff, Nat.reduceLT, Nat.reduceLeDiff, Nat.reduceAdd, Nat.reduceMul, Nat.reduceSub, reduceCtorEq, Int.reduceToNat]) ⟨by show k + 1 ≤ l.length; omega, hs2⟩ (by show l.length - (k + 1) < l.length - k; omega) ?_
                          (simp (disch := (first | omega | (simp only [vlen]; first | done | omega))) only [Fits_u, Fits_m, Fits_nil, List.length_append, vcs2, ↓va0, ↓va1, ↓va2, ↓va3, vb0, vb1, vb2, vb3, vb4, vb5, vb6, vb7, vb8, vb9, vb10, vz0, vz1, vy0, vx0, ↓reduceIte, Nat.reduceBEq, Nat.reduceEqDiff, Nat.reduceLT, Nat.reduceLeDiff, Nat.reduceAdd, Nat.reduceMul, Nat.reduceSub, reduceCtorEq, Int.reduceToNat] <;> (repeat' first | rfl | apply And.intro))
                          all_goals first | rfl | exact viEq (by omega) | skip
                      · repeat' first | (refine Br.dec (fun h => ?_) (fun h => ?_) <;> try (exfalso; omega)) | (refine Br.eqi (fun h => ?_) (fun h => ?_) <;> try (exfalso; omega)) | (simp (disch := (first | omega | (simp only [vlen]; first | done | omega))) only [vcs2, hx, hy, ↓va0, ↓va1, ↓va2, ↓va3, vb0, vb1, vb2, vb3, vb4, vb5, vb6, vb7, vb8, vb9, vb10, vz0, vz1, vy0, vx0, ↓reduceIte, Nat.reduceBEq, Nat.reduceEqDiff, Nat.reduceLT, Nat.reduceLeDiff, Nat.reduceAdd, Nat.reduceMul, Nat.reduceSub, reduceCtorEq, Int.reduceToNat]) | (refine Br.mk (fun h => ?_) (fun h => ?_)) | (refine BrN.mk (fun h => ?_) ?_) | (refine AltVC.mk ?_ ?_)
                        all_goals
                          refine loopK.mk (k + 1, 0, (n : Int)) (by simp (disch := (first | omega | (simp only [vlen]; first | done | omega))) only [↓va0, ↓va1, ↓va2, ↓va3, vb0, vb1, vb2, vb3, vb4, vb5, vb6, vb7, vb8, vb9, vb10, vz0, vz1, vy0, vx0, ↓reduceIte, Nat.reduceBEq, Nat.reduceEqDiff, Nat.reduceLT, Nat.reduceLeDiff, Nat.reduceAdd, Nat.reduceMul, Nat.reduceSub, reduceCtorEq, Int.reduceToNat]) ⟨by show k + 1 ≤ l.length; omega, hs2⟩ (by show l.length - (k + 1) < l.length - k; omega) ?_
                          (simp (disch := (first | omega | (simp only [vlen]; first | done | omega))) only [Fits_u, Fits_m, Fits_nil, List.length_append, vcs2, ↓va0, ↓va1, ↓va2, ↓va3, vb0, vb1, vb2, vb3, vb4, vb5, vb6, vb7, vb8, vb9, vb10, vz0, vz1, vy0, vx0, ↓reduceIte, Nat.reduceBEq, Nat.reduceEqDiff, Nat.reduceLT, Nat.reduceLeDiff, Nat.reduceAdd, Nat.reduceMul, Nat.reduceSub, reduceCtorEq, Int.reduceToNat] <;> (repeat' first | rfl | apply And.intro))
                          all_goals first | rfl | exact viEq (by omega) | skip
                · have hs2 := hsx d la (fun h => by omega) (by rw [e0]; omega) (if_neg (fun h => hdz h.1))
                  repeat' first | (refine Br.dec (fun h => ?_) (fun h => ?_) <;> try (exfalso; omega)) | (refine Br.eqi (fun h => ?_) (fun h => ?_) <;> try (exfalso; omega)) | (simp (disch := (first | omega | (simp only [vlen]; first | done | omega))) only [vcs2, hx, ↓va0, ↓va1, ↓va2, ↓va3, vb0, vb1, vb2, vb3, vb4, vb5, vb6, vb7, vb8, vb9, vb10, vz0, vz1, vy0, vx0, ↓reduceIte, Nat.reduceBEq, Nat.reduceEqDiff, Nat.reduceLT, Nat.reduceLeDiff, Nat.reduceAdd, Nat.reduceMul, Nat.reduceSub, reduceCtorEq, Int.reduceToNat]) | (refine Br.mk (fun h => ?_) (fun h => ?_)) | (refine BrN.mk (fun h => ?_) ?_) | (refine AltVC.mk ?_ ?_)
                  refine loopK.mk (k + 1, d, la) (by simp (disch := (first | omega | (simp only [vlen]; first | done | omega))) only [↓va0, ↓va1, ↓va2, ↓va3, vb0, vb1, vb2, vb3, vb4, vb5, vb6, vb7, vb8, vb9, vb10, vz0, vz1, vy0, vx0, ↓reduceIte, Nat.reduceBEq, Nat.reduceEqDiff, Nat.reduceLT, Nat.reduceLeDiff, Nat.reduceAdd, Nat.reduceMul, Nat.reduceSub, reduceCtorEq, Int.reduceToNat]) ⟨by show k + 1 ≤ l.length; omega, hs2⟩ (by show l.length - (k + 1) < l.length - k; omega) ?_
                  (simp (disch := (first | omega | (simp only [vlen]; first | done | omega))) only [Fits_u, Fits_m, Fits_nil, List.length_append, vcs2, ↓va0, ↓va1, ↓va2, ↓va3, vb0, vb1, vb2, vb3, vb4, vb5, vb6, vb7, vb8, vb9, vb10, vz0, vz1, vy0, vx0, ↓reduceIte, Nat.reduceBEq, Nat.reduceEqDiff, Nat.reduceLT, Nat.reduceLeDiff, Nat.reduceAdd, Nat.reduceMul, Nat.reduceSub, reduceCtorEq, Int.reduceToNat] <;> (repeat' first | rfl | apply And.intro))
                  all_goals first | rfl | exact viEq (by omega) | skip
        · have hkn : k = l.length := by omega
          subst hkn
          have hdeep := rdC_deep (ops := ops) h1 hs
          have hbad := rdC_bad (ops := ops) h1 hs
          have hpar := rdC_par (ops := ops) h1 hs
          simp only at hdeep hbad hpar
          by_cases hdz : d = 0
          rotate_left
          · have hno := hdeep hdz
            repeat' first | (refine Br.dec (fun h => ?_) (fun h => ?_) <;> try (exfalso; omega)) | (refine Br.eqi (fun h => ?_) (fun h => ?_) <;> try (exfalso; omega)) | (simp (disch := (first | omega | (simp only [vlen]; first | done | omega))) only [vcs2, ↓va0, ↓va1, ↓va2, ↓va3, vb0, vb1, vb2, vb3, vb4, vb5, vb6, vb7, vb8, vb9, vb10, vz0, vz1, vy0, vx0, ↓reduceIte, Nat.reduceBEq, Nat.reduceEqDiff, Nat.reduceLT, Nat.reduceLeDiff, Nat.reduceAdd, Nat.reduceMul, Nat.reduceSub, reduceCtorEq, Int.reduceToNat]) | (refine Br.mk (fun h => ?_) (fun h => ?_)) | (refine BrN.mk (fun h => ?_) ?_) | (refine AltVC.mk ?_ ?_)
            exact fin_mk (.inl ⟨hno, rfl⟩)
          subst hdz
          rcases hlab with hlab | ⟨n, hlab, hnk, hno⟩
          · subst hlab
            by_cases c1 : l.length < 3
            · have hno := hbad rfl (by omega) (.inl c1)
              repeat' first | (refine Br.dec (fun h => ?_) (fun h => ?_) <;> try (exfalso; omega)) | (refine Br.eqi (fun h => ?_) (fun h => ?_) <;> try (exfalso; omega)) | (simp (disch := (first | omega | (simp only [vlen]; first | done | omega))) only [vcs2, ↓va0, ↓va1, ↓va2, ↓va3, vb0, vb1, vb2, vb3, vb4, vb5, vb6, vb7, vb8, vb9, vb10, vz0, vz1, vy0, vx0, ↓reduceIte, Nat.reduceBEq, Nat.reduceEqDiff, Nat.reduceLT, Nat.reduceLeDiff, Nat.reduceAdd, Nat.reduceMul, Nat.reduceSub, reduceCtorEq, Int.reduceToNat]) | (refine Br.mk (fun h => ?_) (fun h => ?_)) | (refine BrN.mk (fun h => ?_) ?_) | (refine AltVC.mk ?_ ?_)
              all_goals exact fin_mk (.inl ⟨hno, rfl⟩)
            · obtain ⟨m, hm⟩ : ∃ m, l.length = m + 1 := ⟨l.length - 1, by omega⟩
              have hm1 : l.length - 1 = m := by omega
              have hmi : (l.length : Int) - 1 = m := by omega
              rw [hm1] at hbad hpar
              by_cases c2 : l.getD 0 0 = -1
              rotate_left
              · have hno := hbad rfl (by omega) (.inr (.inl c2))
                repeat' first | (refine Br.dec (fun h => ?_) (fun h => ?_) <;> try (exfalso; omega)) | (refine Br.eqi (fun h => ?_) (fun h => ?_) <;> try (exfalso; omega)) | (simp (disch := (first | omega | (simp only [vlen]; first | done | omega))) only [vcs2, hmi, ↓va0, ↓va1, ↓va2, ↓va3, vb0, vb1, vb2, vb3, vb4, vb5, vb6, vb7, vb8, vb9, vb10, vz0, vz1, vy0, vx0, ↓reduceIte, Nat.reduceBEq, Nat.reduceEqDiff, Nat.reduceLT, Nat.reduceLeDiff, Nat.reduceAdd, Nat.reduceMul, Nat.reduceSub, reduceCtorEq, Int.reduceToNat]) | (refine Br.mk (fun h => ?_) (fun h => ?_)) | (refine BrN.mk (fun h => ?_) ?_) | (refine AltVC.mk ?_ ?_)
                all_goals exact fin_mk (.inl ⟨hno, rfl⟩)
              by_cases c3 : l.getD m 0 = -2
              rotate_left
              · have hno := hbad rfl (by omega) (.inr (.inr c3))
                repeat' first | (refine Br.dec (fun h => ?_) (fun h => ?_) <;> try (exfalso; omega)) | (refine Br.eqi (fun h => ?_) (fun h => ?_) <;> try (exfalso; omega)) | (simp (disch := (first | omega | (simp only [vlen]; first | done | omega))) only [vcs2, hmi, ↓va0, ↓va1, ↓va2, ↓va3, vb0, vb1, vb2, vb3, vb4, vb5, vb6, vb7, vb8, vb9, vb10, vz0, vz1, vy0, vx0, ↓reduceIte, Nat.reduceBEq, Nat.reduceEqDiff, Nat.reduceLT, Nat.reduceLeDiff, Nat.reduceAdd, Nat.reduceMul, Nat.reduceSub, reduceCtorEq, Int.reduceToNat]) | (refine Br.mk (fun h => ?_) (fun h => ?_)) | (refine BrN.mk (fun h => ?_) ?_) | (refine AltVC.mk ?_ ?_)
                all_goals exact fin_mk (.inl ⟨hno, rfl⟩)
              have hp := hpar rfl (by omega) (by omega)
              have hil := @inn_len l
              have hR := refRead_spec ops hn hc (inn l) (by omega) (fun s hs => hv s (List.mem_of_mem_take (List.mem_of_mem_drop hs)))
              have hin : List.drop 1 (List.take m l) = inn l := by unfold inn; rw [hm1]
              repeat' first | (refine Br.dec (fun h => ?_) (fun h => ?_) <;> try (exfalso; omega)) | (refine Br.eqi (fun h => ?_) (fun h => ?_) <;> try (exfalso; omega)) | (simp (disch := (first | omega | (simp only [vlen]; first | done | omega))) only [vcs2, hmi, hin, ↓va0, ↓va1, ↓va2, ↓va3, vb0, vb1, vb2, vb3, vb4, vb5, vb6, vb7, vb8, vb9, vb10, vz0, vz1, vy0, vx0, ↓reduceIte, Nat.reduceBEq, Nat.reduceEqDiff, Nat.reduceLT, Nat.reduceLeDiff, Nat.reduceAdd, Nat.reduceMul, Nat.reduceSub, reduceCtorEq, Int.reduceToNat]) | (refine Br.mk (fun h => ?_) (fun h => ?_)) | (refine BrN.mk (fun h => ?_) ?_) | (refine AltVC.mk ?_ ?_)
              all_goals
                refine CallVC.mk hR ?_
                rintro _ (⟨h2, rfl⟩ | ⟨p, h2, rfl⟩)
                · repeat' first | (refine Br.dec (fun h => ?_) (fun h => ?_) <;> try (exfalso; omega)) | (refine Br.eqi (fun h => ?_) (fun h => ?_) <;> try (exfalso; omega)) | (simp (disch := (first | omega | (simp only [vlen]; first | done | omega))) only [vcs2, ↓va0, ↓va1, ↓va2, ↓va3, vb0, vb1, vb2, vb3, vb4, vb5, vb6, vb7, vb8, vb9, vb10, vz0, vz1, vy0, vx0, ↓reduceIte, Nat.reduceBEq, Nat.reduceEqDiff, Nat.reduceLT, Nat.reduceLeDiff, Nat.reduceAdd, Nat.reduceMul, Nat.reduceSub, reduceCtorEq, Int.reduceToNat]) | (refine Br.mk (fun h => ?_) (fun h => ?_)) | (refine BrN.mk (fun h => ?_) ?_) | (refine AltVC.mk ?_ ?_)
                  exact fin_mk (.inl ⟨hp.trans h2, rfl⟩)
                · repeat' first | (refine Br.dec (fun h => ?_) (fun h => ?_) <;> try (exfalso; omega)) | (refine Br.eqi (fun h => ?_) (fun h => ?_) <;> try (exfalso; omega)) | (simp (disch := (first | omega | (simp only [vlen]; first | done | omega))) only [vcs2, ↓va0, ↓va1, ↓va2, ↓va3, vb0, vb1, vb2, vb3, vb4, vb5, vb6, vb7, vb8, vb9, vb10, vz0, vz1, vy0, vx0, ↓reduceIte, Nat.reduceBEq, Nat.reduceEqDiff, Nat.reduceLT, Nat.reduceLeDiff, Nat.reduceAdd, Nat.reduceMul, Nat.reduceSub, reduceCtorEq, Int.reduceToNat]) | (refine Br.mk (fun h => ?_) (fun h => ?_)) | (refine BrN.mk (fun h => ?_) ?_) | (refine AltVC.mk ?_ ?_)
                  exact fin_mk (.inr ⟨p, hp.trans h2, rfl⟩)
          · subst hlab
            have hbin := rdC_bin (ops := ops) h1 hs rfl hnk
            have hRa := refRead_spec ops hn hc (l.take n) (by rw [List.length_take]; omega) (fun s hs => hv s (List.mem_of_mem_take hs))
            have hRb := refRead_spec ops hn hc (l.drop (n + 1)) (by rw [List.length_drop]; omega) (fun s hs => hv s (List.mem_of_mem_drop hs))
            have hni : ((n : Int) + 1).toNat = n + 1 := by omega
            repeat' first | (refine Br.dec (fun h => ?_) (fun h => ?_) <;> try (exfalso; omega)) | (refine Br.eqi (fun h => ?_) (fun h => ?_) <;> try (exfalso; omega)) | (simp (disch := (first | omega | (simp only [vlen]; first | done | omega))) only [vcs2, hni, ↓va0, ↓va1, ↓va2, ↓va3, vb0, vb1, vb2, vb3, vb4, vb5, vb6, vb7, vb8, vb9, vb10, vz0, vz1, vy0, vx0, ↓reduceIte, Nat.reduceBEq, Nat.reduceEqDiff, Nat.reduceLT, Nat.reduceLeDiff, Nat.reduceAdd, Nat.reduceMul, Nat.reduceSub, reduceCtorEq, Int.reduceToNat]) | (refine Br.mk (fun h => ?_) (fun h => ?_)) | (refine BrN.mk (fun h => ?_) ?_) | (refine AltVC.mk ?_ ?_)
            all_goals
              refine CallVC.mk hRa ?_
              rintro _ (⟨h2, rfl⟩ | ⟨pa, h2, rfl⟩)
              · have hno : rdC ops l = none := by rw [hbin, h2]
                repeat' first | (refine Br.dec (fun h => ?_) (fun h => ?_) <;> try (exfalso; omega)) | (refine Br.eqi (fun h => ?_) (fun h => ?_) <;> try (exfalso; omega)) | (simp (disch := (first | omega | (simp only [vlen]; first | done | omega))) only [vcs2, hni, ↓va0, ↓va1, ↓va2, ↓va3, vb0, vb1, vb2, vb3, vb4, vb5, vb6, vb7, vb8, vb9, vb10, vz0, vz1, vy0, vx0, ↓reduceIte, Nat.reduceBEq, Nat.reduceEqDiff, Nat.reduceLT, Nat.reduceLeDiff, Nat.reduceAdd, Nat.reduceMul, Nat.reduceSub, reduceCtorEq, Int.reduceToNat]) | (refine Br.mk (fun h => ?_) (fun h => ?_)) | (refine BrN.mk (fun h => ?_) ?_) | (refine AltVC.mk ?_ ?_)
                refine CallVC.mk hRb ?_
                rintro _ (⟨h3, rfl⟩ | ⟨pb, h3, rfl⟩)
                · repeat' first | (refine Br.dec (fun h => ?_) (fun h => ?_) <;> try (exfalso; omega)) | (refine Br.eqi (fun h => ?_) (fun h => ?_) <;> try (exfalso; omega)) | (simp (disch := (first | omega | (simp only [vlen]; first | done | omega))) only [vcs2, hni, ↓va0, ↓va1, ↓va2, ↓va3, vb0, vb1, vb2, vb3, vb4, vb5, vb6, vb7, vb8, vb9, vb10, vz0, vz1, vy0, vx0, ↓reduceIte, Nat.reduceBEq, Nat.reduceEqDiff, Nat.reduceLT, Nat.reduceLeDiff, Nat.reduceAdd, Nat.reduceMul, Nat.reduceSub, reduceCtorEq, Int.reduceToNat]) | (refine Br.mk (fun h => ?_) (fun h => ?_)) | (refine BrN.mk (fun h => ?_) ?_) | (refine AltVC.mk ?_ ?_)
                  exact fin_mk (.inl ⟨hno, rfl⟩)
                · repeat' first | (refine Br.dec (fun h => ?_) (fun h => ?_) <;> try (exfalso; omega)) | (refine Br.eqi (fun h => ?_) (fun h => ?_) <;> try (exfalso; omega)) | (simp (disch := (first | omega | (simp only [vlen]; first | done | omega))) only [vcs2, hni, ↓va0, ↓va1, ↓va2, ↓va3, vb0, vb1, vb2, vb3, vb4, vb5, vb6, vb7, vb8, vb9, vb10, vz0, vz1, vy0, vx0, ↓reduceIte, Nat.reduceBEq, Nat.reduceEqDiff, Nat.reduceLT, Nat.reduceLeDiff, Nat.reduceAdd, Nat.reduceMul, Nat.reduceSub, reduceCtorEq, Int.reduceToNat]) | (refine Br.mk (fun h => ?_) (fun h => ?_)) | (refine BrN.mk (fun h => ?_) ?_) | (refine AltVC.mk ?_ ?_)
                  exact fin_mk (.inl ⟨hno, rfl⟩)
              · repeat' first | (refine Br.dec (fun h => ?_) (fun h => ?_) <;> try (exfalso; omega)) | (refine Br.eqi (fun h => ?_) (fun h => ?_) <;> try (exfalso; omega)) | (simp (disch := (first | omega | (simp only [vlen]; first | done | omega))) only [vcs2, hni, ↓va0, ↓va1, ↓va2, ↓va3, vb0, vb1, vb2, vb3, vb4, vb5, vb6, vb7, vb8, vb9, vb10, vz0, vz1, vy0, vx0, ↓reduceIte, Nat.reduceBEq, Nat.reduceEqDiff, Nat.reduceLT, Nat.reduceLeDiff, Nat.reduceAdd, Nat.reduceMul, Nat.reduceSub, reduceCtorEq, Int.reduceToNat]) | (refine Br.mk (fun h => ?_) (fun h => ?_)) | (refine BrN.mk (fun h => ?_) ?_) | (refine AltVC.mk ?_ ?_)
                refine CallVC.mk hRb ?_
                rintro _ (⟨h3, rfl⟩ | ⟨pb, h3, rfl⟩)
                · have hno : rdC ops l = none := by rw [hbin, h2, h3]
                  repeat' first | (refine Br.dec (fun h => ?_) (fun h => ?_) <;> try (exfalso; omega)) | (refine Br.eqi (fun h => ?_) (fun h => ?_) <;> try (exfalso; omega)) | (simp (disch := (first | omega | (simp only [vlen]; first | done | omega))) only [vcs2, hni, ↓va0, ↓va1, ↓va2, ↓va3, vb0, vb1, vb2, vb3, vb4, vb5, vb6, vb7, vb8, vb9, vb10, vz0, vz1, vy0, vx0, ↓reduceIte, Nat.reduceBEq, Nat.reduceEqDiff, Nat.reduceLT, Nat.reduceLeDiff, Nat.reduceAdd, Nat.reduceMul, Nat.reduceSub, reduceCtorEq, Int.reduceToNat]) | (refine Br.mk (fun h => ?_) (fun h => ?_)) | (refine BrN.mk (fun h => ?_) ?_) | (refine AltVC.mk ?_ ?_)
                  exact fin_mk (.inl ⟨hno, rfl⟩)
                · have hyes : rdC ops l = some (pa ++ pb ++ [l.getD n 0]) := by rw [hbin, h2, h3]
                  have hla := rdC_len h2
                  have hlb := rdC_len h3
                  rw [List.length_take] at hla
                  rw [List.length_drop] at hlb
                  repeat' first | (refine Br.dec (fun h => ?_) (fun h => ?_) <;> try (exfalso; omega)) | (refine Br.eqi (fun h => ?_) (fun h => ?_) <;> try (exfalso; omega)) | (simp (disch := (first | omega | (simp only [vlen]; first | done | omega))) only [vcs2, hni, ↓va0, ↓va1, ↓va2, ↓va3, vb0, vb1, vb2, vb3, vb4, vb5, vb6, vb7, vb8, vb9, vb10, vz0, vz1, vy0, vx0, ↓reduceIte, Nat.reduceBEq, Nat.reduceEqDiff, Nat.reduceLT, Nat.reduceLeDiff, Nat.reduceAdd, Nat.reduceMul, Nat.reduceSub, reduceCtorEq, Int.reduceToNat]) | (refine Br.mk (fun h => ?_) (fun h => ?_)) | (refine BrN.mk (fun h => ?_) ?_) | (refine AltVC.mk ?_ ?_)
                  refine DrawVC.t ?_
                  repeat' first | (refine Br.dec (fun h => ?_) (fun h => ?_) <;> try (exfalso; omega)) | (refine Br.eqi (fun h => ?_) (fun h => ?_) <;> try (exfalso; omega)) | (simp (disch := (first | omega | (simp only [vlen]; first | done | omega))) only [vcs2, hni, ↓va0, ↓va1, ↓va2, ↓va3, vb0, vb1, vb2, vb3, vb4, vb5, vb6, vb7, vb8, vb9, vb10, vz0, vz1, vy0, vx0, ↓reduceIte, Nat.reduceBEq, Nat.reduceEqDiff, Nat.reduceLT, Nat.reduceLeDiff, Nat.reduceAdd, Nat.reduceMul, Nat.reduceSub, reduceCtorEq, Int.reduceToNat]) | (refine Br.mk (fun h => ?_) (fun h => ?_)) | (refine BrN.mk (fun h => ?_) ?_) | (refine AltVC.mk ?_ ?_)
                  all_goals exact fin_mk (.inr ⟨_, hyes, rfl⟩)
termination_by l.length
decreasing_by
  all_goals first | (rw [inn_len]; omega) | (rw [List.length_take]; omega) | (rw [List.length_drop]; omega)
end Go.Proofs.Ytllkafockafdcaa
