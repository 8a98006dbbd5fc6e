/-
  coppicerref.Half, Post.
-/
import Derived.Test.YtllkafockafdcaaClimbT
import Derived.Test.YtllkafockafdcaaClimbX
namespace Go.Proofs.Ytllkafockafdcaa
open Go.Dm
set_option linter.unusedSimpArgs false
set_option linter.unnecessarySimpa false
set_option linter.unusedVariables false
set_option linter.defProp false
def sgH (p : List Int) (j : Nat) : List Int := (p.take (p.length - 1)).drop j
theorem sgH_step {p : List Int} {j : Nat} (h : j < p.length - 1) : wgP (sgH p j) = wgS (p.getD j 0) + wgP (sgH p (j + 1)) := by
  unfold sgH
  rw [List.drop_eq_getElem_cons (by rw [List.length_take]; omega)]
  have : (p.take (p.length - 1))[j]'(by rw [List.length_take]; omega) = p.getD j 0 := by
    rw [List.getElem_take]; simp [List.getD, show j < p.length by omega]
  rw [this]; rfl
theorem sgH_end {p : List Int} : wgP (sgH p (p.length - 1)) = 0 := by
  unfold sgH
  rw [List.drop_of_length_le (by rw [List.length_take]; omega)]; rfl
theorem wgP_le : ∀ {l : List Int}, -(l.length : Int) ≤ wgP l ∧ wgP l ≤ l.length
  | [] => by simp [wgP]
  | x :: l => by
    have := @wgP_le l
    have h : -1 ≤ wgS x ∧ wgS x ≤ 1 := by unfold wgS; split <;> omega
    simp only [wgP, List.length_cons]; omega
/-- No short list, and an operator at its end. -/
def HfG (p : List Int) : Prop := 3 ≤ p.length ∧ p.getD (p.length - 1) 0 < 100
def HfR (p : List Int) (r : Int) : Prop := (r = -1 ∧ (HfG p → ∀ j, 0 < j → j < p.length - 1 → wgP (sgH p j) ≠ 1)) ∨ ∃ j : Nat, r = j ∧ HfG p ∧ 0 < j ∧ j < p.length - 1 ∧ wgP (sgH p j) = 1 ∧ ∀ j', j < j' → j' < p.length - 1 → wgP (sgH p j') ≠ 1
set_option maxRecDepth 10000 in
set_option maxHeartbeats 4000000 in
theorem half_spec (p : List Int) (hp : p.length ≤ 60) : Dm.Spec Try.prog 40 [.sl 1 (i64s p)] (fun d => ∃ r, d = iv .i64 r ∧ HfR p r) := by
  refine spec_of_vc mixed Try.func40 c40 (by rw [show Try.f40.ntmps = _ from Try.ntmps40]; simp) ?_
  unfold m40 r40
  by_cases h3 : p.length < 3
  · repeat' first | (refine Br.dec (fun h => ?_) (fun h => ?_) <;> try (exfalso; omega)) | (refine Br.eqi (fun h => ?_) (fun h => ?_) <;> try (exfalso; omega)) | (simp (disch := (first | omega | (simp only [vlen]; first | done | omega))) only [vcs2, ↓va0, ↓va1, ↓va2, ↓va3, vb0, vb1, vb2, vb3, vb4, vb5, vb6, vb7, vb8, vb9, vb10, vz0, vz1, vy0, vx0, ↓reduceIte, Nat.reduceBEq, Nat.reduceEqDiff, Nat.reduceLT, Nat.reduceLeDiff, Nat.reduceAdd, Nat.reduceMul, Nat.reduceSub, reduceCtorEq, Int.reduceToNat]) | (refine Br.mk (fun h => ?_) (fun h => ?_)) | (refine BrN.mk (fun h => ?_) ?_) | (refine AltVC.mk ?_ ?_)
    all_goals exact fin_mk ⟨-1, rfl, .inl ⟨rfl, fun h => by have := h.1; omega⟩⟩
  · obtain ⟨m, hm⟩ : ∃ m, p.length = m + 1 := ⟨p.length - 1, by omega⟩
    have hm1 : p.length - 1 = m := by omega
    have hmi : (p.length : Int) - 1 = m := by omega
    have hmi2 : (p.length : Int) - 2 = ((m - 1 : Nat) : Int) := by omega
    by_cases hl : 100 ≤ p.getD m 0
    · repeat' first | (refine Br.dec (fun h => ?_) (fun h => ?_) <;> try (exfalso; omega)) | (refine Br.eqi (fun h => ?_) (fun h => ?_) <;> try (exfalso; omega)) | (simp (disch := (first | omega | (simp only [vlen]; first | done | omega))) only [vcs2, hmi, hmi2, ↓va0, ↓va1, ↓va2, ↓va3, vb0, vb1, vb2, vb3, vb4, vb5, vb6, vb7, vb8, vb9, vb10, vz0, vz1, vy0, vx0, ↓reduceIte, Nat.reduceBEq, Nat.reduceEqDiff, Nat.reduceLT, Nat.reduceLeDiff, Nat.reduceAdd, Nat.reduceMul, Nat.reduceSub, reduceCtorEq, Int.reduceToNat]) | (refine Br.mk (fun h => ?_) (fun h => ?_)) | (refine BrN.mk (fun h => ?_) ?_) | (refine AltVC.mk ?_ ?_)
      all_goals exact fin_mk ⟨-1, rfl, .inl ⟨rfl, fun h => by have := h.2; rw [hm1] at this; omega⟩⟩
    · have hG : HfG p := ⟨by omega, by rw [hm1]; omega⟩
      repeat' first | (refine Br.dec (fun h => ?_) (fun h => ?_) <;> try (exfalso; omega)) | (refine Br.eqi (fun h => ?_) (fun h => ?_) <;> try (exfalso; omega)) | (simp (disch := (first | omega | (simp only [vlen]; first | done | omega))) only [vcs2, hmi, hmi2, ↓va0, ↓va1, ↓va2, ↓va3, vb0, vb1, vb2, vb3, vb4, vb5, vb6, vb7, vb8, vb9, vb10, vz0, vz1, vy0, vx0, ↓reduceIte, Nat.reduceBEq, Nat.reduceEqDiff, Nat.reduceLT, Nat.reduceLeDiff, Nat.reduceAdd, Nat.reduceMul, Nat.reduceSub, reduceCtorEq, Int.reduceToNat]) | (refine Br.mk (fun h => ?_) (fun h => ?_)) | (refine BrN.mk (fun h => ?_) ?_) | (refine AltVC.mk ?_ ?_)
      refine LoopVC.mk (X := Nat) (fun i => [(3, iv .i64 (1 - wgP (sgH p (i + 1)))), (4, iv .i64 i)]) (fun _ => []) (fun i => i) (fun i => i ≤ m - 1 ∧ ∀ j', i < j' → j' < p.length - 1 → wgP (sgH p j') ≠ 1) (m - 1) ⟨Nat.le_refl _, fun j' h1 h2 => by omega⟩ ?_ ?_
      · (simp (disch := (first | omega | (simp only [vlen]; first | done | omega))) only [Fits_u, Fits_m, Fits_nil, List.length_append, vcs2, ↓va0, ↓va1, ↓va2, ↓va3, vb0, vb1, vb2, vb3, vb4, vb5, vb6, vb7, vb8, vb9, vb10, vz0, vz1, vy0, vx0, ↓reduceIte, Nat.reduceBEq, Nat.reduceEqDiff, Nat.reduceLT, Nat.reduceLeDiff, Nat.reduceAdd, Nat.reduceMul, Nat.reduceSub, reduceCtorEq, Int.reduceToNat] <;> (repeat' first | rfl | apply And.intro))
        all_goals first
          | rfl
          | (refine viEq ?_
             rw [show m - 1 + 1 = p.length - 1 by omega, sgH_end]; rfl)
          | skip
      · rintro i ⟨hi, hno⟩
        have hb := @wgP_le (sgH p (i + 1))
        have hbl : (sgH p (i + 1)).length ≤ 60 := by unfold sgH; rw [List.length_drop, List.length_take]; omega
        by_cases hi0 : i = 0
        · subst hi0
          repeat' first | (refine Br.dec (fun h => ?_) (fun h => ?_) <;> try (exfalso; omega)) | (refine Br.eqi (fun h => ?_) (fun h => ?_) <;> try (exfalso; omega)) | (simp (disch := (first | omega | (simp only [vlen]; first | done | omega))) only [vcs2, ↓va0, ↓va1, ↓va2, ↓va3, vb0, vb1, vb2, vb3, vb4, vb5, vb6, vb7, vb8, vb9, vb10, vz0, vz1, vy0, vx0, ↓reduceIte, Nat.reduceBEq, Nat.reduceEqDiff, Nat.reduceLT, Nat.reduceLeDiff, Nat.reduceAdd, Nat.reduceMul, Nat.reduceSub, reduceCtorEq, Int.reduceToNat]) | (refine Br.mk (fun h => ?_) (fun h => ?_)) | (refine BrN.mk (fun h => ?_) ?_) | (refine AltVC.mk ?_ ?_)
          all_goals exact fin_mk ⟨-1, rfl, .inl ⟨rfl, fun _ j h1 h2 => hno j h1 h2⟩⟩
        · have hst := @sgH_step p i (by omega)
          obtain ⟨k, rfl⟩ : ∃ k, i = k + 1 := ⟨i - 1, by omega⟩
          by_cases hv : 100 ≤ p.getD (k + 1) 0
          · have hw : wgS (p.getD (k + 1) 0) = 1 := if_pos hv
            rw [hw] at hst
            by_cases hz : wgP (sgH p (k + 1)) = 1
            · repeat' first | (refine Br.dec (fun h => ?_) (fun h => ?_) <;> try (exfalso; omega)) | (refine Br.eqi (fun h => ?_) (fun h => ?_) <;> try (exfalso; omega)) | (simp (disch := (first | omega | (simp only [vlen]; first | done | omega))) only [vcs2, ↓va0, ↓va1, ↓va2, ↓va3, vb0, vb1, vb2, vb3, vb4, vb5, vb6, vb7, vb8, vb9, vb10, vz0, vz1, vy0, vx0, ↓reduceIte, Nat.reduceBEq, Nat.reduceEqDiff, Nat.reduceLT, Nat.reduceLeDiff, Nat.reduceAdd, Nat.reduceMul, Nat.reduceSub, reduceCtorEq, Int.reduceToNat]) | (refine Br.mk (fun h => ?_) (fun h => ?_)) | (refine BrN.mk (fun h => ?_) ?_) | (refine AltVC.mk ?_ ?_)
              all_goals first
                | (exfalso; omega; done)
                | exact fin_mk ⟨((k + 1 : Nat) : Int), rfl, .inr ⟨k + 1, rfl, hG, by omega, by omega, hz, hno⟩⟩
            · repeat' first | (refine Br.dec (fun h => ?_) (fun h => ?_) <;> try (exfalso; omega)) | (refine Br.eqi (fun h => ?_) (fun h => ?_) <;> try (exfalso; omega)) | (simp (disch := (first | omega | (simp only [vlen]; first | done | omega))) only [vcs2, ↓va0, ↓va1, ↓va2, ↓va3, vb0, vb1, vb2, vb3, vb4, vb5, vb6, vb7, vb8, vb9, vb10, vz0, vz1, vy0, vx0, ↓reduceIte, Nat.reduceBEq, Nat.reduceEqDiff, Nat.reduceLT, Nat.reduceLeDiff, Nat.reduceAdd, Nat.reduceMul, Nat.reduceSub, reduceCtorEq, Int.reduceToNat]) | (refine Br.mk (fun h => ?_) (fun h => ?_)) | (refine BrN.mk (fun h => ?_) ?_) | (refine AltVC.mk ?_ ?_)
              all_goals first
                | (exfalso; omega; done)
                | (refine loopK.mk k (by simp (disch := (first | omega | (simp only [vlen]; first | done | omega))) only [↓va0, ↓va1, ↓va2, ↓va3, vb0, vb1, vb2, vb3, vb4, vb5, vb6, vb7, vb8, vb9, vb10, vz0, vz1, vy0, vx0, ↓reduceIte, Nat.reduceBEq, Nat.reduceEqDiff, Nat.reduceLT, Nat.reduceLeDiff, Nat.reduceAdd, Nat.reduceMul, Nat.reduceSub, reduceCtorEq, Int.reduceToNat]) ⟨by omega, fun j' h1 h2 => ?_⟩ (by omega) ?_
                   · by_cases e : j' = k + 1
                     · subst e; exact hz
                     · exact hno j' (by omega) h2
                   · (simp (disch := (first | omega | (simp only [vlen]; first | done | omega))) only [Fits_u, Fits_m, Fits_nil, List.length_append, vcs2, ↓va0, ↓va1, ↓va2, ↓va3, vb0, vb1, vb2, vb3, vb4, vb5, vb6, vb7, vb8, vb9, vb10, vz0, vz1, vy0, vx0, ↓reduceIte, Nat.reduceBEq, Nat.reduceEqDiff, Nat.reduceLT, Nat.reduceLeDiff, Nat.reduceAdd, Nat.reduceMul, Nat.reduceSub, reduceCtorEq, Int.reduceToNat] <;> (repeat' first | rfl | apply And.intro))
                     all_goals first | rfl | exact viEq (by omega))
          · have hw : wgS (p.getD (k + 1) 0) = -1 := if_neg hv
            rw [hw] at hst
            by_cases hz : wgP (sgH p (k + 1)) = 1
            · repeat' first | (refine Br.dec (fun h => ?_) (fun h => ?_) <;> try (exfalso; omega)) | (refine Br.eqi (fun h => ?_) (fun h => ?_) <;> try (exfalso; omega)) | (simp (disch := (first | omega | (simp only [vlen]; first | done | omega))) only [vcs2, ↓va0, ↓va1, ↓va2, ↓va3, vb0, vb1, vb2, vb3, vb4, vb5, vb6, vb7, vb8, vb9, vb10, vz0, vz1, vy0, vx0, ↓reduceIte, Nat.reduceBEq, Nat.reduceEqDiff, Nat.reduceLT, Nat.reduceLeDiff, Nat.reduceAdd, Nat.reduceMul, Nat.reduceSub, reduceCtorEq, Int.reduceToNat]) | (refine Br.mk (fun h => ?_) (fun h => ?_)) | (refine BrN.mk (fun h => ?_) ?_) | (refine AltVC.mk ?_ ?_)
              all_goals first
                | (exfalso; omega; done)
                | exact fin_mk ⟨((k + 1 : Nat) : Int), rfl, .inr ⟨k + 1, rfl, hG, by omega, by omega, hz, hno⟩⟩
            · repeat' first | (refine Br.dec (fun h => ?_) (fun h => ?_) <;> try (exfalso; omega)) | (refine Br.eqi (fun h => ?_) (fun h => ?_) <;> try (exfalso; omega)) | (simp (disch := (first | omega | (simp only [vlen]; first | done | omega))) only [vcs2, ↓va0, ↓va1, ↓va2, ↓va3, vb0, vb1, vb2, vb3, vb4, vb5, vb6, vb7, vb8, vb9, vb10, vz0, vz1, vy0, vx0, ↓reduceIte, Nat.reduceBEq, Nat.reduceEqDiff, Nat.reduceLT, Nat.reduceLeDiff, Nat.reduceAdd, Nat.reduceMul, Nat.reduceSub, reduceCtorEq, Int.reduceToNat]) | (refine Br.mk (fun h => ?_) (fun h => ?_)) | (refine BrN.mk (fun h => ?_) ?_) | (refine AltVC.mk ?_ ?_)
              all_goals first
                | (exfalso; omega; done)
                | (refine loopK.mk k (by simp (disch := (first | omega | (simp only [vlen]; first | done | omega))) only [↓va0, ↓va1, ↓va2, ↓va3, vb0, vb1, vb2, vb3, vb4, vb5, vb6, vb7, vb8, vb9, vb10, vz0, vz1, vy0, vx0, ↓reduceIte, Nat.reduceBEq, Nat.reduceEqDiff, Nat.reduceLT, Nat.reduceLeDiff, Nat.reduceAdd, Nat.reduceMul, Nat.reduceSub, reduceCtorEq, Int.reduceToNat]) ⟨by omega, fun j' h1 h2 => ?_⟩ (by omega) ?_
                   · by_cases e : j' = k + 1
                     · subst e; exact hz
                     · exact hno j' (by omega) h2
                   · (simp (disch := (first | omega | (simp only [vlen]; first | done | omega))) only [Fits_u, Fits_m, Fits_nil, List.length_append, vcs2, ↓va0, ↓va1, ↓va2, ↓va3, vb0, vb1, vb2, vb3, vb4, vb5, vb6, vb7, vb8, vb9, vb10, vz0, vz1, vy0, vx0, ↓reduceIte, Nat.reduceBEq, Nat.reduceEqDiff, Nat.reduceLT, Nat.reduceLeDiff, Nat.reduceAdd, Nat.reduceMul, Nat.reduceSub, reduceCtorEq, Int.reduceToNat] <;> (repeat' first | rfl | apply And.intro))
                     all_goals first | rfl | exact viEq (by omega))
/-- Where a postfix list splits. -/
theorem half_po {pa pb : List Int} {o : Int} (ha : PO pa) (hb : PO pb) (ho : isO o) {r : Int} (h : HfR (pa ++ pb ++ [o]) r) : r = pa.length := by
  have hal := List.length_pos_iff.mpr (po_pos ha)
  have hbl := List.length_pos_iff.mpr (po_pos hb)
  have hlen : (pa ++ pb ++ [o]).length = pa.length + pb.length + 1 := by rw [List.length_append, List.length_append]; rfl
  have htk : (pa ++ pb ++ [o]).take ((pa ++ pb ++ [o]).length - 1) = pa ++ pb := by
    rw [hlen, show pa.length + pb.length + 1 - 1 = (pa ++ pb).length by rw [List.length_append]; omega]; simp only [List.take_left]
  have hlast : (pa ++ pb ++ [o]).getD ((pa ++ pb ++ [o]).length - 1) 0 = o := by
    rw [hlen, show pa.length + pb.length + 1 - 1 = (pa ++ pb).length by rw [List.length_append]; omega]
    exact snoc_get
  have hG : HfG (pa ++ pb ++ [o]) := ⟨by omega, by rw [hlast]; exact ho.2⟩
  have hsa : wgP (sgH (pa ++ pb ++ [o]) pa.length) = 1 := by unfold sgH; rw [htk]; simp [(po_wg hb).1]
  have hhi : ∀ j', pa.length < j' → j' < pa.length + pb.length → wgP (sgH (pa ++ pb ++ [o]) j') ≤ 0 := fun j' h1 h2 => by
    unfold sgH
    rw [htk, List.drop_append, List.drop_of_length_le (by omega), List.nil_append]
    refine (po_wg hb).2 (pb.take (j' - pa.length)) _ (by rw [List.take_append_drop]) fun e => ?_
    have := congrArg List.length e
    rw [List.length_take] at this
    simp only [List.length_nil] at this
    omega
  rcases h with ⟨_, h2⟩ | ⟨j, rfl, _, h2, h3, h4, h5⟩
  · exact absurd hsa (h2 hG pa.length (by omega) (by omega))
  · rcases Nat.lt_trichotomy j pa.length with h6 | h6 | h6
    · exact absurd hsa (h5 pa.length h6 (by omega))
    · rw [h6]
    · have := hhi j h6 (by omega)
      omega
end Go.Proofs.Ytllkafockafdcaa
