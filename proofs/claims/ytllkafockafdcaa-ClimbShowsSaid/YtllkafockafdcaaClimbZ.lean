/-
  coppicerref.Post.
-/
import Derived.Test.YtllkafockafdcaaClimbY
namespace Go.Proofs.Ytllkafockafdcaa
open Go.Dm
set_option linter.unusedSimpArgs false
set_option linter.unnecessarySimpa false
set_option linter.unusedVariables false
set_option linter.defProp false
/-- Signs of a postfix list. -/
def vP (ops : List Opr) (s : Int) : Prop := (0 ≤ s ∧ s < ops.length) ∨ 100 ≤ s
theorem split_eq {p : List Int} {j : Nat} (h : j < p.length - 1) : p = p.take j ++ sgH p j ++ [p.getD (p.length - 1) 0] := by
  have h1 : p.take j ++ sgH p j = p.take (p.length - 1) := by
    unfold sgH
    rw [← take_take_le (l := p) (n := p.length - 1) (i := j) (by omega), List.take_append_drop]
  rw [h1, ← take_succ_getD (by omega) 0, show p.length - 1 + 1 = p.length by omega, List.take_length]
theorem sgH_mem {p : List Int} {j : Nat} {s : Int} (h : s ∈ sgH p j) : s ∈ p := List.mem_of_mem_take (List.mem_of_mem_drop h)
theorem sgH_len {p : List Int} {j : Nat} : (sgH p j).length = p.length - 1 - j := by unfold sgH; rw [List.length_drop, List.length_take]; omega
/-- A list that is long enough splits where Half says, or is no postfix list. -/
theorem po_half {p : List Int} (h : PO p) (h1 : p.length ≠ 1) {r : Int} (hr : HfR p r) : ∃ j : Nat, r = j ∧ 0 < j ∧ j < p.length - 1 ∧ PO (p.take j) ∧ PO (sgH p j) := by
  cases h with
  | val _ => exact absurd rfl h1
  | @bin a b o ha hb ho =>
    have e := half_po ha hb ho hr
    have hal := List.length_pos_iff.mpr (po_pos ha)
    have hbl := List.length_pos_iff.mpr (po_pos hb)
    have hlen : (a ++ b ++ [o]).length = a.length + b.length + 1 := by rw [List.length_append, List.length_append]; rfl
    have e1 : (a ++ b ++ [o]).take a.length = a := by rw [List.append_assoc]; exact List.take_left
    have e2 : sgH (a ++ b ++ [o]) a.length = b := by
      unfold sgH
      rw [hlen, show a.length + b.length + 1 - 1 = (a ++ b).length by rw [List.length_append]; omega, List.take_left, List.drop_left]
    exact ⟨a.length, e, hal, by omega, by rw [e1]; exact ha, by rw [e2]; exact hb⟩
set_option maxRecDepth 10000 in
set_option maxHeartbeats 4000000 in
theorem refPost_spec (ops : List Opr) (hn : ops.length ≤ 100) (p : List Int) (hp : p.length ≤ 60) (hv : ∀ s, s ∈ p → vP ops s) : Dm.Spec Try.prog 24 [.sl 1 (i64s p)] (fun d => ∃ b, d = .v (.bool b) ∧ (b = true ↔ PO p)) := by
  refine spec_of_vc mixed Try.func24 c24 (by rw [show Try.f24.ntmps = _ from Try.ntmps24]; simp) ?_
  unfold m24 r24
  by_cases h1 : p.length = 1
  · obtain ⟨v, rfl⟩ := List.length_eq_one_iff.mp h1
    by_cases hv1 : 100 ≤ v
    · repeat' first | (refine Br.dec (fun h => ?_) (fun h => ?_) <;> try (exfalso; omega)) | (refine Br.eqi (fun h => ?_) (fun h => ?_) <;> try (exfalso; omega)) | (simp (disch := (first | omega | (simp only [vlen]; first | done | omega))) only [vcs2, ↓va0, ↓va1, ↓va2, ↓va3, vb0, vb1, vb2, vb3, vb4, vb5, vb6, vb7, vb8, vb9, vb10, vz0, vz1, vy0, vx0, ↓reduceIte, Nat.reduceBEq, Nat.reduceEqDiff, Nat.reduceLT, Nat.reduceLeDiff, Nat.reduceAdd, Nat.reduceMul, Nat.reduceSub, reduceCtorEq, Int.reduceToNat]) | (refine Br.mk (fun h => ?_) (fun h => ?_)) | (refine BrN.mk (fun h => ?_) ?_) | (refine AltVC.mk ?_ ?_)
      all_goals exact fin_mk ⟨true, by first | rfl | exact vbEq (decide_eq_true hv1), fun _ => .val hv1, fun _ => rfl⟩
    · have hno : ¬ PO [v] := fun h => by
        generalize hq : [v] = q at h
        cases h with
        | @val v' h' =>
          have : v = v' := by simpa using hq
          omega
        | @bin a b o ha hb ho =>
          have h2 := congrArg List.length hq
          have h3 := List.length_pos_iff.mpr (po_pos ha)
          rw [List.length_append, List.length_append] at h2
          simp only [List.length_cons, List.length_nil] at h2
          omega
      repeat' first | (refine Br.dec (fun h => ?_) (fun h => ?_) <;> try (exfalso; omega)) | (refine Br.eqi (fun h => ?_) (fun h => ?_) <;> try (exfalso; omega)) | (simp (disch := (first | omega | (simp only [vlen]; first | done | omega))) only [vcs2, ↓va0, ↓va1, ↓va2, ↓va3, vb0, vb1, vb2, vb3, vb4, vb5, vb6, vb7, vb8, vb9, vb10, vz0, vz1, vy0, vx0, ↓reduceIte, Nat.reduceBEq, Nat.reduceEqDiff, Nat.reduceLT, Nat.reduceLeDiff, Nat.reduceAdd, Nat.reduceMul, Nat.reduceSub, reduceCtorEq, Int.reduceToNat]) | (refine Br.mk (fun h => ?_) (fun h => ?_)) | (refine BrN.mk (fun h => ?_) ?_) | (refine AltVC.mk ?_ ?_)
      all_goals exact fin_mk ⟨false, by first | rfl | exact vbEq (decide_eq_false hv1), (fun h => by cases h), fun h => absurd h hno⟩
  · repeat' first | (refine Br.dec (fun h => ?_) (fun h => ?_) <;> try (exfalso; omega)) | (refine Br.eqi (fun h => ?_) (fun h => ?_) <;> try (exfalso; omega)) | (simp (disch := (first | omega | (simp only [vlen]; first | done | omega))) only [vcs2, ↓va0, ↓va1, ↓va2, ↓va3, vb0, vb1, vb2, vb3, vb4, vb5, vb6, vb7, vb8, vb9, vb10, vz0, vz1, vy0, vx0, ↓reduceIte, Nat.reduceBEq, Nat.reduceEqDiff, Nat.reduceLT, Nat.reduceLeDiff, Nat.reduceAdd, Nat.reduceMul, Nat.reduceSub, reduceCtorEq, Int.reduceToNat]) | (refine Br.mk (fun h => ?_) (fun h => ?_)) | (refine BrN.mk (fun h => ?_) ?_) | (refine AltVC.mk ?_ ?_)
    refine CallVC.mk (half_spec p hp) ?_
    rintro _ ⟨r, rfl, hr⟩
    have hpo := fun h => po_half h h1 hr
    have hr' := hr
    rcases hr with ⟨rfl, _⟩ | ⟨j, rfl, hG, hj0, hjl, _, _⟩
    · repeat' first | (refine Br.dec (fun h => ?_) (fun h => ?_) <;> try (exfalso; omega)) | (refine Br.eqi (fun h => ?_) (fun h => ?_) <;> try (exfalso; omega)) | (simp (disch := (first | omega | (simp only [vlen]; first | done | omega))) only [vcs2, ↓va0, ↓va1, ↓va2, ↓va3, vb0, vb1, vb2, vb3, vb4, vb5, vb6, vb7, vb8, vb9, vb10, vz0, vz1, vy0, vx0, ↓reduceIte, Nat.reduceBEq, Nat.reduceEqDiff, Nat.reduceLT, Nat.reduceLeDiff, Nat.reduceAdd, Nat.reduceMul, Nat.reduceSub, reduceCtorEq, Int.reduceToNat]) | (refine Br.mk (fun h => ?_) (fun h => ?_)) | (refine BrN.mk (fun h => ?_) ?_) | (refine AltVC.mk ?_ ?_)
      all_goals exact fin_mk ⟨false, rfl, (fun h => by cases h), fun h => by obtain ⟨j, hj, _⟩ := hpo h; omega⟩
    · have hmi : ((p.length : Int) - 1).toNat = p.length - 1 := by omega
      have hsl := @sgH_len p j
      have hsg : List.drop j (List.take (p.length - 1) p) = sgH p j := rfl
      have hRa := refPost_spec ops hn (p.take j) (by rw [List.length_take]; omega) (fun s hs => hv s (List.mem_of_mem_take hs))
      have hRb := refPost_spec ops hn (sgH p j) (by omega) (fun s hs => hv s (sgH_mem hs))
      have hlast : isO (p.getD (p.length - 1) 0) := by
        have := hv _ (show p.getD (p.length - 1) 0 ∈ p from getD_mem' (by omega))
        have h2 := hG.2
        unfold vP at this; unfold isO; omega
      have hfin : PO p ↔ PO (p.take j) ∧ PO (sgH p j) := by
        constructor
        · intro h
          obtain ⟨j', e, _, _, k1, k2⟩ := hpo h
          have : j' = j := by omega
          subst this; exact ⟨k1, k2⟩
        · rintro ⟨k1, k2⟩
          rw [split_eq hjl]
          exact .bin k1 k2 hlast
      repeat' first | (refine Br.dec (fun h => ?_) (fun h => ?_) <;> try (exfalso; omega)) | (refine Br.eqi (fun h => ?_) (fun h => ?_) <;> try (exfalso; omega)) | (simp (disch := (first | omega | (simp only [vlen]; first | done | omega))) only [vcs2, hmi, hsg, ↓va0, ↓va1, ↓va2, ↓va3, vb0, vb1, vb2, vb3, vb4, vb5, vb6, vb7, vb8, vb9, vb10, vz0, vz1, vy0, vx0, ↓reduceIte, Nat.reduceBEq, Nat.reduceEqDiff, Nat.reduceLT, Nat.reduceLeDiff, Nat.reduceAdd, Nat.reduceMul, Nat.reduceSub, reduceCtorEq, Int.reduceToNat]) | (refine Br.mk (fun h => ?_) (fun h => ?_)) | (refine BrN.mk (fun h => ?_) ?_) | (refine AltVC.mk ?_ ?_)
      refine CallVC.mk hRa ?_
      rintro _ ⟨b1, rfl, k1⟩
      cases b1 with
      | false =>
        repeat' first | (refine Br.dec (fun h => ?_) (fun h => ?_) <;> try (exfalso; omega)) | (refine Br.eqi (fun h => ?_) (fun h => ?_) <;> try (exfalso; omega)) | (simp (disch := (first | omega | (simp only [vlen]; first | done | omega))) only [vcs2, hmi, hsg, ↓va0, ↓va1, ↓va2, ↓va3, vb0, vb1, vb2, vb3, vb4, vb5, vb6, vb7, vb8, vb9, vb10, vz0, vz1, vy0, vx0, ↓reduceIte, Nat.reduceBEq, Nat.reduceEqDiff, Nat.reduceLT, Nat.reduceLeDiff, Nat.reduceAdd, Nat.reduceMul, Nat.reduceSub, reduceCtorEq, Int.reduceToNat]) | (refine Br.mk (fun h => ?_) (fun h => ?_)) | (refine BrN.mk (fun h => ?_) ?_) | (refine AltVC.mk ?_ ?_)
        exact fin_mk ⟨false, rfl, (fun h => by cases h), fun h => by have := k1.mpr (hfin.mp h).1; cases this⟩
      | true =>
        repeat' first | (refine Br.dec (fun h => ?_) (fun h => ?_) <;> try (exfalso; omega)) | (refine Br.eqi (fun h => ?_) (fun h => ?_) <;> try (exfalso; omega)) | (simp (disch := (first | omega | (simp only [vlen]; first | done | omega))) only [vcs2, hmi, hsg, ↓va0, ↓va1, ↓va2, ↓va3, vb0, vb1, vb2, vb3, vb4, vb5, vb6, vb7, vb8, vb9, vb10, vz0, vz1, vy0, vx0, ↓reduceIte, Nat.reduceBEq, Nat.reduceEqDiff, Nat.reduceLT, Nat.reduceLeDiff, Nat.reduceAdd, Nat.reduceMul, Nat.reduceSub, reduceCtorEq, Int.reduceToNat]) | (refine Br.mk (fun h => ?_) (fun h => ?_)) | (refine BrN.mk (fun h => ?_) ?_) | (refine AltVC.mk ?_ ?_)
        refine CallVC.mk hRb ?_
        rintro _ ⟨b2, rfl, k2⟩
        repeat' first | (refine Br.dec (fun h => ?_) (fun h => ?_) <;> try (exfalso; omega)) | (refine Br.eqi (fun h => ?_) (fun h => ?_) <;> try (exfalso; omega)) | (simp (disch := (first | omega | (simp only [vlen]; first | done | omega))) only [vcs2, hmi, hsg, ↓va0, ↓va1, ↓va2, ↓va3, vb0, vb1, vb2, vb3, vb4, vb5, vb6, vb7, vb8, vb9, vb10, vz0, vz1, vy0, vx0, ↓reduceIte, Nat.reduceBEq, Nat.reduceEqDiff, Nat.reduceLT, Nat.reduceLeDiff, Nat.reduceAdd, Nat.reduceMul, Nat.reduceSub, reduceCtorEq, Int.reduceToNat]) | (refine Br.mk (fun h => ?_) (fun h => ?_)) | (refine BrN.mk (fun h => ?_) ?_) | (refine AltVC.mk ?_ ?_)
        exact fin_mk ⟨b2, rfl, fun h => hfin.mpr ⟨k1.mp rfl, k2.mp h⟩, fun h => k2.mpr (hfin.mp h).2⟩
termination_by p.length
decreasing_by
  all_goals first | (rw [List.length_take]; omega) | (rw [sgH_len]; omega)
end Go.Proofs.Ytllkafockafdcaa
