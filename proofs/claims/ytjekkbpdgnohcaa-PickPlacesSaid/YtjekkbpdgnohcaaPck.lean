/-
  pick.Pick; coppicerref.PlaceOf; the law PickTells.
-/
import Derived.Test.YtjekkbpdgnohcaaAhd
import Derived.Test.YtjekkbpdgnohcaaTTrees
namespace Go.Proofs.Ytjekkbpdgnohcaa
open Go.Dm
set_option linter.unusedSimpArgs false
set_option linter.unnecessarySimpa false
set_option linter.unusedVariables false
set_option linter.defProp false
theorem cc_ok {g : Grammar} {w : List Int} (h : trC g w = 0) : CC g w ∧ tcode g w = 0 ∧ trN g w ≤ 1099511627776 := by
  unfold trC at h
  by_cases ht : tcode g w = 0
  · rw [if_pos ht] at h
    refine ⟨(cc_of ht).1, ht, ?_⟩
    by_cases hb : 1099511627776 < trN g w
    · rw [if_pos hb] at h; omega
    · omega
  · rw [if_neg ht] at h; exact absurd h ht
set_option maxRecDepth 10000 in
set_option maxHeartbeats 4000000 in
theorem pickCode_spec (g : Grammar) (hg : g.ok) (w : List Int) (hw : w.length ≤ 9223372036854775807) : Dm.Spec Try.prog 13 [.ag (graD g), .sl 1 (i64s w)] (· = iv .i64 (trC g w)) := by
  refine spec_of_vc mixed Try.func13 c13 (by rw [show Try.f13.ntmps = _ from Try.ntmps13]; simp) ?_
  unfold m13 r13
  have hq := treesCheck_spec g hg w hw
  by_cases ht : tcode g w = 0
  · have hc := (cc_of ht).1
    have hk := hc.v.k
    have hn := hc.v.n
    have hst := hc.v.start
    have hw12 := hc.w
    have hB := bushT_spec g w hc (g.k + g.start) 0 w.length (by omega) (by omega) (Nat.zero_le _) (Nat.le_refl _) [] BI.nil
    rw [ht] at hq
    have hcpi : ((cp (trees g w (g.k + g.start) 0 w.length) : Nat) : Int) = (cp (trN g w) : Nat) := rfl
    repeat' first | ((first | refine Br.dec ?_ ?_ | refine Br.eqi ?_ ?_) <;> intro h <;> try (exfalso; omega)) | (simp (disch := (first | omega | (simp only [vlen]; first | done | omega))) only [vbe, ↓vAq, vBq, ↓reduceIte, Nat.reduceBEq, Nat.reduceEqDiff, Nat.reduceLT, Nat.reduceLeDiff, Nat.reduceAdd, Nat.reduceMul, Nat.reduceSub, reduceCtorEq, Int.reduceToNat]) | (refine Br.mk ?_ ?_ <;> intro h) | (refine BrN.mk (fun h => ?_) ?_) | (refine AltVC.mk ?_ ?_)
    refine CallVC.eq hq ?_
    repeat' first | ((first | refine Br.dec ?_ ?_ | refine Br.eqi ?_ ?_) <;> intro h <;> try (exfalso; omega)) | (simp (disch := (first | omega | (simp only [vlen]; first | done | omega))) only [vbe, ↓vAq, vBq, ↓reduceIte, Nat.reduceBEq, Nat.reduceEqDiff, Nat.reduceLT, Nat.reduceLeDiff, Nat.reduceAdd, Nat.reduceMul, Nat.reduceSub, reduceCtorEq, Int.reduceToNat]) | (refine Br.mk ?_ ?_ <;> intro h) | (refine BrN.mk (fun h => ?_) ?_) | (refine AltVC.mk ?_ ?_)
    refine CallP.lend [.ag (graD g), .sl 1 (i64s w)] (grow_bspec g w) (by simp (disch := (first | omega | (simp only [vlen]; first | done | omega))) only [vbe, ↓vAq, vBq, ↓reduceIte, Nat.reduceBEq, Nat.reduceEqDiff, Nat.reduceLT, Nat.reduceLeDiff, Nat.reduceAdd, Nat.reduceMul, Nat.reduceSub, reduceCtorEq, Int.reduceToNat]) ?_
    rintro _ _ ⟨rfl, rfl⟩
    repeat' first | ((first | refine Br.dec ?_ ?_ | refine Br.eqi ?_ ?_) <;> intro h <;> try (exfalso; omega)) | (simp (disch := (first | omega | (simp only [vlen]; first | done | omega))) only [vbe, ↓vAq, vBq, ↓reduceIte, Nat.reduceBEq, Nat.reduceEqDiff, Nat.reduceLT, Nat.reduceLeDiff, Nat.reduceAdd, Nat.reduceMul, Nat.reduceSub, reduceCtorEq, Int.reduceToNat]) | (refine Br.mk ?_ ?_ <;> intro h) | (refine BrN.mk (fun h => ?_) ?_) | (refine AltVC.mk ?_ ?_)
    refine CallVC.lendE [3, 2] [.ptr 0 6 0 0, iv .i64 (g.k + g.start), iv .i64 (0 : Nat), iv .i64 w.length] (buO g w []) hB (by simp) (by rfl) (by unfold buO; (simp (disch := (first | omega | (simp only [vlen]; first | done | omega))) only [vle0, ↓vAq, vBq, ↓reduceIte, Nat.reduceBEq, Nat.reduceEqDiff, Nat.reduceLT, Nat.reduceLeDiff, Nat.reduceAdd, Nat.reduceMul, Nat.reduceSub, reduceCtorEq, Int.reduceToNat] <;> (repeat' first | rfl | apply And.intro))) ?_
    rintro _ _ ⟨L2, rfl, rfl, hL2⟩
    unfold buO
    rw [hcpi]
    by_cases hbig : 1099511627776 < trN g w
    · have hcp : (cp (trN g w) : Int) = 1099511627777 := by unfold cp; omega
      have e : trC g w = 1 := by unfold trC; rw [if_pos ht, if_pos hbig]
      rw [hcp]
      repeat' first | ((first | refine Br.dec ?_ ?_ | refine Br.eqi ?_ ?_) <;> intro h <;> try (exfalso; omega)) | (simp (disch := (first | omega | (simp only [vlen]; first | done | omega))) only [vbe, ↓vAq, vBq, ↓reduceIte, Nat.reduceBEq, Nat.reduceEqDiff, Nat.reduceLT, Nat.reduceLeDiff, Nat.reduceAdd, Nat.reduceMul, Nat.reduceSub, reduceCtorEq, Int.reduceToNat]) | (refine Br.mk ?_ ?_ <;> intro h) | (refine BrN.mk (fun h => ?_) ?_) | (refine AltVC.mk ?_ ?_)
      exact fin_mk (by rw [e])
    · have hcp : (cp (trN g w) : Int) = (trN g w : Int) := by unfold cp; omega
      have e : trC g w = 0 := by unfold trC; rw [if_pos ht, if_neg hbig]
      rw [hcp]
      repeat' first | ((first | refine Br.dec ?_ ?_ | refine Br.eqi ?_ ?_) <;> intro h <;> try (exfalso; omega)) | (simp (disch := (first | omega | (simp only [vlen]; first | done | omega))) only [vbe, ↓vAq, vBq, ↓reduceIte, Nat.reduceBEq, Nat.reduceEqDiff, Nat.reduceLT, Nat.reduceLeDiff, Nat.reduceAdd, Nat.reduceMul, Nat.reduceSub, reduceCtorEq, Int.reduceToNat]) | (refine Br.mk ?_ ?_ <;> intro h) | (refine BrN.mk (fun h => ?_) ?_) | (refine AltVC.mk ?_ ?_)
      exact fin_mk (by rw [e])
  · have e : trC g w = tcode g w := by unfold trC; rw [if_neg ht]
    repeat' first | ((first | refine Br.dec ?_ ?_ | refine Br.eqi ?_ ?_) <;> intro h <;> try (exfalso; omega)) | (simp (disch := (first | omega | (simp only [vlen]; first | done | omega))) only [vbe, ↓vAq, vBq, ↓reduceIte, Nat.reduceBEq, Nat.reduceEqDiff, Nat.reduceLT, Nat.reduceLeDiff, Nat.reduceAdd, Nat.reduceMul, Nat.reduceSub, reduceCtorEq, Int.reduceToNat]) | (refine Br.mk ?_ ?_ <;> intro h) | (refine BrN.mk (fun h => ?_) ?_) | (refine AltVC.mk ?_ ?_)
    refine CallVC.eq hq ?_
    repeat' first | ((first | refine Br.dec ?_ ?_ | refine Br.eqi ?_ ?_) <;> intro h <;> try (exfalso; omega)) | (simp (disch := (first | omega | (simp only [vlen]; first | done | omega))) only [vbe, ↓vAq, vBq, ↓reduceIte, Nat.reduceBEq, Nat.reduceEqDiff, Nat.reduceLT, Nat.reduceLeDiff, Nat.reduceAdd, Nat.reduceMul, Nat.reduceSub, reduceCtorEq, Int.reduceToNat]) | (refine Br.mk ?_ ?_ <;> intro h) | (refine BrN.mk (fun h => ?_) ?_) | (refine AltVC.mk ?_ ?_)
    exact fin_mk (by rw [e])
def plR (g : Grammar) (w : List Int) (stp : List Int) (d : D) : Prop :=
  (∃ K, Tk g w [g.k + g.start] 0 [w.length] stp K ∧ d = iv .i64 (K : Nat)) ∨ ((∀ K, ¬ Tk g w [g.k + g.start] 0 [w.length] stp K) ∧ d = iv .i64 (-1))
set_option maxRecDepth 10000 in
set_option maxHeartbeats 4000000 in
theorem placeOf_spec (g : Grammar) (w : List Int) (ht : trC g w = 0) (stp : List Int) (hs : stp.length ≤ 1000000) : Dm.Spec Try.prog 16 [.ag (graD g), .sl 1 (i64s w), .sl 1 (i64s stp)] (fun d => plR g w stp d) := by
  refine spec_of_vc mixed Try.func16 c16 (by rw [show Try.f16.ntmps = _ from Try.ntmps16]; simp) ?_
  unfold m16 r16
  obtain ⟨hc, h0, hT⟩ := cc_ok ht
  have hk := hc.v.k
  have hn := hc.v.n
  have hst := hc.v.start
  have hw := hc.w
  have hA := ahead_spec g w hc (g.k + g.start) 0 w.length (by omega) (by omega) (Nat.zero_le _) (Nat.le_refl _) hT stp hs [] BI.nil
  rw [show g.k + g.start - g.k = g.start by omega] at hA
  repeat' first | ((first | refine Br.dec ?_ ?_ | refine Br.eqi ?_ ?_) <;> intro h <;> try (exfalso; omega)) | (simp (disch := (first | omega | (simp only [vlen]; first | done | omega))) only [vah, ↓vAq, vBq, ↓reduceIte, Nat.reduceBEq, Nat.reduceEqDiff, Nat.reduceLT, Nat.reduceLeDiff, Nat.reduceAdd, Nat.reduceMul, Nat.reduceSub, reduceCtorEq, Int.reduceToNat]) | (refine Br.mk ?_ ?_ <;> intro h) | (refine BrN.mk (fun h => ?_) ?_) | (refine AltVC.mk ?_ ?_)
  refine CallP.lend [.ag (graD g), .sl 1 (i64s w)] (grow_bspec g w) (by simp (disch := (first | omega | (simp only [vlen]; first | done | omega))) only [vbe, ↓vAq, vBq, ↓reduceIte, Nat.reduceBEq, Nat.reduceEqDiff, Nat.reduceLT, Nat.reduceLeDiff, Nat.reduceAdd, Nat.reduceMul, Nat.reduceSub, reduceCtorEq, Int.reduceToNat]) ?_
  rintro _ _ ⟨rfl, rfl⟩
  repeat' first | ((first | refine Br.dec ?_ ?_ | refine Br.eqi ?_ ?_) <;> intro h <;> try (exfalso; omega)) | (simp (disch := (first | omega | (simp only [vlen]; first | done | omega))) only [vah, ↓vAq, vBq, ↓reduceIte, Nat.reduceBEq, Nat.reduceEqDiff, Nat.reduceLT, Nat.reduceLeDiff, Nat.reduceAdd, Nat.reduceMul, Nat.reduceSub, reduceCtorEq, Int.reduceToNat]) | (refine Br.mk ?_ ?_ <;> intro h) | (refine BrN.mk (fun h => ?_) ?_) | (refine AltVC.mk ?_ ?_)
  refine CallVC.lendE [3, 2] [.ptr 0 6 0 0, iv .i64 g.start, iv .i64 (0 : Nat), iv .i64 w.length, .sl 1 (i64s stp)] (buO g w []) hA (by simp) (by rfl) (by unfold buO; (simp (disch := (first | omega | (simp only [vlen]; first | done | omega))) only [vle0, ↓vAq, vBq, ↓reduceIte, Nat.reduceBEq, Nat.reduceEqDiff, Nat.reduceLT, Nat.reduceLeDiff, Nat.reduceAdd, Nat.reduceMul, Nat.reduceSub, reduceCtorEq, Int.reduceToNat] <;> (repeat' first | rfl | apply And.intro))) ?_
  rintro _ _ ⟨L2, hres, rfl, hL2⟩
  unfold buO
  rcases hres with ⟨st1, K1, r, e1, hT1, rfl⟩ | ⟨hno1, rfl⟩
  · have hsl1 : st1.length + r.length = stp.length := by rw [e1, List.length_append]
    by_cases hr : st1.length = stp.length
    · have hr0 : r = [] := List.eq_nil_of_length_eq_zero (by omega)
      rw [hr0, List.append_nil] at e1
      subst e1
      repeat' first | ((first | refine Br.dec ?_ ?_ | refine Br.eqi ?_ ?_) <;> intro h <;> try (exfalso; omega)) | (simp (disch := (first | omega | (simp only [vlen]; first | done | omega))) only [vah, ↓vAq, vBq, ↓reduceIte, Nat.reduceBEq, Nat.reduceEqDiff, Nat.reduceLT, Nat.reduceLeDiff, Nat.reduceAdd, Nat.reduceMul, Nat.reduceSub, reduceCtorEq, Int.reduceToNat]) | (refine Br.mk ?_ ?_ <;> intro h) | (refine BrN.mk (fun h => ?_) ?_) | (refine AltVC.mk ?_ ?_)
      exact fin_mk (.inl ⟨K1, hT1, rfl⟩)
    · repeat' first | ((first | refine Br.dec ?_ ?_ | refine Br.eqi ?_ ?_) <;> intro h <;> try (exfalso; omega)) | (simp (disch := (first | omega | (simp only [vlen]; first | done | omega))) only [vah, ↓vAq, vBq, ↓reduceIte, Nat.reduceBEq, Nat.reduceEqDiff, Nat.reduceLT, Nat.reduceLeDiff, Nat.reduceAdd, Nat.reduceMul, Nat.reduceSub, reduceCtorEq, Int.reduceToNat]) | (refine Br.mk ?_ ?_ <;> intro h) | (refine BrN.mk (fun h => ?_) ?_) | (refine AltVC.mk ?_ ?_)
      refine fin_mk (.inr ⟨fun K hK => ?_, rfl⟩)
      have := hT1.det hK (r := r) (r' := []) (by rw [List.append_nil]; exact e1.symm)
      exact hr (by rw [this.1])
  · have hno2 : ∀ K, ¬ Tk g w [g.k + g.start] 0 [w.length] stp K := fun K hK => hno1 stp K [] (by rw [List.append_nil]) hK
    repeat' first | ((first | refine Br.dec ?_ ?_ | refine Br.eqi ?_ ?_) <;> intro h <;> try (exfalso; omega)) | (simp (disch := (first | omega | (simp only [vlen]; first | done | omega))) only [vah, ↓vAq, vBq, ↓reduceIte, Nat.reduceBEq, Nat.reduceEqDiff, Nat.reduceLT, Nat.reduceLeDiff, Nat.reduceAdd, Nat.reduceMul, Nat.reduceSub, reduceCtorEq, Int.reduceToNat]) | (refine Br.mk ?_ ?_ <;> intro h) | (refine BrN.mk (fun h => ?_) ?_) | (refine AltVC.mk ?_ ?_)
    all_goals exact fin_mk (.inr ⟨hno2, rfl⟩)
end Go.Proofs.Ytjekkbpdgnohcaa
