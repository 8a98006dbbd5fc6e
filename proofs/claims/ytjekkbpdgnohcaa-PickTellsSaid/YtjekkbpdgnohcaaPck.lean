/-
  pick.Pick; coppicerref.PlaceOf; the law PickTells.
-/
import Derived.Test.YtjekkbpdgnohcaaAhd
import Derived.Test.YtjekkbpdgnohcaaTTrees
namespace Go.Proofs.Ytjekkbpdgnohcaa
open Go.Dm
set_option linter.unusedSimpArgs false
set_option linter.unnecessarySimpa false
set_option linter.unusedVariables false
set_option linter.defProp false
theorem cc_ok {g : Grammar} {w : List Int} (h : trC g w = 0) : CC g w ∧ tcode g w = 0 ∧ trN g w ≤ 1099511627776 := by
  unfold trC at h
  by_cases ht : tcode g w = 0
  · rw [if_pos ht] at h
    refine ⟨(cc_of ht).1, ht, ?_⟩
    by_cases hb : 1099511627776 < trN g w
    · rw [if_pos hb] at h; omega
    · omega
  · rw [if_neg ht] at h; exact absurd h ht
set_option maxRecDepth 10000 in
set_option maxHeartbeats 4000000 in
theorem pickCode_spec (g : Grammar) (hg : g.ok) (w : List Int) (hw : w.length ≤ 9223372036854775807) : Dm.Spec Try.prog 13 [.ag (graD g), .sl 1 (i64s w)] (· = iv .i64 (trC g w)) := by
  refine spec_of_vc mixed Try.func13 c13 (by rw [show Try.f13.ntmps = _ from Try.ntmps13]; simp) ?_
  unfold m13 r13
  have hq := treesCheck_spec g hg w hw
  by_cases ht : tcode g w = 0
  · have hc := (cc_of ht).1
    have hk := hc.v.k
    have hn := hc.v.n
    have hst := hc.v.start
    have hw12 := hc.w
    have hB := bushT_spec g w hc (g.k + g.start) 0 w.length (by omega) (by omega) (Nat.zero_le _) (Nat.le_refl _) [] BI.nil
    rw [ht] at hq
    have hcpi : ((cp (trees g w (g.k + g.start) 0 w.length) : Nat) : Int) = (cp (trN g w) : Nat) := rfl
    repeat' first | ((first | refine Br.dec ?_ ?_ | refine Br.eqi ?_ ?_) <;> intro h <;> try (exfalso; omega)) | (simp (disch := (first | omega | (simp only [vlen]; first | done | omega))) only [vbe, ↓vAq, vBq, ↓reduceIte, Nat.reduceBEq, Nat.reduceEqDiff, Nat.reduceLT, Nat.reduceLeDiff, Nat.reduceAdd, Nat.reduceMul, Nat.reduceSub, reduceCtorEq, Int.reduceToNat]) | (refine Br.mk ?_ ?_ <;> intro h) | (refine BrN.mk (fun h => ?_) ?_) | (refine AltVC.mk ?_ ?_)
    refine CallVC.eq hq ?_
    repeat' first | ((first | refine Br.dec ?_ ?_ | refine Br.eqi ?_ ?_) <;> intro h <;> try (exfalso; omega)) | (simp (disch := (first | omega | (simp only [vlen]; first | done | omega))) only [vbe, ↓vAq, vBq, ↓reduceIte, Nat.reduceBEq, Nat.reduceEqDiff, Nat.reduceLT, Nat.reduceLeDiff, Nat.reduceAdd, Nat.reduceMul, Nat.reduceSub, reduceCtorEq, Int.reduceToNat]) | (refine Br.mk ?_ ?_ <;> intro h) | (refine BrN.mk (fun h => ?_) ?_) | (refine AltVC.mk ?_ ?_)
    refine CallP.lend [.ag (graD g), .sl 1 (i64s w)] (grow_bspec g w) (by simp (disch := (first | omega | (simp only [vlen]; first | done | omega))) only [vbe, ↓vAq, vBq, ↓reduceIte, Nat.reduceBEq, Nat.reduceEqDiff, Nat.reduceLT, Nat.reduceLeDiff, Nat.reduceAdd, Nat.reduceMul, Nat.reduceSub, reduceCtorEq, Int.reduceToNat]) ?_
    rintro _ _ ⟨rfl, rfl⟩
    repeat' first | ((first | refine Br.dec ?_ ?_ | refine Br.eqi ?_ ?_) <;> intro h <;> try (exfalso; omega)) | (simp (disch := (first | omega | (simp only [vlen]; first | done | omega))) only [vbe, ↓vAq, vBq, ↓reduceIte, Nat.reduceBEq, Nat.reduceEqDiff, Nat.reduceLT, Nat.reduceLeDiff, Nat.reduceAdd, Nat.reduceMul, Nat.reduceSub, reduceCtorEq, Int.reduceToNat]) | (refine Br.mk ?_ ?_ <;> intro h) | (refine BrN.mk (fun h => ?_) ?_) | (refine AltVC.mk ?_ ?_)
    refine CallVC.lendE [3, 2] [.ptr 0 6 0 0, iv .i64 (g.k + g.start), iv .i64 (0 : Nat), iv .i64 w.length] (buO g w []) hB (by simp) (by rfl) (by unfold buO; (simp (disch := (first | omega | (simp only [vlen]; first | done | omega))) only [vle0, ↓vAq, vBq, ↓reduceIte, Nat.reduceBEq, Nat.reduceEqDiff, Nat.reduceLT, Nat.reduceLeDiff, Nat.reduceAdd, Nat.reduceMul, Nat.reduceSub, reduceCtorEq, Int.reduceToNat] <;> (repeat' first | rfl | apply And.intro))) ?_
    rintro _ _ ⟨L2, rfl, rfl, hL2⟩
    unfold buO
    rw [hcpi]
    by_cases hbig : 1099511627776 < trN g w
    · have hcp : (cp (trN g w) : Int) = 1099511627777 := by unfold cp; omega
      have e : trC g w = 1 := by unfold trC; rw [if_pos ht, if_pos hbig]
      rw [hcp]
      repeat' first | ((first | refine Br.dec ?_ ?_ | refine Br.eqi ?_ ?_) <;> intro h <;> try (exfalso; omega)) | (simp (disch := (first | omega | (simp only [vlen]; first | done | omega))) only [vbe, ↓vAq, vBq, ↓reduceIte, Nat.reduceBEq, Nat.reduceEqDiff, Nat.reduceLT, Nat.reduceLeDiff, Nat.reduceAdd, Nat.reduceMul, Nat.reduceSub, reduceCtorEq, Int.reduceToNat]) | (refine Br.mk ?_ ?_ <;> intro h) | (refine BrN.mk (fun h => ?_) ?_) | (refine AltVC.mk ?_ ?_)
      exact fin_mk (by rw [e])
    · have hcp : (cp (trN g w) : Int) = (trN g w : Int) := by unfold cp; omega
      have e : trC g w = 0 := by unfold trC; rw [if_pos ht, if_neg hbig]
      rw [hcp]
      repeat' first | ((first | refine Br.dec ?_ ?_ | refine Br.eqi ?_ ?_) <;> intro h <;> try (exfalso; omega)) | (simp (disch := (first | omega | (simp only [vlen]; first | done | omega))) only [vbe, ↓vAq, vBq, ↓reduceIte, Nat.reduceBEq, Nat.reduceEqDiff, Nat.reduceLT, Nat.reduceLeDiff, Nat.reduceAdd, Nat.reduceMul, Nat.reduceSub, reduceCtorEq, Int.reduceToNat]) | (refine Br.mk ?_ ?_ <;> intro h) | (refine BrN.mk (fun h => ?_) ?_) | (refine AltVC.mk ?_ ?_)
      exact fin_mk (by rw [e])
  · have e : trC g w = tcode g w := by unfold trC; rw [if_neg ht]
    repeat' first | ((first | refine Br.dec ?_ ?_ | refine Br.eqi ?_ ?_) <;> intro h <;> try (exfalso; omega)) | (simp (disch := (first | omega | (simp only [vlen]; first | done | omega))) only [vbe, ↓vAq, vBq, ↓reduceIte, Nat.reduceBEq, Nat.reduceEqDiff, Nat.reduceLT, Nat.reduceLeDiff, Nat.reduceAdd, Nat.reduceMul, Nat.reduceSub, reduceCtorEq, Int.reduceToNat]) | (refine Br.mk ?_ ?_ <;> intro h) | (refine BrN.mk (fun h => ?_) ?_) | (refine AltVC.mk ?_ ?_)
    refine CallVC.eq hq ?_
    repeat' first | ((first | refine Br.dec ?_ ?_ | refine Br.eqi ?_ ?_) <;> intro h <;> try (exfalso; omega)) | (simp (disch := (first | omega | (simp only [vlen]; first | done | omega))) only [vbe, ↓vAq, vBq, ↓reduceIte, Nat.reduceBEq, Nat.reduceEqDiff, Nat.reduceLT, Nat.reduceLeDiff, Nat.reduceAdd, Nat.reduceMul, Nat.reduceSub, reduceCtorEq, Int.reduceToNat]) | (refine Br.mk ?_ ?_ <;> intro h) | (refine BrN.mk (fun h => ?_) ?_) | (refine AltVC.mk ?_ ?_)
    exact fin_mk (by rw [e])
def plR (g : Grammar) (w : List Int) (stp : List Int) (d : D) : Prop :=
  (∃ K, Tk g w [g.k + g.start] 0 [w.length] stp K ∧ d = iv .i64 (K : Nat)) ∨ ((∀ K, ¬ Tk g w [g.k + g.start] 0 [w.length] stp K) ∧ d = iv .i64 (-1))
set_option maxRecDepth 10000 in
set_option maxHeartbeats 4000000 in
theorem placeOf_spec (g : Grammar) (w : List Int) (ht : trC g w = 0) (stp : List Int) (hs : stp.length ≤ 1000000) : Dm.Spec Try.prog 16 [.ag (graD g), .sl 1 (i64s w), .sl 1 (i64s stp)] (fun d => plR g w stp d) := by
  refine spec_of_vc mixed Try.func16 c16 (by rw [show Try.f16.ntmps = _ from Try.ntmps16]; simp) ?_
  unfold m16 r16
  obtain ⟨hc, h0, hT⟩ := cc_ok ht
  have hk := hc.v.k
  have hn := hc.v.n
  have hst := hc.v.start
  have hw := hc.w
  have hA := ahead_spec g w hc (g.k + g.start) 0 w.length (by omega) (by omega) (Nat.zero_le _) (Nat.le_refl _) hT stp hs [] BI.nil
  rw [show g.k + g.start - g.k = g.start by omega] at hA
  repeat' first | ((first | refine Br.dec ?_ ?_ | refine Br.eqi ?_ ?_) <;> intro h <;> try (exfalso; omega)) | (simp (disch := (first | omega | (simp only [vlen]; first | done | omega))) only [vah, ↓vAq, vBq, ↓reduceIte, Nat.reduceBEq, Nat.reduceEqDiff, Nat.reduceLT, Nat.reduceLeDiff, Nat.reduceAdd, Nat.reduceMul, Nat.reduceSub, reduceCtorEq, Int.reduceToNat]) | (refine Br.mk ?_ ?_ <;> intro h) | (refine BrN.mk (fun h => ?_) ?_) | (refine AltVC.mk ?_ ?_)
  refine CallP.lend [.ag (graD g), .sl 1 (i64s w)] (grow_bspec g w) (by simp (disch := (first | omega | (simp only [vlen]; first | done | omega))) only [vbe, ↓vAq, vBq, ↓reduceIte, Nat.reduceBEq, Nat.reduceEqDiff, Nat.reduceLT, Nat.reduceLeDiff, Nat.reduceAdd, Nat.reduceMul, Nat.reduceSub, reduceCtorEq, Int.reduceToNat]) ?_
  rintro _ _ ⟨rfl, rfl⟩
  repeat' first | ((first | refine Br.dec ?_ ?_ | refine Br.eqi ?_ ?_) <;> intro h <;> try (exfalso; omega)) | (simp (disch := (first | omega | (simp only [vlen]; first | done | omega))) only [vah, ↓vAq, vBq, ↓reduceIte, Nat.reduceBEq, Nat.reduceEqDiff, Nat.reduceLT, Nat.reduceLeDiff, Nat.reduceAdd, Nat.reduceMul, Nat.reduceSub, reduceCtorEq, Int.reduceToNat]) | (refine Br.mk ?_ ?_ <;> intro h) | (refine BrN.mk (fun h => ?_) ?_) | (refine AltVC.mk ?_ ?_)
  refine CallVC.lendE [3, 2] [.ptr 0 6 0 0, iv .i64 g.start, iv .i64 (0 : Nat), iv .i64 w.length, .sl 1 (i64s stp)] (buO g w []) hA (by simp) (by rfl) (by unfold buO; (simp (disch := (first | omega | (simp only [vlen]; first | done | omega))) only [vle0, ↓vAq, vBq, ↓reduceIte, Nat.reduceBEq, Nat.reduceEqDiff, Nat.reduceLT, Nat.reduceLeDiff, Nat.reduceAdd, Nat.reduceMul, Nat.reduceSub, reduceCtorEq, Int.reduceToNat] <;> (repeat' first | rfl | apply And.intro))) ?_
  rintro _ _ ⟨L2, hres, rfl, hL2⟩
  unfold buO
  rcases hres with ⟨st1, K1, r, e1, hT1, rfl⟩ | ⟨hno1, rfl⟩
  · have hsl1 : st1.length + r.length = stp.length := by rw [e1, List.length_append]
    by_cases hr : st1.length = stp.length
    · have hr0 : r = [] := List.eq_nil_of_length_eq_zero (by omega)
      rw [hr0, List.append_nil] at e1
      subst e1
      repeat' first | ((first | refine Br.dec ?_ ?_ | refine Br.eqi ?_ ?_) <;> intro h <;> try (exfalso; omega)) | (simp (disch := (first | omega | (simp only [vlen]; first | done | omega))) only [vah, ↓vAq, vBq, ↓reduceIte, Nat.reduceBEq, Nat.reduceEqDiff, Nat.reduceLT, Nat.reduceLeDiff, Nat.reduceAdd, Nat.reduceMul, Nat.reduceSub, reduceCtorEq, Int.reduceToNat]) | (refine Br.mk ?_ ?_ <;> intro h) | (refine BrN.mk (fun h => ?_) ?_) | (refine AltVC.mk ?_ ?_)
      exact fin_mk (.inl ⟨K1, hT1, rfl⟩)
    · repeat' first | ((first | refine Br.dec ?_ ?_ | refine Br.eqi ?_ ?_) <;> intro h <;> try (exfalso; omega)) | (simp (disch := (first | omega | (simp only [vlen]; first | done | omega))) only [vah, ↓vAq, vBq, ↓reduceIte, Nat.reduceBEq, Nat.reduceEqDiff, Nat.reduceLT, Nat.reduceLeDiff, Nat.reduceAdd, Nat.reduceMul, Nat.reduceSub, reduceCtorEq, Int.reduceToNat]) | (refine Br.mk ?_ ?_ <;> intro h) | (refine BrN.mk (fun h => ?_) ?_) | (refine AltVC.mk ?_ ?_)
      refine fin_mk (.inr ⟨fun K hK => ?_, rfl⟩)
      have := hT1.det hK (r := r) (r' := []) (by rw [List.append_nil]; exact e1.symm)
      exact hr (by rw [this.1])
  · have hno2 : ∀ K, ¬ Tk g w [g.k + g.start] 0 [w.length] stp K := fun K hK => hno1 stp K [] (by rw [List.append_nil]) hK
    repeat' first | ((first | refine Br.dec ?_ ?_ | refine Br.eqi ?_ ?_) <;> intro h <;> try (exfalso; omega)) | (simp (disch := (first | omega | (simp only [vlen]; first | done | omega))) only [vah, ↓vAq, vBq, ↓reduceIte, Nat.reduceBEq, Nat.reduceEqDiff, Nat.reduceLT, Nat.reduceLeDiff, Nat.reduceAdd, Nat.reduceMul, Nat.reduceSub, reduceCtorEq, Int.reduceToNat]) | (refine Br.mk ?_ ?_ <;> intro h) | (refine BrN.mk (fun h => ?_) ?_) | (refine AltVC.mk ?_ ?_)
    all_goals exact fin_mk (.inr ⟨hno2, rfl⟩)
def pkR (g : Grammar) (w : List Int) (i : Int) (d : D) : Prop :=
  (trC g w ≠ 0 ∧ d = .tu [.sl 1 [], iv .i64 (trC g w)]) ∨ (trC g w = 0 ∧ ¬ (0 ≤ i ∧ i < trN g w) ∧ d = .tu [.sl 1 [], iv .i64 5]) ∨
  (trC g w = 0 ∧ ∃ (r : Nat) (st : List Int), i = r ∧ r < trN g w ∧ Tk g w [g.k + g.start] 0 [w.length] st r ∧ (d = .tu [.sl 1 (i64s st), iv .i64 0] ∨ (st = [] ∧ d = .tu [.nl, iv .i64 0])))
set_option maxRecDepth 10000 in
set_option maxHeartbeats 4000000 in
theorem pick_spec (g : Grammar) (hg : g.ok) (w : List Int) (hw : w.length ≤ 9223372036854775807) (i : Int) (hi : ok64 i) : Dm.Spec Try.prog 12 [.ag (graD g), .sl 1 (i64s w), iv .i64 i] (fun d => pkR g w i d) := by
  refine spec_of_vc mixed Try.func12 c12 (by rw [show Try.f12.ntmps = _ from Try.ntmps12]; simp) ?_
  unfold m12 r12
  repeat' first | ((first | refine Br.dec ?_ ?_ | refine Br.eqi ?_ ?_) <;> intro h <;> try (exfalso; omega)) | (simp (disch := (first | omega | (simp only [vlen]; first | done | omega))) only [vmy, ↓vAq, vBq, ↓reduceIte, Nat.reduceBEq, Nat.reduceEqDiff, Nat.reduceLT, Nat.reduceLeDiff, Nat.reduceAdd, Nat.reduceMul, Nat.reduceSub, reduceCtorEq, Int.reduceToNat]) | (refine Br.mk ?_ ?_ <;> intro h) | (refine BrN.mk (fun h => ?_) ?_) | (refine AltVC.mk ?_ ?_)
  refine CallVC.lendE [] [.ag (graD g), .sl 1 (i64s w)] [] (whole_spec g hg w hw) (by simp) (by rfl) (by (simp (disch := (first | omega | (simp only [vlen]; first | done | omega))) only [vle0, ↓vAq, vBq, ↓reduceIte, Nat.reduceBEq, Nat.reduceEqDiff, Nat.reduceLT, Nat.reduceLeDiff, Nat.reduceAdd, Nat.reduceMul, Nat.reduceSub, reduceCtorEq, Int.reduceToNat] <;> (repeat' first | rfl | apply And.intro))) ?_
  rintro _ _ (⟨h1, h2, L, rfl, rfl, hL⟩ | ⟨c, h1, h2, h3, rfl⟩)
  · have e : trC g w = 0 := by unfold trC; rw [if_pos h1, if_neg (by omega)]
    obtain ⟨hc, _, _⟩ := cc_ok e
    have hk := hc.v.k
    have hn := hc.v.n
    have hst := hc.v.start
    have hw12 := hc.w
    by_cases hin : 0 ≤ i ∧ i < trN g w
    · obtain ⟨r, rfl⟩ : ∃ r : Nat, i = r := ⟨i.toNat, by omega⟩
      have hnt := nth_spec g w hc (g.k + g.start) 0 w.length (by omega) (by omega) (Nat.zero_le _) (Nat.le_refl _) h2 r (show r < trN g w by omega) L hL
      repeat' first | ((first | refine Br.dec ?_ ?_ | refine Br.eqi ?_ ?_) <;> intro h <;> try (exfalso; omega)) | (simp (disch := (first | omega | (simp only [vlen]; first | done | omega))) only [vmy, ↓vAq, vBq, ↓reduceIte, Nat.reduceBEq, Nat.reduceEqDiff, Nat.reduceLT, Nat.reduceLeDiff, Nat.reduceAdd, Nat.reduceMul, Nat.reduceSub, reduceCtorEq, Int.reduceToNat]) | (refine Br.mk ?_ ?_ <;> intro h) | (refine BrN.mk (fun h => ?_) ?_) | (refine AltVC.mk ?_ ?_)
      refine CallVC.lendE [5, 4] [.ptr 0 6 0 0, iv .i64 (g.k + g.start), .ag [iv .i64 (0 : Nat), iv .i64 w.length], iv .i64 r] (coO g w L) hnt (by simp) (by rfl) (by unfold coO; (simp (disch := (first | omega | (simp only [vlen]; first | done | omega))) only [vle0, ↓vAq, vBq, ↓reduceIte, Nat.reduceBEq, Nat.reduceEqDiff, Nat.reduceLT, Nat.reduceLeDiff, Nat.reduceAdd, Nat.reduceMul, Nat.reduceSub, reduceCtorEq, Int.reduceToNat] <;> (repeat' first | rfl | apply And.intro))) ?_
      rintro _ _ ⟨st, L2, hT, hres, rfl, hL2⟩
      unfold coO
      rcases hres with rfl | ⟨rfl, rfl⟩
      · repeat' first | ((first | refine Br.dec ?_ ?_ | refine Br.eqi ?_ ?_) <;> intro h <;> try (exfalso; omega)) | (simp (disch := (first | omega | (simp only [vlen]; first | done | omega))) only [vmy, ↓vAq, vBq, ↓reduceIte, Nat.reduceBEq, Nat.reduceEqDiff, Nat.reduceLT, Nat.reduceLeDiff, Nat.reduceAdd, Nat.reduceMul, Nat.reduceSub, reduceCtorEq, Int.reduceToNat]) | (refine Br.mk ?_ ?_ <;> intro h) | (refine BrN.mk (fun h => ?_) ?_) | (refine AltVC.mk ?_ ?_)
        exact fin_mk (.inr (.inr ⟨e, r, st, rfl, by omega, hT, .inl rfl⟩))
      · repeat' first | ((first | refine Br.dec ?_ ?_ | refine Br.eqi ?_ ?_) <;> intro h <;> try (exfalso; omega)) | (simp (disch := (first | omega | (simp only [vlen]; first | done | omega))) only [vmy, ↓vAq, vBq, ↓reduceIte, Nat.reduceBEq, Nat.reduceEqDiff, Nat.reduceLT, Nat.reduceLeDiff, Nat.reduceAdd, Nat.reduceMul, Nat.reduceSub, reduceCtorEq, Int.reduceToNat]) | (refine Br.mk ?_ ?_ <;> intro h) | (refine BrN.mk (fun h => ?_) ?_) | (refine AltVC.mk ?_ ?_)
        exact fin_mk (.inr (.inr ⟨e, r, [], rfl, by omega, hT, .inr ⟨rfl, rfl⟩⟩))
    · repeat' first | ((first | refine Br.dec ?_ ?_ | refine Br.eqi ?_ ?_) <;> intro h <;> try (exfalso; omega)) | (simp (disch := (first | omega | (simp only [vlen]; first | done | omega))) only [vmy, ↓vAq, vBq, ↓reduceIte, Nat.reduceBEq, Nat.reduceEqDiff, Nat.reduceLT, Nat.reduceLeDiff, Nat.reduceAdd, Nat.reduceMul, Nat.reduceSub, reduceCtorEq, Int.reduceToNat]) | (refine Br.mk ?_ ?_ <;> intro h) | (refine BrN.mk (fun h => ?_) ?_) | (refine AltVC.mk ?_ ?_)
      all_goals exact fin_mk (.inr (.inl ⟨e, hin, rfl⟩))
  · have e : trC g w = c := by
      unfold trC
      by_cases ht : tcode g w = 0
      · rw [if_pos ht] at h2
        rw [if_pos ht, if_pos (h3 ht), h2]
      · rw [if_neg ht] at h2
        rw [if_neg ht, h2]
    repeat' first | ((first | refine Br.dec ?_ ?_ | refine Br.eqi ?_ ?_) <;> intro h <;> try (exfalso; omega)) | (simp (disch := (first | omega | (simp only [vlen]; first | done | omega))) only [vmy, ↓vAq, vBq, ↓reduceIte, Nat.reduceBEq, Nat.reduceEqDiff, Nat.reduceLT, Nat.reduceLeDiff, Nat.reduceAdd, Nat.reduceMul, Nat.reduceSub, reduceCtorEq, Int.reduceToNat]) | (refine Br.mk ?_ ?_ <;> intro h) | (refine BrN.mk (fun h => ?_) ?_) | (refine AltVC.mk ?_ ?_)
    exact fin_mk (.inl ⟨by rw [e]; exact h1, by rw [e]⟩)
set_option maxRecDepth 10000 in
set_option maxHeartbeats 4000000 in
theorem pickTells_spec (g : Grammar) (hg : g.ok) (w : List Int) (hw : okL ok64 w) (i : Int) (hi : ok64 i) : Dm.Spec Try.prog 6 [.ag (graD g), .sl 1 (i64s w), iv .i64 i] (· = .v (.bool true)) := by
  refine spec_of_vc mixed Try.func6 c6 (by rw [show Try.f6.ntmps = _ from Try.ntmps6]; simp) ?_
  unfold m6 r6
  have hwl := maxLen_le hw.1
  have hm := pick_spec g hg w hwl i hi
  have hp := pickCode_spec g hg w hwl
  repeat' first | ((first | refine Br.dec ?_ ?_ | refine Br.eqi ?_ ?_) <;> intro h <;> try (exfalso; omega)) | (simp (disch := (first | omega | (simp only [vlen]; first | done | omega))) only [vbe, ↓vAq, vBq, ↓reduceIte, Nat.reduceBEq, Nat.reduceEqDiff, Nat.reduceLT, Nat.reduceLeDiff, Nat.reduceAdd, Nat.reduceMul, Nat.reduceSub, reduceCtorEq, Int.reduceToNat]) | (refine Br.mk ?_ ?_ <;> intro h) | (refine BrN.mk (fun h => ?_) ?_) | (refine AltVC.mk ?_ ?_)
  refine CallVC.mk hm ?_
  rintro _ (⟨e, rfl⟩ | ⟨e, hin, rfl⟩ | ⟨e, r, st, rfl, hr, hT, hd⟩)
  · repeat' first | ((first | refine Br.dec ?_ ?_ | refine Br.eqi ?_ ?_) <;> intro h <;> try (exfalso; omega)) | (simp (disch := (first | omega | (simp only [vlen]; first | done | omega))) only [vbe, ↓vAq, vBq, ↓reduceIte, Nat.reduceBEq, Nat.reduceEqDiff, Nat.reduceLT, Nat.reduceLeDiff, Nat.reduceAdd, Nat.reduceMul, Nat.reduceSub, reduceCtorEq, Int.reduceToNat]) | (refine Br.mk ?_ ?_ <;> intro h) | (refine BrN.mk (fun h => ?_) ?_) | (refine AltVC.mk ?_ ?_)
    refine CallVC.eq hp ?_
    repeat' first | ((first | refine Br.dec ?_ ?_ | refine Br.eqi ?_ ?_) <;> intro h <;> try (exfalso; omega)) | (simp (disch := (first | omega | (simp only [vlen]; first | done | omega))) only [vbe, ↓vAq, vBq, ↓reduceIte, Nat.reduceBEq, Nat.reduceEqDiff, Nat.reduceLT, Nat.reduceLeDiff, Nat.reduceAdd, Nat.reduceMul, Nat.reduceSub, reduceCtorEq, Int.reduceToNat]) | (refine Br.mk ?_ ?_ <;> intro h) | (refine BrN.mk (fun h => ?_) ?_) | (refine AltVC.mk ?_ ?_)
    all_goals exact fin_mk (vbEq (by simp))
  · obtain ⟨hc, _, hsm⟩ := cc_ok e
    have hk := hc.v.k
    have hn := hc.v.n
    have hst := hc.v.start
    have hw12 := hc.w
    have hB := bushT_spec g w hc (g.k + g.start) 0 w.length (by omega) (by omega) (Nat.zero_le _) (Nat.le_refl _) [] BI.nil
    have hcpi : ((cp (trees g w (g.k + g.start) 0 w.length) : Nat) : Int) = (trN g w : Nat) := by unfold trN at hsm ⊢; unfold cp; omega
    rw [e] at hp
    by_cases hi0 : i < 0
    · repeat' first | ((first | refine Br.dec ?_ ?_ | refine Br.eqi ?_ ?_) <;> intro h <;> try (exfalso; omega)) | (simp (disch := (first | omega | (simp only [vlen]; first | done | omega))) only [vbe, ↓vAq, vBq, ↓reduceIte, Nat.reduceBEq, Nat.reduceEqDiff, Nat.reduceLT, Nat.reduceLeDiff, Nat.reduceAdd, Nat.reduceMul, Nat.reduceSub, reduceCtorEq, Int.reduceToNat]) | (refine Br.mk ?_ ?_ <;> intro h) | (refine BrN.mk (fun h => ?_) ?_) | (refine AltVC.mk ?_ ?_)
      refine CallVC.eq hp ?_
      repeat' first | ((first | refine Br.dec ?_ ?_ | refine Br.eqi ?_ ?_) <;> intro h <;> try (exfalso; omega)) | (simp (disch := (first | omega | (simp only [vlen]; first | done | omega))) only [vbe, ↓vAq, vBq, ↓reduceIte, Nat.reduceBEq, Nat.reduceEqDiff, Nat.reduceLT, Nat.reduceLeDiff, Nat.reduceAdd, Nat.reduceMul, Nat.reduceSub, reduceCtorEq, Int.reduceToNat]) | (refine Br.mk ?_ ?_ <;> intro h) | (refine BrN.mk (fun h => ?_) ?_) | (refine AltVC.mk ?_ ?_)
      all_goals exact fin_mk (vbEq (by simp))
    · repeat' first | ((first | refine Br.dec ?_ ?_ | refine Br.eqi ?_ ?_) <;> intro h <;> try (exfalso; omega)) | (simp (disch := (first | omega | (simp only [vlen]; first | done | omega))) only [vbe, ↓vAq, vBq, ↓reduceIte, Nat.reduceBEq, Nat.reduceEqDiff, Nat.reduceLT, Nat.reduceLeDiff, Nat.reduceAdd, Nat.reduceMul, Nat.reduceSub, reduceCtorEq, Int.reduceToNat]) | (refine Br.mk ?_ ?_ <;> intro h) | (refine BrN.mk (fun h => ?_) ?_) | (refine AltVC.mk ?_ ?_)
      refine CallVC.eq hp ?_
      repeat' first | ((first | refine Br.dec ?_ ?_ | refine Br.eqi ?_ ?_) <;> intro h <;> try (exfalso; omega)) | (simp (disch := (first | omega | (simp only [vlen]; first | done | omega))) only [vbe, ↓vAq, vBq, ↓reduceIte, Nat.reduceBEq, Nat.reduceEqDiff, Nat.reduceLT, Nat.reduceLeDiff, Nat.reduceAdd, Nat.reduceMul, Nat.reduceSub, reduceCtorEq, Int.reduceToNat]) | (refine Br.mk ?_ ?_ <;> intro h) | (refine BrN.mk (fun h => ?_) ?_) | (refine AltVC.mk ?_ ?_)
      refine CallP.lend [.ag (graD g), .sl 1 (i64s w)] (grow_bspec g w) (by simp (disch := (first | omega | (simp only [vlen]; first | done | omega))) only [vbe, ↓vAq, vBq, ↓reduceIte, Nat.reduceBEq, Nat.reduceEqDiff, Nat.reduceLT, Nat.reduceLeDiff, Nat.reduceAdd, Nat.reduceMul, Nat.reduceSub, reduceCtorEq, Int.reduceToNat]) ?_
      rintro _ _ ⟨rfl, rfl⟩
      repeat' first | ((first | refine Br.dec ?_ ?_ | refine Br.eqi ?_ ?_) <;> intro h <;> try (exfalso; omega)) | (simp (disch := (first | omega | (simp only [vlen]; first | done | omega))) only [vbe, ↓vAq, vBq, ↓reduceIte, Nat.reduceBEq, Nat.reduceEqDiff, Nat.reduceLT, Nat.reduceLeDiff, Nat.reduceAdd, Nat.reduceMul, Nat.reduceSub, reduceCtorEq, Int.reduceToNat]) | (refine Br.mk ?_ ?_ <;> intro h) | (refine BrN.mk (fun h => ?_) ?_) | (refine AltVC.mk ?_ ?_)
      refine CallVC.lendE [3, 2] [.ptr 0 6 0 0, iv .i64 (g.k + g.start), iv .i64 (0 : Nat), iv .i64 w.length] (buO g w []) hB (by simp) (by rfl) (by unfold buO; (simp (disch := (first | omega | (simp only [vlen]; first | done | omega))) only [vle0, ↓vAq, vBq, ↓reduceIte, Nat.reduceBEq, Nat.reduceEqDiff, Nat.reduceLT, Nat.reduceLeDiff, Nat.reduceAdd, Nat.reduceMul, Nat.reduceSub, reduceCtorEq, Int.reduceToNat] <;> (repeat' first | rfl | apply And.intro))) ?_
      rintro _ _ ⟨L2, rfl, rfl, hL2⟩
      unfold buO
      rw [hcpi]
      repeat' first | ((first | refine Br.dec ?_ ?_ | refine Br.eqi ?_ ?_) <;> intro h <;> try (exfalso; omega)) | (simp (disch := (first | omega | (simp only [vlen]; first | done | omega))) only [vbe, ↓vAq, vBq, ↓reduceIte, Nat.reduceBEq, Nat.reduceEqDiff, Nat.reduceLT, Nat.reduceLeDiff, Nat.reduceAdd, Nat.reduceMul, Nat.reduceSub, reduceCtorEq, Int.reduceToNat]) | (refine Br.mk ?_ ?_ <;> intro h) | (refine BrN.mk (fun h => ?_) ?_) | (refine AltVC.mk ?_ ?_)
      all_goals exact fin_mk (vbEq (by simp))
  · obtain ⟨hc, _, hsm⟩ := cc_ok e
    have hk := hc.v.k
    have hn := hc.v.n
    have hst := hc.v.start
    have hw12 := hc.w
    have hB := bushT_spec g w hc (g.k + g.start) 0 w.length (by omega) (by omega) (Nat.zero_le _) (Nat.le_refl _) [] BI.nil
    have hcpi : ((cp (trees g w (g.k + g.start) 0 w.length) : Nat) : Int) = (trN g w : Nat) := by unfold trN at hsm ⊢; unfold cp; omega
    have hstl : st.length ≤ 1000000 := by
      have := tk_steps hc.p hT
      simp only [List.length_singleton, stA, Nat.one_ne_zero, if_false, Nat.sub_self, List.getD_cons_zero] at this
      omega
    have hpl := placeOf_spec g w e st hstl
    rw [e] at hp
    have hfin : ∀ d, plR g w st d → d = iv .i64 r := fun d hd => by
      rcases hd with ⟨K, hK, rfl⟩ | ⟨hno, _⟩
      · have := (hT.det hK (r := []) (r' := []) rfl).2.2.1
        rw [this]
      · exact absurd hT (hno r)
    have hpl2 : Dm.Spec Try.prog 16 [.ag (graD g), .sl 1 (i64s w), .sl 1 (i64s st)] (· = iv .i64 r) := Dm.Spec.mono hpl hfin
    rcases hd with rfl | ⟨rfl, rfl⟩
    · repeat' first | ((first | refine Br.dec ?_ ?_ | refine Br.eqi ?_ ?_) <;> intro h <;> try (exfalso; omega)) | (simp (disch := (first | omega | (simp only [vlen]; first | done | omega))) only [vbe, ↓vAq, vBq, ↓reduceIte, Nat.reduceBEq, Nat.reduceEqDiff, Nat.reduceLT, Nat.reduceLeDiff, Nat.reduceAdd, Nat.reduceMul, Nat.reduceSub, reduceCtorEq, Int.reduceToNat]) | (refine Br.mk ?_ ?_ <;> intro h) | (refine BrN.mk (fun h => ?_) ?_) | (refine AltVC.mk ?_ ?_)
      refine CallVC.eq hp ?_
      repeat' first | ((first | refine Br.dec ?_ ?_ | refine Br.eqi ?_ ?_) <;> intro h <;> try (exfalso; omega)) | (simp (disch := (first | omega | (simp only [vlen]; first | done | omega))) only [vbe, ↓vAq, vBq, ↓reduceIte, Nat.reduceBEq, Nat.reduceEqDiff, Nat.reduceLT, Nat.reduceLeDiff, Nat.reduceAdd, Nat.reduceMul, Nat.reduceSub, reduceCtorEq, Int.reduceToNat]) | (refine Br.mk ?_ ?_ <;> intro h) | (refine BrN.mk (fun h => ?_) ?_) | (refine AltVC.mk ?_ ?_)
      refine CallP.lend [.ag (graD g), .sl 1 (i64s w)] (grow_bspec g w) (by simp (disch := (first | omega | (simp only [vlen]; first | done | omega))) only [vbe, ↓vAq, vBq, ↓reduceIte, Nat.reduceBEq, Nat.reduceEqDiff, Nat.reduceLT, Nat.reduceLeDiff, Nat.reduceAdd, Nat.reduceMul, Nat.reduceSub, reduceCtorEq, Int.reduceToNat]) ?_
      rintro _ _ ⟨rfl, rfl⟩
      repeat' first | ((first | refine Br.dec ?_ ?_ | refine Br.eqi ?_ ?_) <;> intro h <;> try (exfalso; omega)) | (simp (disch := (first | omega | (simp only [vlen]; first | done | omega))) only [vbe, ↓vAq, vBq, ↓reduceIte, Nat.reduceBEq, Nat.reduceEqDiff, Nat.reduceLT, Nat.reduceLeDiff, Nat.reduceAdd, Nat.reduceMul, Nat.reduceSub, reduceCtorEq, Int.reduceToNat]) | (refine Br.mk ?_ ?_ <;> intro h) | (refine BrN.mk (fun h => ?_) ?_) | (refine AltVC.mk ?_ ?_)
      refine CallVC.lendE [3, 2] [.ptr 0 6 0 0, iv .i64 (g.k + g.start), iv .i64 (0 : Nat), iv .i64 w.length] (buO g w []) hB (by simp) (by rfl) (by unfold buO; (simp (disch := (first | omega | (simp only [vlen]; first | done | omega))) only [vle0, ↓vAq, vBq, ↓reduceIte, Nat.reduceBEq, Nat.reduceEqDiff, Nat.reduceLT, Nat.reduceLeDiff, Nat.reduceAdd, Nat.reduceMul, Nat.reduceSub, reduceCtorEq, Int.reduceToNat] <;> (repeat' first | rfl | apply And.intro))) ?_
      rintro _ _ ⟨L2, rfl, rfl, hL2⟩
      unfold buO
      rw [hcpi]
      repeat' first | ((first | refine Br.dec ?_ ?_ | refine Br.eqi ?_ ?_) <;> intro h <;> try (exfalso; omega)) | (simp (disch := (first | omega | (simp only [vlen]; first | done | omega))) only [vbe, ↓vAq, vBq, ↓reduceIte, Nat.reduceBEq, Nat.reduceEqDiff, Nat.reduceLT, Nat.reduceLeDiff, Nat.reduceAdd, Nat.reduceMul, Nat.reduceSub, reduceCtorEq, Int.reduceToNat]) | (refine Br.mk ?_ ?_ <;> intro h) | (refine BrN.mk (fun h => ?_) ?_) | (refine AltVC.mk ?_ ?_)
      refine CallVC.eq hpl2 ?_
      repeat' first | ((first | refine Br.dec ?_ ?_ | refine Br.eqi ?_ ?_) <;> intro h <;> try (exfalso; omega)) | (simp (disch := (first | omega | (simp only [vlen]; first | done | omega))) only [vbe, ↓vAq, vBq, ↓reduceIte, Nat.reduceBEq, Nat.reduceEqDiff, Nat.reduceLT, Nat.reduceLeDiff, Nat.reduceAdd, Nat.reduceMul, Nat.reduceSub, reduceCtorEq, Int.reduceToNat]) | (refine Br.mk ?_ ?_ <;> intro h) | (refine BrN.mk (fun h => ?_) ?_) | (refine AltVC.mk ?_ ?_)
      all_goals exact fin_mk (vbEq (by simp))
    · exfalso
      exact ahNo_nil (show ¬ g.k + g.start < g.k by omega) [] r [] rfl hT
end Go.Proofs.Ytjekkbpdgnohcaa
