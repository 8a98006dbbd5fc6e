/-
  The law SolveSentences (Kleene).
-/
import Derived.Test.YtdncgpgfnclifaaKt
namespace Go.Proofs.Ytdncgpgfnclifaa
open Go.Dm
set_option linter.unusedSimpArgs false
set_option linter.unnecessarySimpa false
set_option linter.unusedVariables false
set_option linter.defProp false
theorem rightF_okK {k : Int} {l : List Dm.Node} (hv : NodesOk k l) : ∀ {n i : Nat}, l.length ≤ i + n → rightF k i (l.drop i) = 0
  | 0, i, h => right_end (by omega)
  | n + 1, i, h => by
    by_cases hi : i < l.length
    · rw [right_step hi]
      · exact rightF_okK hv (n := n) (by omega)
      · obtain ⟨h1, h2, h3, h4, h5⟩ := hv i hi
        unfold nodeCode
        rw [if_neg (by omega)]
        by_cases e3 : (l.getD i default).kind = 3
        · have := h3 e3
          rw [if_neg (by omega), if_neg (by omega), if_neg (by omega)]
        · rw [if_neg (by omega)]
          by_cases e4 : 4 ≤ (l.getD i default).kind
          · have := h4 e4
            rw [if_neg (by omega)]
            by_cases e5 : (l.getD i default).kind = 4 ∨ (l.getD i default).kind = 5
            · have := h5 e5
              rw [if_neg (by omega)]
            · rw [if_neg (by omega)]
          · rw [if_neg (by omega), if_neg (by omega)]
    · exact right_end (by omega)
theorem ldN_leads {m : Dm.Machine} (hv : VM m) : ∀ {u : List Int} {i : Nat}, (i : Int) < m.n → (ldN (nxM m) i u : Int) = leads m i u
  | [], i, h => rfl
  | s :: u, i, h => by
    have h1 := hv.st (p := (i : Int)) (s := s) (by omega)
    have h2 : ((nxM m i s : Nat) : Int) = mstep m i s := by
      unfold mstep at h1 ⊢
      rw [Int.toNat_natCast] at h1 ⊢
      unfold nxM; omega
    show (ldN (nxM m) (nxM m i s) u : Int) = leads m (mstep m i s) u
    rw [← h2]
    exact ldN_leads hv (by omega)
open Classical in
theorem kl_all {m : Dm.Machine} (hv : VM m) {l : List Dm.Node} {w : List Int} (hs : ∀ s, s ∈ w → 0 ≤ s ∧ s < m.k) (h : lang l (l.length - 1) = fL (nxM m) m.k m.n.toNat m.start.toNat (fun s => m.final.toNat.testBit s) m.n.toNat) : mb l w (l.length - 1) 0 w.length = m.final.toNat.testBit (leads m m.start w).toNat := by
  have hst := hv.start
  have e : Mt l w (l.length - 1) 0 w.length ↔ lang l (l.length - 1) w := by
    unfold Mt; rw [seg_all]
    exact ⟨fun h => h.2, fun h => ⟨Nat.zero_le _, h⟩⟩
  have hl := ldN_leads hv (u := w) (i := m.start.toNat) (by omega)
  rw [show ((m.start.toNat : Nat) : Int) = m.start by omega] at hl
  unfold mb
  rw [Bool.eq_iff_iff, decide_eq_true_eq, e, h, fL_all (fun i s hi h1 h2 => ?_) (by omega) hs, ← hl, Int.toNat_natCast]
  have h3 := hv.st (p := (i : Int)) (s := s) (by omega)
  unfold mstep at h3
  rw [Int.toNat_natCast] at h3
  unfold nxM; omega
set_option maxRecDepth 10000 in
set_option maxHeartbeats 4000000 in
theorem solveSentences_spec (m : Dm.Machine) (hm : m.ok) (w : List Int) (hw : okL ok64 w) : Dm.Spec Try.prog 3 [.ag (macD m), .sl 1 (i64s w)] (· = .v (.bool true)) := by
  refine spec_of_vc mixed Try.func3 c3 (by rw [show Try.f3.ntmps = _ from Try.ntmps3]; simp) ?_
  unfold m3 r3
  have hwl := maxLen_le hw.1
  have hS := sentence_spec m hm hm.2.2.2.2
  have hR := refMCheck_spec m hm
  by_cases hc : mcode m = 0
  · have hv := vm_of hm.2.2.2.2.1 hc
    have hk := hv.k
    rw [hc] at hR
    have hW := refWord_spec m.k (by omega) w hwl
    repeat' first | ((first | refine Br.dec ?_ ?_ | refine Br.eqi ?_ ?_) <;> intro h <;> try (exfalso; omega)) | (simp (disch := first | omega | (simp only [vlen]; first | done | omega)) only [vkt, ↓vAq, vBq, ↓reduceIte, Nat.reduceBEq, Nat.reduceEqDiff, Nat.reduceLT, Nat.reduceLeDiff, Nat.reduceAdd, Nat.reduceMul, Nat.reduceSub, reduceCtorEq, Int.reduceToNat]) | (refine Br.mk ?_ ?_ <;> intro h) | (refine BrN.mk (fun h => ?_) ?_) | (refine AltVC.mk ?_ ?_)
    refine CallVC.mk hS ?_
    rintro _ (⟨h, _⟩ | ⟨_, l, ok, hpos, hll, hlg, rfl⟩)
    · exact absurd hc h
    have hRt := right_spec m.k l (by omega)
    rw [show rightF m.k 0 l = 0 from rightF_okK ok (n := l.length) (i := 0) (by omega)] at hRt
    repeat' first | ((first | refine Br.dec ?_ ?_ | refine Br.eqi ?_ ?_) <;> intro h <;> try (exfalso; omega)) | (simp (disch := first | omega | (simp only [vlen]; first | done | omega)) only [vkt, ↓vAq, vBq, ↓reduceIte, Nat.reduceBEq, Nat.reduceEqDiff, Nat.reduceLT, Nat.reduceLeDiff, Nat.reduceAdd, Nat.reduceMul, Nat.reduceSub, reduceCtorEq, Int.reduceToNat]) | (refine Br.mk ?_ ?_ <;> intro h) | (refine BrN.mk (fun h => ?_) ?_) | (refine AltVC.mk ?_ ?_)
    refine CallVC.eq hR ?_
    repeat' first | ((first | refine Br.dec ?_ ?_ | refine Br.eqi ?_ ?_) <;> intro h <;> try (exfalso; omega)) | (simp (disch := first | omega | (simp only [vlen]; first | done | omega)) only [vkt, ↓vAq, vBq, ↓reduceIte, Nat.reduceBEq, Nat.reduceEqDiff, Nat.reduceLT, Nat.reduceLeDiff, Nat.reduceAdd, Nat.reduceMul, Nat.reduceSub, reduceCtorEq, Int.reduceToNat]) | (refine Br.mk ?_ ?_ <;> intro h) | (refine BrN.mk (fun h => ?_) ?_) | (refine AltVC.mk ?_ ?_)
    refine CallVC.eq hRt ?_
    repeat' first | ((first | refine Br.dec ?_ ?_ | refine Br.eqi ?_ ?_) <;> intro h <;> try (exfalso; omega)) | (simp (disch := first | omega | (simp only [vlen]; first | done | omega)) only [vkt, ↓vAq, vBq, ↓reduceIte, Nat.reduceBEq, Nat.reduceEqDiff, Nat.reduceLT, Nat.reduceLeDiff, Nat.reduceAdd, Nat.reduceMul, Nat.reduceSub, reduceCtorEq, Int.reduceToNat]) | (refine Br.mk ?_ ?_ <;> intro h) | (refine BrN.mk (fun h => ?_) ?_) | (refine AltVC.mk ?_ ?_)
    first | refine CallP.eq hW (by simp) ?_ | refine CallVC.eq hW ?_
    by_cases hwc : wcode m.k w = 0
    · obtain ⟨hw1, hw2⟩ := wcode_ok hwc
      have hM := means_spec m.k l ok ⟨hpos, hll⟩ w (by omega)
      have hT := takes_spec m hm.2.2.2.2 hv w hw2 (by omega)
      rw [kl_all hv hw2 hlg] at hM
      rw [hwc]
      repeat' first | ((first | refine Br.dec ?_ ?_ | refine Br.eqi ?_ ?_) <;> intro h <;> try (exfalso; omega)) | (simp (disch := first | omega | (simp only [vlen]; first | done | omega)) only [vkt, ↓vAq, vBq, ↓reduceIte, Nat.reduceBEq, Nat.reduceEqDiff, Nat.reduceLT, Nat.reduceLeDiff, Nat.reduceAdd, Nat.reduceMul, Nat.reduceSub, reduceCtorEq, Int.reduceToNat]) | (refine Br.mk ?_ ?_ <;> intro h) | (refine BrN.mk (fun h => ?_) ?_) | (refine AltVC.mk ?_ ?_)
      first | refine CallP.eq hM (by simp) ?_ | refine CallVC.eq hM ?_
      repeat' first | ((first | refine Br.dec ?_ ?_ | refine Br.eqi ?_ ?_) <;> intro h <;> try (exfalso; omega)) | (simp (disch := first | omega | (simp only [vlen]; first | done | omega)) only [vkt, ↓vAq, vBq, ↓reduceIte, Nat.reduceBEq, Nat.reduceEqDiff, Nat.reduceLT, Nat.reduceLeDiff, Nat.reduceAdd, Nat.reduceMul, Nat.reduceSub, reduceCtorEq, Int.reduceToNat]) | (refine Br.mk ?_ ?_ <;> intro h) | (refine BrN.mk (fun h => ?_) ?_) | (refine AltVC.mk ?_ ?_)
      first | refine CallP.eq hT (by simp) ?_ | refine CallVC.eq hT ?_
      repeat' first | ((first | refine Br.dec ?_ ?_ | refine Br.eqi ?_ ?_) <;> intro h <;> try (exfalso; omega)) | (simp (disch := first | omega | (simp only [vlen]; first | done | omega)) only [vkt, ↓vAq, vBq, ↓reduceIte, Nat.reduceBEq, Nat.reduceEqDiff, Nat.reduceLT, Nat.reduceLeDiff, Nat.reduceAdd, Nat.reduceMul, Nat.reduceSub, reduceCtorEq, Int.reduceToNat]) | (refine Br.mk ?_ ?_ <;> intro h) | (refine BrN.mk (fun h => ?_) ?_) | (refine AltVC.mk ?_ ?_)
      exact fin_mk (by simp)
    · repeat' first | ((first | refine Br.dec ?_ ?_ | refine Br.eqi ?_ ?_) <;> intro h <;> try (exfalso; omega)) | (simp (disch := first | omega | (simp only [vlen]; first | done | omega)) only [hwc, vkt, ↓vAq, vBq, ↓reduceIte, Nat.reduceBEq, Nat.reduceEqDiff, Nat.reduceLT, Nat.reduceLeDiff, Nat.reduceAdd, Nat.reduceMul, Nat.reduceSub, reduceCtorEq, Int.reduceToNat]) | (refine Br.mk ?_ ?_ <;> intro h) | (refine BrN.mk (fun h => ?_) ?_) | (refine AltVC.mk ?_ ?_)
      exact fin_mk (by simp)
  · repeat' first | ((first | refine Br.dec ?_ ?_ | refine Br.eqi ?_ ?_) <;> intro h <;> try (exfalso; omega)) | (simp (disch := first | omega | (simp only [vlen]; first | done | omega)) only [vkt, ↓vAq, vBq, ↓reduceIte, Nat.reduceBEq, Nat.reduceEqDiff, Nat.reduceLT, Nat.reduceLeDiff, Nat.reduceAdd, Nat.reduceMul, Nat.reduceSub, reduceCtorEq, Int.reduceToNat]) | (refine Br.mk ?_ ?_ <;> intro h) | (refine BrN.mk (fun h => ?_) ?_) | (refine AltVC.mk ?_ ?_)
    refine CallVC.mk hS ?_
    rintro _ (⟨_, rfl⟩ | ⟨h, _⟩)
    · repeat' first | ((first | refine Br.dec ?_ ?_ | refine Br.eqi ?_ ?_) <;> intro h <;> try (exfalso; omega)) | (simp (disch := first | omega | (simp only [vlen]; first | done | omega)) only [vkt, ↓vAq, vBq, ↓reduceIte, Nat.reduceBEq, Nat.reduceEqDiff, Nat.reduceLT, Nat.reduceLeDiff, Nat.reduceAdd, Nat.reduceMul, Nat.reduceSub, reduceCtorEq, Int.reduceToNat]) | (refine Br.mk ?_ ?_ <;> intro h) | (refine BrN.mk (fun h => ?_) ?_) | (refine AltVC.mk ?_ ?_)
      refine CallVC.eq hR ?_
      repeat' first | ((first | refine Br.dec ?_ ?_ | refine Br.eqi ?_ ?_) <;> intro h <;> try (exfalso; omega)) | (simp (disch := first | omega | (simp only [vlen]; first | done | omega)) only [vkt, ↓vAq, vBq, ↓reduceIte, Nat.reduceBEq, Nat.reduceEqDiff, Nat.reduceLT, Nat.reduceLeDiff, Nat.reduceAdd, Nat.reduceMul, Nat.reduceSub, reduceCtorEq, Int.reduceToNat]) | (refine Br.mk ?_ ?_ <;> intro h) | (refine BrN.mk (fun h => ?_) ?_) | (refine AltVC.mk ?_ ?_)
      exact fin_mk (by simp)
    · exact absurd h hc
end Go.Proofs.Ytdncgpgfnclifaa
