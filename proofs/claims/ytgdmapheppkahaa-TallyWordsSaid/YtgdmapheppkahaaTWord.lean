/-
  tally: the word that stands at a place; the law TallyWords.
-/
import Derived.Test.YtgdmapheppkahaaTPlace
namespace Go.Proofs.Ytgdmapheppkahaa
open Go.Dm
set_option linter.unusedSimpArgs false
set_option linter.unnecessarySimpa false
set_option linter.unusedVariables false

def pn (m : Dm.Machine) (n : Nat) (w : List Int) (i t : Nat) : Nat := cn m (n - 1 - i) ((m.next.getD (leads m m.start (w.take i)).toNat default).getD t 0).toNat
def pl (m : Dm.Machine) (n : Nat) (w : List Int) (i : Nat) : Nat := sm (fun i => sm (pn m n w i) (w.getD i 0).toNat) i
theorem pl_plc {m : Dm.Machine} {w : List Int} {i : Nat} : plc m w i = pl m w.length w i := rfl
theorem pl_app {m : Dm.Machine} {n : Nat} {w : List Int} {s : Nat} : pl m n (w ++ [(s : Int)]) (w.length + 1) = pl m n w w.length + sm (pn m n w w.length) s := by
  unfold pl
  rw [sm]
  congr 1
  · refine sm_congr fun i hi => ?_
    have e1 : (w ++ [(s : Int)]).getD i 0 = w.getD i 0 := by simp [List.getD, List.getElem?_append_left hi]
    have e2 : pn m n (w ++ [(s : Int)]) i = pn m n w i := by
      funext t; unfold pn; rw [List.take_append_of_le_length (by omega)]
    rw [e1, e2]
  · have e1 : (w ++ [(s : Int)]).getD w.length 0 = s := by simp [List.getD]
    have e2 : pn m n (w ++ [(s : Int)]) w.length = pn m n w w.length := by
      funext t; unfold pn; rw [List.take_append_of_le_length (by omega)]
    rw [e1, e2, Int.toNat_natCast]
theorem leads_app {m : Dm.Machine} {p : Int} {w : List Int} {s : Int} : leads m p (w ++ [s]) = mstep m (leads m p w) s := by
  unfold leads; rw [List.foldl_append]; rfl
/-- What a list is while a word is made. -/
def WI (m : Dm.Machine) (n i0 : Nat) (x : Nat × List Int) : Prop :=
  x.2.length ≤ n ∧ (∀ s, s ∈ x.2 → 0 ≤ s ∧ s < m.k) ∧ i0 = x.1 + pl m n x.2 x.2.length ∧ x.1 < cn m (n - x.2.length) (leads m m.start x.2).toNat
set_option maxRecDepth 10000 in
set_option maxHeartbeats 4000000 in
theorem tword_spec (m : Dm.Machine) (hm : m.ok) (hc : mcode m = 0) (n : Nat) (hn12 : n ≤ 12) (i0 : Nat) (hi0 : i0 < cn m n m.start.toNat) : Dm.Spec Try.prog 34 [.ag (macD m), iv .i64 n, iv .i64 i0] (fun d => ∃ w : List Int, d = .tu [.sl 1 (i64s w), iv .i64 0] ∧ WI m n i0 (0, w) ∧ w.length = n) := by
  refine spec_of_vc mixed Try.func34 c34 (by rw [show Try.f34.ntmps = _ from Try.ntmps34]; simp) ?_
  unfold m34 r34
  have hv := vm_of hm.2.2.2.2.1 hc
  have hn := hv.n
  have hk := hv.k
  have hlen := hv.len
  have hst := hv.start
  have hbi := cn_small (m := m) (by omega) (k := n) (i := m.start.toNat) (by omega)
  have ht : tlc m n = 0 := by rw [tlc, if_pos hc, if_neg (by omega)]
  have hgl := @cnrs_len m m.n.toNat (n + 1)
  repeat' first | (refine Br.dec (fun h => ?_) (fun h => ?_) <;> try (exfalso; omega)) | (refine Br.eqi (fun h => ?_) (fun h => ?_) <;> try (exfalso; omega)) | (simp (disch := (first | omega | (simp only [List.length_cons, List.length_nil, List.length_append, List.length_map, List.length_replicate, List.length_take, List.length_drop, List.length_set, tab_length, tabD_len, i64s_len, bls_len, u8s_len, tbl_len, rows_len]; first | done | omega))) only [↓va0, ↓va1, ↓va2, vb0, vb1, vb2, vb3, vb4, vb5, vb6, vb7, vb8, vb9, vz0, vz1, vy0, vx0, ↓reduceIte, Nat.reduceBEq, Nat.reduceEqDiff, Nat.reduceLT, Nat.reduceLeDiff, Nat.reduceAdd, Nat.reduceMul, Nat.reduceSub, reduceCtorEq, Int.reduceToNat]) | (refine Br.mk (fun h => ?_) (fun h => ?_)) | (refine BrN.mk (fun h => ?_) ?_)
  refine CallVC.eq (tcheck_spec m hm n) ?_
  rw [ht]
  repeat' first | (refine Br.dec (fun h => ?_) (fun h => ?_) <;> try (exfalso; omega)) | (refine Br.eqi (fun h => ?_) (fun h => ?_) <;> try (exfalso; omega)) | (simp (disch := (first | omega | (simp only [List.length_cons, List.length_nil, List.length_append, List.length_map, List.length_replicate, List.length_take, List.length_drop, List.length_set, tab_length, tabD_len, i64s_len, bls_len, u8s_len, tbl_len, rows_len]; first | done | omega))) only [↓va0, ↓va1, ↓va2, vb0, vb1, vb2, vb3, vb4, vb5, vb6, vb7, vb8, vb9, vz0, vz1, vy0, vx0, ↓reduceIte, Nat.reduceBEq, Nat.reduceEqDiff, Nat.reduceLT, Nat.reduceLeDiff, Nat.reduceAdd, Nat.reduceMul, Nat.reduceSub, reduceCtorEq, Int.reduceToNat]) | (refine Br.mk (fun h => ?_) (fun h => ?_)) | (refine BrN.mk (fun h => ?_) ?_)
  refine CallVC.eq (counts_i m hm.2.2.2.2 hv n hn12) ?_
  repeat' first | (refine Br.dec (fun h => ?_) (fun h => ?_) <;> try (exfalso; omega)) | (refine Br.eqi (fun h => ?_) (fun h => ?_) <;> try (exfalso; omega)) | (simp (disch := (first | omega | (simp only [List.length_cons, List.length_nil, List.length_append, List.length_map, List.length_replicate, List.length_take, List.length_drop, List.length_set, tab_length, tabD_len, i64s_len, bls_len, u8s_len, tbl_len, rows_len]; first | done | omega))) only [↓va0, ↓va1, ↓va2, vb0, vb1, vb2, vb3, vb4, vb5, vb6, vb7, vb8, vb9, vz0, vz1, vy0, vx0, ↓reduceIte, Nat.reduceBEq, Nat.reduceEqDiff, Nat.reduceLT, Nat.reduceLeDiff, Nat.reduceAdd, Nat.reduceMul, Nat.reduceSub, reduceCtorEq, Int.reduceToNat]) | (refine Br.mk (fun h => ?_) (fun h => ?_)) | (refine BrN.mk (fun h => ?_) ?_)
  rw [@cnrs_get m m.n.toNat (n + 1) n (by omega)]
  repeat' first | (refine Br.dec (fun h => ?_) (fun h => ?_) <;> try (exfalso; omega)) | (refine Br.eqi (fun h => ?_) (fun h => ?_) <;> try (exfalso; omega)) | (simp (disch := (first | omega | (simp only [List.length_cons, List.length_nil, List.length_append, List.length_map, List.length_replicate, List.length_take, List.length_drop, List.length_set, tab_length, tabD_len, i64s_len, bls_len, u8s_len, tbl_len, rows_len]; first | done | omega))) only [↓va0, ↓va1, ↓va2, vb0, vb1, vb2, vb3, vb4, vb5, vb6, vb7, vb8, vb9, vz0, vz1, vy0, vx0, ↓reduceIte, Nat.reduceBEq, Nat.reduceEqDiff, Nat.reduceLT, Nat.reduceLeDiff, Nat.reduceAdd, Nat.reduceMul, Nat.reduceSub, reduceCtorEq, Int.reduceToNat]) | (refine Br.mk (fun h => ?_) (fun h => ?_)) | (refine BrN.mk (fun h => ?_) ?_)
  refine LoopVC.mk (X := Nat × List Int) (fun x => [(2, iv .i64 x.1), (10, .ref 2 1 0 x.2.length), (11, iv .i64 (leads m m.start x.2)), (12, iv .i64 ((n : Int) - 1 - x.2.length))]) (fun x => [(0, mOb m), (2, ⟨1, i64s x.2, true, false, .arr⟩)]) (fun x => n - x.2.length) (WI m n i0) (i0, []) ⟨by simp, by simp, by simp [pl, sm], by simpa [leads] using hi0⟩ ?_ ?_
  · (simp (disch := (first | omega | (simp only [List.length_cons, List.length_nil, List.length_append, List.length_map, List.length_replicate, List.length_take, List.length_drop, List.length_set, tab_length, tabD_len, i64s_len, bls_len, u8s_len, tbl_len, rows_len]; first | done | omega))) only [Fits_u, Fits_m, Fits_nil, List.length_append, ↓va0, ↓va1, ↓va2, vb0, vb1, vb2, vb3, vb4, vb5, vb6, vb7, vb8, vb9, vz0, vz1, vy0, vx0, ↓reduceIte, Nat.reduceBEq, Nat.reduceEqDiff, Nat.reduceLT, Nat.reduceLeDiff, Nat.reduceAdd, Nat.reduceMul, Nat.reduceSub, reduceCtorEq, Int.reduceToNat] <;> (repeat' first | rfl | apply And.intro))
    exact viEq (by simp)
  · rintro ⟨i1, w⟩ ⟨h1, h2, h3, h4⟩
    simp only at h1 h2 h3 h4
    have hp := leads_ok (w := w) hv hst
    have hx := hv.nx hp
    repeat' first | (refine Br.dec (fun h => ?_) (fun h => ?_) <;> try (exfalso; omega)) | (refine Br.eqi (fun h => ?_) (fun h => ?_) <;> try (exfalso; omega)) | (simp (disch := (first | omega | (simp only [List.length_cons, List.length_nil, List.length_append, List.length_map, List.length_replicate, List.length_take, List.length_drop, List.length_set, tab_length, tabD_len, i64s_len, bls_len, u8s_len, tbl_len, rows_len]; first | done | omega))) only [↓va0, ↓va1, ↓va2, vb0, vb1, vb2, vb3, vb4, vb5, vb6, vb7, vb8, vb9, vz0, vz1, vy0, vx0, ↓reduceIte, Nat.reduceBEq, Nat.reduceEqDiff, Nat.reduceLT, Nat.reduceLeDiff, Nat.reduceAdd, Nat.reduceMul, Nat.reduceSub, reduceCtorEq, Int.reduceToNat]) | (refine Br.mk (fun h => ?_) (fun h => ?_)) | (refine BrN.mk (fun h => ?_) ?_)
    · have hwn : w.length < n := by omega
      have hcn : cn m (n - w.length) (leads m m.start w).toNat = sm (pn m n w w.length) m.k.toNat := by
        rw [show n - w.length = (n - 1 - w.length) + 1 by omega, cn]
        refine sm_congr fun s hs => ?_
        rw [pn, List.take_length]; rfl
      rw [hcn] at h4
      have hpb : sm (pn m n w w.length) m.k.toNat ≤ m.k.toNat * 531441 := sm_le fun t _ => cn_small (by omega) (by omega)
      refine LoopVC.mk (X := Nat) (fun t => [(2, iv .i64 (i1 - sm (pn m n w w.length) t : Nat)), (10, .ref 2 1 0 w.length), (11, iv .i64 (leads m m.start w)), (52, iv .i64 t)]) (fun x => [(0, mOb m), (2, ⟨1, i64s w, true, false, .arr⟩)]) (fun t => m.k.toNat - t) (fun t => t ≤ m.k.toNat ∧ sm (pn m n w w.length) t ≤ i1) 0 ⟨by omega, by simp [sm]⟩ ?_ ?_
      · (simp (disch := (first | omega | (simp only [List.length_cons, List.length_nil, List.length_append, List.length_map, List.length_replicate, List.length_take, List.length_drop, List.length_set, tab_length, tabD_len, i64s_len, bls_len, u8s_len, tbl_len, rows_len]; first | done | omega))) only [Fits_u, Fits_m, Fits_nil, List.length_append, ↓va0, ↓va1, ↓va2, vb0, vb1, vb2, vb3, vb4, vb5, vb6, vb7, vb8, vb9, vz0, vz1, vy0, vx0, ↓reduceIte, Nat.reduceBEq, Nat.reduceEqDiff, Nat.reduceLT, Nat.reduceLeDiff, Nat.reduceAdd, Nat.reduceMul, Nat.reduceSub, reduceCtorEq, Int.reduceToNat] <;> (repeat' first | rfl | apply And.intro))
      · rintro t ⟨h5, h6⟩
        have htz := hv.toz hp t
        have hg : (cnrs m m.n.toNat (n + 1)).getD ((n : Int) - 1 - (w.length : Int)).toNat default = tab m.n.toNat fun j => (cn m (n - 1 - w.length) j : Int) := by
          rw [show ((n : Int) - 1 - (w.length : Int)).toNat = n - 1 - w.length by omega]; exact cnrs_get (by omega)
        have hpn : pn m n w w.length t = cn m (n - 1 - w.length) ((m.next.getD (leads m m.start w).toNat default).getD t 0).toNat := by rw [pn, List.take_length]
        have hsb := cn_small (m := m) (by omega) (k := n - 1 - w.length) (i := ((m.next.getD (leads m m.start w).toNat default).getD t 0).toNat) (by omega)
        have hss : sm (pn m n w w.length) (t + 1) = sm (pn m n w w.length) t + pn m n w w.length t := rfl
        repeat' first | (refine Br.dec (fun h => ?_) (fun h => ?_) <;> try (exfalso; omega)) | (refine Br.eqi (fun h => ?_) (fun h => ?_) <;> try (exfalso; omega)) | (simp (disch := (first | omega | (simp only [List.length_cons, List.length_nil, List.length_append, List.length_map, List.length_replicate, List.length_take, List.length_drop, List.length_set, tab_length, tabD_len, i64s_len, bls_len, u8s_len, tbl_len, rows_len]; first | done | omega))) only [↓va0, ↓va1, ↓va2, vb0, vb1, vb2, vb3, vb4, vb5, vb6, vb7, vb8, vb9, vz0, vz1, vy0, vx0, ↓reduceIte, Nat.reduceBEq, Nat.reduceEqDiff, Nat.reduceLT, Nat.reduceLeDiff, Nat.reduceAdd, Nat.reduceMul, Nat.reduceSub, reduceCtorEq, Int.reduceToNat]) | (refine Br.mk (fun h => ?_) (fun h => ?_)) | (refine BrN.mk (fun h => ?_) ?_)
        · rw [hg]
          repeat' first | (refine Br.dec (fun h => ?_) (fun h => ?_) <;> try (exfalso; omega)) | (refine Br.eqi (fun h => ?_) (fun h => ?_) <;> try (exfalso; omega)) | (simp (disch := (first | omega | (simp only [List.length_cons, List.length_nil, List.length_append, List.length_map, List.length_replicate, List.length_take, List.length_drop, List.length_set, tab_length, tabD_len, i64s_len, bls_len, u8s_len, tbl_len, rows_len]; first | done | omega))) only [↓va0, ↓va1, ↓va2, vb0, vb1, vb2, vb3, vb4, vb5, vb6, vb7, vb8, vb9, vz0, vz1, vy0, vx0, ↓reduceIte, Nat.reduceBEq, Nat.reduceEqDiff, Nat.reduceLT, Nat.reduceLeDiff, Nat.reduceAdd, Nat.reduceMul, Nat.reduceSub, reduceCtorEq, Int.reduceToNat]) | (refine Br.mk (fun h => ?_) (fun h => ?_)) | (refine BrN.mk (fun h => ?_) ?_)
          · refine loopK.mk (i1 - sm (pn m n w w.length) t, w ++ [(t : Int)]) (by simp (disch := (first | omega | (simp only [List.length_cons, List.length_nil, List.length_append, List.length_map, List.length_replicate, List.length_take, List.length_drop, List.length_set, tab_length, tabD_len, i64s_len, bls_len, u8s_len, tbl_len, rows_len]; first | done | omega))) only [↓va0, ↓va1, ↓va2, vb0, vb1, vb2, vb3, vb4, vb5, vb6, vb7, vb8, vb9, vz0, vz1, vy0, vx0, ↓reduceIte, Nat.reduceBEq, Nat.reduceEqDiff, Nat.reduceLT, Nat.reduceLeDiff, Nat.reduceAdd, Nat.reduceMul, Nat.reduceSub, reduceCtorEq, Int.reduceToNat]) ⟨by simp; omega, fun s hs => ?_, ?_, ?_⟩ (by simp; omega) ?_
            · rcases List.mem_append.1 hs with h | h
              · exact h2 s h
              · rw [List.mem_singleton.1 h]; omega
            · simp only [List.length_append, List.length_singleton]
              rw [pl_app]; omega
            · simp only [List.length_append, List.length_singleton]
              rw [leads_app, mstep, Int.toNat_natCast, show n - (w.length + 1) = n - 1 - w.length by omega]
              omega
            · (simp (disch := (first | omega | (simp only [List.length_cons, List.length_nil, List.length_append, List.length_map, List.length_replicate, List.length_take, List.length_drop, List.length_set, tab_length, tabD_len, i64s_len, bls_len, u8s_len, tbl_len, rows_len]; first | done | omega))) only [Fits_u, Fits_m, Fits_nil, List.length_append, ↓va0, ↓va1, ↓va2, vb0, vb1, vb2, vb3, vb4, vb5, vb6, vb7, vb8, vb9, vz0, vz1, vy0, vx0, ↓reduceIte, Nat.reduceBEq, Nat.reduceEqDiff, Nat.reduceLT, Nat.reduceLeDiff, Nat.reduceAdd, Nat.reduceMul, Nat.reduceSub, reduceCtorEq, Int.reduceToNat] <;> (repeat' first | rfl | apply And.intro))
              · rw [leads_app]; rfl
              · exact viEq (by omega)
          · rw [hg]
            repeat' first | (refine Br.dec (fun h => ?_) (fun h => ?_) <;> try (exfalso; omega)) | (refine Br.eqi (fun h => ?_) (fun h => ?_) <;> try (exfalso; omega)) | (simp (disch := (first | omega | (simp only [List.length_cons, List.length_nil, List.length_append, List.length_map, List.length_replicate, List.length_take, List.length_drop, List.length_set, tab_length, tabD_len, i64s_len, bls_len, u8s_len, tbl_len, rows_len]; first | done | omega))) only [↓va0, ↓va1, ↓va2, vb0, vb1, vb2, vb3, vb4, vb5, vb6, vb7, vb8, vb9, vz0, vz1, vy0, vx0, ↓reduceIte, Nat.reduceBEq, Nat.reduceEqDiff, Nat.reduceLT, Nat.reduceLeDiff, Nat.reduceAdd, Nat.reduceMul, Nat.reduceSub, reduceCtorEq, Int.reduceToNat]) | (refine Br.mk (fun h => ?_) (fun h => ?_)) | (refine BrN.mk (fun h => ?_) ?_)
            refine loopK.mk (t + 1) (by simp (disch := (first | omega | (simp only [List.length_cons, List.length_nil, List.length_append, List.length_map, List.length_replicate, List.length_take, List.length_drop, List.length_set, tab_length, tabD_len, i64s_len, bls_len, u8s_len, tbl_len, rows_len]; first | done | omega))) only [↓va0, ↓va1, ↓va2, vb0, vb1, vb2, vb3, vb4, vb5, vb6, vb7, vb8, vb9, vz0, vz1, vy0, vx0, ↓reduceIte, Nat.reduceBEq, Nat.reduceEqDiff, Nat.reduceLT, Nat.reduceLeDiff, Nat.reduceAdd, Nat.reduceMul, Nat.reduceSub, reduceCtorEq, Int.reduceToNat]) ⟨by omega, by rw [hss, hpn]; omega⟩ (by omega) ?_
            (simp (disch := (first | omega | (simp only [List.length_cons, List.length_nil, List.length_append, List.length_map, List.length_replicate, List.length_take, List.length_drop, List.length_set, tab_length, tabD_len, i64s_len, bls_len, u8s_len, tbl_len, rows_len]; first | done | omega))) only [Fits_u, Fits_m, Fits_nil, List.length_append, ↓va0, ↓va1, ↓va2, vb0, vb1, vb2, vb3, vb4, vb5, vb6, vb7, vb8, vb9, vz0, vz1, vy0, vx0, ↓reduceIte, Nat.reduceBEq, Nat.reduceEqDiff, Nat.reduceLT, Nat.reduceLeDiff, Nat.reduceAdd, Nat.reduceMul, Nat.reduceSub, reduceCtorEq, Int.reduceToNat] <;> (repeat' first | rfl | apply And.intro))
            exact viEq (by rw [hss, hpn]; omega)
        · exfalso
          rw [show m.k.toNat = t by omega] at h4
          omega
    · have hnl : n - w.length = 0 := by omega
      have hz : i1 = 0 := by
        rw [hnl, cn, fin] at h4
        split at h4 <;> omega
      subst hz
      refine fin_mk ⟨w, rfl, ⟨h1, h2, h3, h4⟩, by omega⟩
set_option maxRecDepth 10000 in
set_option maxHeartbeats 4000000 in
theorem tword_err (m : Dm.Machine) (hm : m.ok) (n : Int) (i : Int) (hc : ¬ tlc m n = 0) : Dm.Spec Try.prog 34 [.ag (macD m), iv .i64 n, iv .i64 i] (· = .tu [.sl 1 [], iv .i64 (tlc m n)]) := by
  refine spec_of_vc mixed Try.func34 c34 (by rw [show Try.f34.ntmps = _ from Try.ntmps34]; simp) ?_
  unfold m34 r34
  repeat' first | (refine Br.dec (fun h => ?_) (fun h => ?_) <;> try (exfalso; omega)) | (refine Br.eqi (fun h => ?_) (fun h => ?_) <;> try (exfalso; omega)) | (simp (disch := (first | omega | (simp only [List.length_cons, List.length_nil, List.length_append, List.length_map, List.length_replicate, List.length_take, List.length_drop, List.length_set, tab_length, tabD_len, i64s_len, bls_len, u8s_len, tbl_len, rows_len]; first | done | omega))) only [↓va0, ↓va1, ↓va2, vb0, vb1, vb2, vb3, vb4, vb5, vb6, vb7, vb8, vb9, vz0, vz1, vy0, vx0, ↓reduceIte, Nat.reduceBEq, Nat.reduceEqDiff, Nat.reduceLT, Nat.reduceLeDiff, Nat.reduceAdd, Nat.reduceMul, Nat.reduceSub, reduceCtorEq, Int.reduceToNat]) | (refine Br.mk (fun h => ?_) (fun h => ?_)) | (refine BrN.mk (fun h => ?_) ?_)
  refine CallVC.eq (tcheck_spec m hm n) ?_
  repeat' first | (refine Br.dec (fun h => ?_) (fun h => ?_) <;> try (exfalso; omega)) | (refine Br.eqi (fun h => ?_) (fun h => ?_) <;> try (exfalso; omega)) | (simp (disch := (first | omega | (simp only [List.length_cons, List.length_nil, List.length_append, List.length_map, List.length_replicate, List.length_take, List.length_drop, List.length_set, tab_length, tabD_len, i64s_len, bls_len, u8s_len, tbl_len, rows_len]; first | done | omega))) only [↓va0, ↓va1, ↓va2, vb0, vb1, vb2, vb3, vb4, vb5, vb6, vb7, vb8, vb9, vz0, vz1, vy0, vx0, ↓reduceIte, Nat.reduceBEq, Nat.reduceEqDiff, Nat.reduceLT, Nat.reduceLeDiff, Nat.reduceAdd, Nat.reduceMul, Nat.reduceSub, reduceCtorEq, Int.reduceToNat]) | (refine Br.mk (fun h => ?_) (fun h => ?_)) | (refine BrN.mk (fun h => ?_) ?_)
  exact fin_mk rfl
set_option maxRecDepth 10000 in
set_option maxHeartbeats 4000000 in
theorem tword_none (m : Dm.Machine) (hm : m.ok) (hc : mcode m = 0) (n : Nat) (hn12 : n ≤ 12) (i : Int) (hi : i < 0 ∨ (cn m n m.start.toNat : Int) ≤ i) : Dm.Spec Try.prog 34 [.ag (macD m), iv .i64 n, iv .i64 i] (· = .tu [.sl 1 [], iv .i64 5]) := by
  refine spec_of_vc mixed Try.func34 c34 (by rw [show Try.f34.ntmps = _ from Try.ntmps34]; simp) ?_
  unfold m34 r34
  have hv := vm_of hm.2.2.2.2.1 hc
  have hn := hv.n
  have hk := hv.k
  have hst := hv.start
  have ht : tlc m n = 0 := by rw [tlc, if_pos hc, if_neg (by omega)]
  have hgl := @cnrs_len m m.n.toNat (n + 1)
  repeat' first | (refine Br.dec (fun h => ?_) (fun h => ?_) <;> try (exfalso; omega)) | (refine Br.eqi (fun h => ?_) (fun h => ?_) <;> try (exfalso; omega)) | (simp (disch := (first | omega | (simp only [List.length_cons, List.length_nil, List.length_append, List.length_map, List.length_replicate, List.length_take, List.length_drop, List.length_set, tab_length, tabD_len, i64s_len, bls_len, u8s_len, tbl_len, rows_len]; first | done | omega))) only [↓va0, ↓va1, ↓va2, vb0, vb1, vb2, vb3, vb4, vb5, vb6, vb7, vb8, vb9, vz0, vz1, vy0, vx0, ↓reduceIte, Nat.reduceBEq, Nat.reduceEqDiff, Nat.reduceLT, Nat.reduceLeDiff, Nat.reduceAdd, Nat.reduceMul, Nat.reduceSub, reduceCtorEq, Int.reduceToNat]) | (refine Br.mk (fun h => ?_) (fun h => ?_)) | (refine BrN.mk (fun h => ?_) ?_)
  refine CallVC.eq (tcheck_spec m hm n) ?_
  rw [ht]
  repeat' first | (refine Br.dec (fun h => ?_) (fun h => ?_) <;> try (exfalso; omega)) | (refine Br.eqi (fun h => ?_) (fun h => ?_) <;> try (exfalso; omega)) | (simp (disch := (first | omega | (simp only [List.length_cons, List.length_nil, List.length_append, List.length_map, List.length_replicate, List.length_take, List.length_drop, List.length_set, tab_length, tabD_len, i64s_len, bls_len, u8s_len, tbl_len, rows_len]; first | done | omega))) only [↓va0, ↓va1, ↓va2, vb0, vb1, vb2, vb3, vb4, vb5, vb6, vb7, vb8, vb9, vz0, vz1, vy0, vx0, ↓reduceIte, Nat.reduceBEq, Nat.reduceEqDiff, Nat.reduceLT, Nat.reduceLeDiff, Nat.reduceAdd, Nat.reduceMul, Nat.reduceSub, reduceCtorEq, Int.reduceToNat]) | (refine Br.mk (fun h => ?_) (fun h => ?_)) | (refine BrN.mk (fun h => ?_) ?_)
  refine CallVC.eq (counts_i m hm.2.2.2.2 hv n hn12) ?_
  repeat' first | (refine Br.dec (fun h => ?_) (fun h => ?_) <;> try (exfalso; omega)) | (refine Br.eqi (fun h => ?_) (fun h => ?_) <;> try (exfalso; omega)) | (simp (disch := (first | omega | (simp only [List.length_cons, List.length_nil, List.length_append, List.length_map, List.length_replicate, List.length_take, List.length_drop, List.length_set, tab_length, tabD_len, i64s_len, bls_len, u8s_len, tbl_len, rows_len]; first | done | omega))) only [↓va0, ↓va1, ↓va2, vb0, vb1, vb2, vb3, vb4, vb5, vb6, vb7, vb8, vb9, vz0, vz1, vy0, vx0, ↓reduceIte, Nat.reduceBEq, Nat.reduceEqDiff, Nat.reduceLT, Nat.reduceLeDiff, Nat.reduceAdd, Nat.reduceMul, Nat.reduceSub, reduceCtorEq, Int.reduceToNat]) | (refine Br.mk (fun h => ?_) (fun h => ?_)) | (refine BrN.mk (fun h => ?_) ?_)
  · exact fin_mk rfl
  · rw [@cnrs_get m m.n.toNat (n + 1) n (by omega)]
    repeat' first | (refine Br.dec (fun h => ?_) (fun h => ?_) <;> try (exfalso; omega)) | (refine Br.eqi (fun h => ?_) (fun h => ?_) <;> try (exfalso; omega)) | (simp (disch := (first | omega | (simp only [List.length_cons, List.length_nil, List.length_append, List.length_map, List.length_replicate, List.length_take, List.length_drop, List.length_set, tab_length, tabD_len, i64s_len, bls_len, u8s_len, tbl_len, rows_len]; first | done | omega))) only [↓va0, ↓va1, ↓va2, vb0, vb1, vb2, vb3, vb4, vb5, vb6, vb7, vb8, vb9, vz0, vz1, vy0, vx0, ↓reduceIte, Nat.reduceBEq, Nat.reduceEqDiff, Nat.reduceLT, Nat.reduceLeDiff, Nat.reduceAdd, Nat.reduceMul, Nat.reduceSub, reduceCtorEq, Int.reduceToNat]) | (refine Br.mk (fun h => ?_) (fun h => ?_)) | (refine BrN.mk (fun h => ?_) ?_)
    exact fin_mk rfl
set_option maxRecDepth 10000 in
set_option maxHeartbeats 4000000 in
theorem tallyWords_spec (m : Dm.Machine) (hm : m.ok) (n : Int) (hn : ok64 n) (i : Int) (hi : ok64 i) : Dm.Spec Try.prog 10 [.ag (macD m), iv .i64 n, iv .i64 i] (· = .v (.bool true)) := by
  refine spec_of_vc mixed Try.func10 c10 (by rw [show Try.f10.ntmps = _ from Try.ntmps10]; simp) ?_
  unfold m10 r10
  by_cases hc : tlc m n = 0
  · have hcc : mcode m = 0 := by
      unfold tlc at hc
      split at hc
      · assumption
      · exact hc
    have hv := vm_of hm.2.2.2.2.1 hcc
    have hk := hv.k
    have hst := hv.start
    have h12 : 0 ≤ n ∧ n ≤ 12 := by
      rw [tlc, if_pos hcc] at hc
      split at hc
      · omega
      · omega
    obtain ⟨n, rfl⟩ : ∃ k : Nat, n = k := ⟨n.toNat, by omega⟩
    by_cases hb : i < 0 ∨ (cn m n m.start.toNat : Int) ≤ i
    · repeat' first | (refine Br.dec (fun h => ?_) (fun h => ?_) <;> try (exfalso; omega)) | (refine Br.eqi (fun h => ?_) (fun h => ?_) <;> try (exfalso; omega)) | (simp (disch := (first | omega | (simp only [List.length_cons, List.length_nil, List.length_append, List.length_map, List.length_replicate, List.length_take, List.length_drop, List.length_set, tab_length, tabD_len, i64s_len, bls_len, u8s_len, tbl_len, rows_len]; first | done | omega))) only [↓va0, ↓va1, ↓va2, vb0, vb1, vb2, vb3, vb4, vb5, vb6, vb7, vb8, vb9, vz0, vz1, vy0, vx0, ↓reduceIte, Nat.reduceBEq, Nat.reduceEqDiff, Nat.reduceLT, Nat.reduceLeDiff, Nat.reduceAdd, Nat.reduceMul, Nat.reduceSub, reduceCtorEq, Int.reduceToNat]) | (refine Br.mk (fun h => ?_) (fun h => ?_)) | (refine BrN.mk (fun h => ?_) ?_)
      refine CallVC.eq (tword_none m hm hcc n (by omega) i hb) ?_
      repeat' first | (refine Br.dec (fun h => ?_) (fun h => ?_) <;> try (exfalso; omega)) | (refine Br.eqi (fun h => ?_) (fun h => ?_) <;> try (exfalso; omega)) | (simp (disch := (first | omega | (simp only [List.length_cons, List.length_nil, List.length_append, List.length_map, List.length_replicate, List.length_take, List.length_drop, List.length_set, tab_length, tabD_len, i64s_len, bls_len, u8s_len, tbl_len, rows_len]; first | done | omega))) only [↓va0, ↓va1, ↓va2, vb0, vb1, vb2, vb3, vb4, vb5, vb6, vb7, vb8, vb9, vz0, vz1, vy0, vx0, ↓reduceIte, Nat.reduceBEq, Nat.reduceEqDiff, Nat.reduceLT, Nat.reduceLeDiff, Nat.reduceAdd, Nat.reduceMul, Nat.reduceSub, reduceCtorEq, Int.reduceToNat]) | (refine Br.mk (fun h => ?_) (fun h => ?_)) | (refine BrN.mk (fun h => ?_) ?_)
      refine CallVC.eq (tallyCode_spec m hm n) ?_
      rw [hc]
      repeat' first | (refine Br.dec (fun h => ?_) (fun h => ?_) <;> try (exfalso; omega)) | (refine Br.eqi (fun h => ?_) (fun h => ?_) <;> try (exfalso; omega)) | (simp (disch := (first | omega | (simp only [List.length_cons, List.length_nil, List.length_append, List.length_map, List.length_replicate, List.length_take, List.length_drop, List.length_set, tab_length, tabD_len, i64s_len, bls_len, u8s_len, tbl_len, rows_len]; first | done | omega))) only [↓va0, ↓va1, ↓va2, vb0, vb1, vb2, vb3, vb4, vb5, vb6, vb7, vb8, vb9, vz0, vz1, vy0, vx0, ↓reduceIte, Nat.reduceBEq, Nat.reduceEqDiff, Nat.reduceLT, Nat.reduceLeDiff, Nat.reduceAdd, Nat.reduceMul, Nat.reduceSub, reduceCtorEq, Int.reduceToNat]) | (refine Br.mk (fun h => ?_) (fun h => ?_)) | (refine BrN.mk (fun h => ?_) ?_)
      · exact fin_mk rfl
      · refine CallVC.eq (refMany_i m hm.2.2.2.2 hv m.start hst n (by omega)) ?_
        simp only [Int.toNat_natCast]
        repeat' first | (refine Br.dec (fun h => ?_) (fun h => ?_) <;> try (exfalso; omega)) | (refine Br.eqi (fun h => ?_) (fun h => ?_) <;> try (exfalso; omega)) | (simp (disch := (first | omega | (simp only [List.length_cons, List.length_nil, List.length_append, List.length_map, List.length_replicate, List.length_take, List.length_drop, List.length_set, tab_length, tabD_len, i64s_len, bls_len, u8s_len, tbl_len, rows_len]; first | done | omega))) only [↓va0, ↓va1, ↓va2, vb0, vb1, vb2, vb3, vb4, vb5, vb6, vb7, vb8, vb9, vz0, vz1, vy0, vx0, ↓reduceIte, Nat.reduceBEq, Nat.reduceEqDiff, Nat.reduceLT, Nat.reduceLeDiff, Nat.reduceAdd, Nat.reduceMul, Nat.reduceSub, reduceCtorEq, Int.reduceToNat]) | (refine Br.mk (fun h => ?_) (fun h => ?_)) | (refine BrN.mk (fun h => ?_) ?_)
        exact fin_mk rfl
    · obtain ⟨i, rfl⟩ : ∃ k : Nat, i = k := ⟨i.toNat, by omega⟩
      repeat' first | (refine Br.dec (fun h => ?_) (fun h => ?_) <;> try (exfalso; omega)) | (refine Br.eqi (fun h => ?_) (fun h => ?_) <;> try (exfalso; omega)) | (simp (disch := (first | omega | (simp only [List.length_cons, List.length_nil, List.length_append, List.length_map, List.length_replicate, List.length_take, List.length_drop, List.length_set, tab_length, tabD_len, i64s_len, bls_len, u8s_len, tbl_len, rows_len]; first | done | omega))) only [↓va0, ↓va1, ↓va2, vb0, vb1, vb2, vb3, vb4, vb5, vb6, vb7, vb8, vb9, vz0, vz1, vy0, vx0, ↓reduceIte, Nat.reduceBEq, Nat.reduceEqDiff, Nat.reduceLT, Nat.reduceLeDiff, Nat.reduceAdd, Nat.reduceMul, Nat.reduceSub, reduceCtorEq, Int.reduceToNat]) | (refine Br.mk (fun h => ?_) (fun h => ?_)) | (refine BrN.mk (fun h => ?_) ?_)
      refine CallVC.mk (tword_spec m hm hcc n (by omega) i (by omega)) ?_
      rintro _ ⟨w, rfl, ⟨w1, w2, w3, w4⟩, w5⟩
      simp only [Nat.zero_add] at w3
      repeat' first | (refine Br.dec (fun h => ?_) (fun h => ?_) <;> try (exfalso; omega)) | (refine Br.eqi (fun h => ?_) (fun h => ?_) <;> try (exfalso; omega)) | (simp (disch := (first | omega | (simp only [List.length_cons, List.length_nil, List.length_append, List.length_map, List.length_replicate, List.length_take, List.length_drop, List.length_set, tab_length, tabD_len, i64s_len, bls_len, u8s_len, tbl_len, rows_len]; first | done | omega))) only [↓va0, ↓va1, ↓va2, vb0, vb1, vb2, vb3, vb4, vb5, vb6, vb7, vb8, vb9, vz0, vz1, vy0, vx0, ↓reduceIte, Nat.reduceBEq, Nat.reduceEqDiff, Nat.reduceLT, Nat.reduceLeDiff, Nat.reduceAdd, Nat.reduceMul, Nat.reduceSub, reduceCtorEq, Int.reduceToNat]) | (refine Br.mk (fun h => ?_) (fun h => ?_)) | (refine BrN.mk (fun h => ?_) ?_)
      refine CallVC.eq (tallyCode_spec m hm n) ?_
      rw [hc]
      repeat' first | (refine Br.dec (fun h => ?_) (fun h => ?_) <;> try (exfalso; omega)) | (refine Br.eqi (fun h => ?_) (fun h => ?_) <;> try (exfalso; omega)) | (simp (disch := (first | omega | (simp only [List.length_cons, List.length_nil, List.length_append, List.length_map, List.length_replicate, List.length_take, List.length_drop, List.length_set, tab_length, tabD_len, i64s_len, bls_len, u8s_len, tbl_len, rows_len]; first | done | omega))) only [↓va0, ↓va1, ↓va2, vb0, vb1, vb2, vb3, vb4, vb5, vb6, vb7, vb8, vb9, vz0, vz1, vy0, vx0, ↓reduceIte, Nat.reduceBEq, Nat.reduceEqDiff, Nat.reduceLT, Nat.reduceLeDiff, Nat.reduceAdd, Nat.reduceMul, Nat.reduceSub, reduceCtorEq, Int.reduceToNat]) | (refine Br.mk (fun h => ?_) (fun h => ?_)) | (refine BrN.mk (fun h => ?_) ?_)
      refine CallVC.eq (refMany_i m hm.2.2.2.2 hv m.start hst n (by omega)) ?_
      simp only [Int.toNat_natCast]
      repeat' first | (refine Br.dec (fun h => ?_) (fun h => ?_) <;> try (exfalso; omega)) | (refine Br.eqi (fun h => ?_) (fun h => ?_) <;> try (exfalso; omega)) | (simp (disch := (first | omega | (simp only [List.length_cons, List.length_nil, List.length_append, List.length_map, List.length_replicate, List.length_take, List.length_drop, List.length_set, tab_length, tabD_len, i64s_len, bls_len, u8s_len, tbl_len, rows_len]; first | done | omega))) only [↓va0, ↓va1, ↓va2, vb0, vb1, vb2, vb3, vb4, vb5, vb6, vb7, vb8, vb9, vz0, vz1, vy0, vx0, ↓reduceIte, Nat.reduceBEq, Nat.reduceEqDiff, Nat.reduceLT, Nat.reduceLeDiff, Nat.reduceAdd, Nat.reduceMul, Nat.reduceSub, reduceCtorEq, Int.reduceToNat]) | (refine Br.mk (fun h => ?_) (fun h => ?_)) | (refine BrN.mk (fun h => ?_) ?_)
      have hwc : wcode m.k w = 0 := by
        have : ¬ w.any (badSym m.k) = true := fun e => by
          obtain ⟨s, h1, h2⟩ := List.any_eq_true.1 e
          have := w2 s h1
          unfold badSym at h2
          rw [decide_eq_true_eq] at h2
          omega
        rw [wcode, if_neg (by omega), if_neg this]
      have htk : m.final.toNat.testBit (leads m m.start w).toNat = true := by
        simp only [w5, Nat.sub_self, cn, fin] at w4
        split at w4
        · assumption
        · omega
      refine CallVC.eq (refWord_spec m.k (by omega) w (by omega)) ?_
      rw [hwc]
      repeat' first | (refine Br.dec (fun h => ?_) (fun h => ?_) <;> try (exfalso; omega)) | (refine Br.eqi (fun h => ?_) (fun h => ?_) <;> try (exfalso; omega)) | (simp (disch := (first | omega | (simp only [List.length_cons, List.length_nil, List.length_append, List.length_map, List.length_replicate, List.length_take, List.length_drop, List.length_set, tab_length, tabD_len, i64s_len, bls_len, u8s_len, tbl_len, rows_len]; first | done | omega))) only [↓va0, ↓va1, ↓va2, vb0, vb1, vb2, vb3, vb4, vb5, vb6, vb7, vb8, vb9, vz0, vz1, vy0, vx0, ↓reduceIte, Nat.reduceBEq, Nat.reduceEqDiff, Nat.reduceLT, Nat.reduceLeDiff, Nat.reduceAdd, Nat.reduceMul, Nat.reduceSub, reduceCtorEq, Int.reduceToNat]) | (refine Br.mk (fun h => ?_) (fun h => ?_)) | (refine BrN.mk (fun h => ?_) ?_)
      refine CallVC.eq (takes_spec m hm.2.2.2.2 hv w w2 (by omega)) ?_
      rw [htk]
      repeat' first | (refine Br.dec (fun h => ?_) (fun h => ?_) <;> try (exfalso; omega)) | (refine Br.eqi (fun h => ?_) (fun h => ?_) <;> try (exfalso; omega)) | (simp (disch := (first | omega | (simp only [List.length_cons, List.length_nil, List.length_append, List.length_map, List.length_replicate, List.length_take, List.length_drop, List.length_set, tab_length, tabD_len, i64s_len, bls_len, u8s_len, tbl_len, rows_len]; first | done | omega))) only [↓va0, ↓va1, ↓va2, vb0, vb1, vb2, vb3, vb4, vb5, vb6, vb7, vb8, vb9, vz0, vz1, vy0, vx0, ↓reduceIte, Nat.reduceBEq, Nat.reduceEqDiff, Nat.reduceLT, Nat.reduceLeDiff, Nat.reduceAdd, Nat.reduceMul, Nat.reduceSub, reduceCtorEq, Int.reduceToNat]) | (refine Br.mk (fun h => ?_) (fun h => ?_)) | (refine BrN.mk (fun h => ?_) ?_)
      refine CallVC.eq (refPlace_spec m hm.2.2.2.2 hv w (by omega) w2) ?_
      rw [pl_plc, w5]
      rw [w5] at w3
      rw [← w3]
      repeat' first | (refine Br.dec (fun h => ?_) (fun h => ?_) <;> try (exfalso; omega)) | (refine Br.eqi (fun h => ?_) (fun h => ?_) <;> try (exfalso; omega)) | (simp (disch := (first | omega | (simp only [List.length_cons, List.length_nil, List.length_append, List.length_map, List.length_replicate, List.length_take, List.length_drop, List.length_set, tab_length, tabD_len, i64s_len, bls_len, u8s_len, tbl_len, rows_len]; first | done | omega))) only [↓va0, ↓va1, ↓va2, vb0, vb1, vb2, vb3, vb4, vb5, vb6, vb7, vb8, vb9, vz0, vz1, vy0, vx0, ↓reduceIte, Nat.reduceBEq, Nat.reduceEqDiff, Nat.reduceLT, Nat.reduceLeDiff, Nat.reduceAdd, Nat.reduceMul, Nat.reduceSub, reduceCtorEq, Int.reduceToNat]) | (refine Br.mk (fun h => ?_) (fun h => ?_)) | (refine BrN.mk (fun h => ?_) ?_)
      exact fin_mk rfl
  · repeat' first | (refine Br.dec (fun h => ?_) (fun h => ?_) <;> try (exfalso; omega)) | (refine Br.eqi (fun h => ?_) (fun h => ?_) <;> try (exfalso; omega)) | (simp (disch := (first | omega | (simp only [List.length_cons, List.length_nil, List.length_append, List.length_map, List.length_replicate, List.length_take, List.length_drop, List.length_set, tab_length, tabD_len, i64s_len, bls_len, u8s_len, tbl_len, rows_len]; first | done | omega))) only [↓va0, ↓va1, ↓va2, vb0, vb1, vb2, vb3, vb4, vb5, vb6, vb7, vb8, vb9, vz0, vz1, vy0, vx0, ↓reduceIte, Nat.reduceBEq, Nat.reduceEqDiff, Nat.reduceLT, Nat.reduceLeDiff, Nat.reduceAdd, Nat.reduceMul, Nat.reduceSub, reduceCtorEq, Int.reduceToNat]) | (refine Br.mk (fun h => ?_) (fun h => ?_)) | (refine BrN.mk (fun h => ?_) ?_)
    refine CallVC.eq (tword_err m hm n i hc) ?_
    repeat' first | (refine Br.dec (fun h => ?_) (fun h => ?_) <;> try (exfalso; omega)) | (refine Br.eqi (fun h => ?_) (fun h => ?_) <;> try (exfalso; omega)) | (simp (disch := (first | omega | (simp only [List.length_cons, List.length_nil, List.length_append, List.length_map, List.length_replicate, List.length_take, List.length_drop, List.length_set, tab_length, tabD_len, i64s_len, bls_len, u8s_len, tbl_len, rows_len]; first | done | omega))) only [↓va0, ↓va1, ↓va2, vb0, vb1, vb2, vb3, vb4, vb5, vb6, vb7, vb8, vb9, vz0, vz1, vy0, vx0, ↓reduceIte, Nat.reduceBEq, Nat.reduceEqDiff, Nat.reduceLT, Nat.reduceLeDiff, Nat.reduceAdd, Nat.reduceMul, Nat.reduceSub, reduceCtorEq, Int.reduceToNat]) | (refine Br.mk (fun h => ?_) (fun h => ?_)) | (refine BrN.mk (fun h => ?_) ?_)
    refine CallVC.eq (tallyCode_spec m hm n) ?_
    repeat' first | (refine Br.dec (fun h => ?_) (fun h => ?_) <;> try (exfalso; omega)) | (refine Br.eqi (fun h => ?_) (fun h => ?_) <;> try (exfalso; omega)) | (simp (disch := (first | omega | (simp only [List.length_cons, List.length_nil, List.length_append, List.length_map, List.length_replicate, List.length_take, List.length_drop, List.length_set, tab_length, tabD_len, i64s_len, bls_len, u8s_len, tbl_len, rows_len]; first | done | omega))) only [↓va0, ↓va1, ↓va2, vb0, vb1, vb2, vb3, vb4, vb5, vb6, vb7, vb8, vb9, vz0, vz1, vy0, vx0, ↓reduceIte, Nat.reduceBEq, Nat.reduceEqDiff, Nat.reduceLT, Nat.reduceLeDiff, Nat.reduceAdd, Nat.reduceMul, Nat.reduceSub, reduceCtorEq, Int.reduceToNat]) | (refine Br.mk (fun h => ?_) (fun h => ?_)) | (refine BrN.mk (fun h => ?_) ?_)
    exact fin_mk rfl
end Go.Proofs.Ytgdmapheppkahaa
