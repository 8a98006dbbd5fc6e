/-
  Turners: what one writes; the law TurnerRuns.
-/
import Derived.Test.YtgdmapheppkahaaTurner
import Derived.Test.YtgdmapheppkahaaMNot
namespace Go.Proofs.Ytgdmapheppkahaa
open Go.Dm
set_option linter.unusedSimpArgs false
set_option linter.unnecessarySimpa false
set_option linter.unusedVariables false

/-- A turner all of whose parts are in their bounds. -/
structure VT (t : Dm.Turner) : Prop where
  n : 1 ≤ t.n ∧ t.n ≤ 7
  k : 1 ≤ t.k ∧ t.k ≤ 3
  l : 1 ≤ t.l ∧ t.l ≤ 3
  len : (t.next.length : Int) = t.n
  olen : (t.out.length : Int) = t.n
  row : ∀ i, i < t.n.toNat → ((t.next.getD i default).length : Int) = t.k
  orow : ∀ i, i < t.n.toNat → ((t.out.getD i default).length : Int) = t.k
  long : ∀ i s, i < t.n.toNat → s < t.k.toNat → ((t.out.getD i default).getD s default).length ≤ 4
  start : 0 ≤ t.start ∧ t.start < t.n
  to : ∀ i s, i < t.n.toNat → s < t.k.toNat → 0 ≤ (t.next.getD i default).getD s 0 ∧ (t.next.getD i default).getD s 0 < t.n
  syms : ∀ i s, i < t.n.toNat → s < t.k.toNat → ∀ x, x ∈ (t.out.getD i default).getD s default → 0 ≤ x ∧ x < t.l
theorem vt_of {t : Dm.Turner} (h : TC t 0) : VT t := by
  unfold TC at h
  rcases h with ⟨h, ha⟩ | ⟨h, ⟨g, ha⟩ | ⟨g, ⟨k, ha⟩ | ⟨k, ⟨l, ha⟩ | ⟨l, ⟨o, ha⟩ | ⟨o, ha⟩⟩⟩⟩⟩
  · omega
  · omega
  · omega
  · omega
  · omega
  unfold t1 at h
  unfold t2 at g
  have hb : ∀ x, ¬ bs t x = true → 0 ≤ x ∧ x < t.n := fun x hx => by
    unfold bs at hx; rw [decide_eq_true_eq] at hx; omega
  have hB : ∀ i s, i < t.n.toNat → s < t.k.toNat → ¬ tB t i s = true := fun i s hi hs e => o (.inr ⟨i, hi, s, hs, e⟩)
  refine ⟨by omega, by omega, by omega, by omega, by omega, fun i hi => ?_, fun i hi => ?_, fun i s hi hs => ?_, hb _ fun e => o (.inl e), fun i s hi hs => hb _ fun e => hB i s hi hs ?_, fun i s hi hs x hx => ?_⟩
  · by_cases e : ((t.next.getD i default).length : Int) = t.k
    · exact e
    · exact absurd ⟨i, hi, .inl e⟩ k
  · by_cases e : ((t.out.getD i default).length : Int) = t.k
    · exact e
    · exact absurd ⟨i, hi, .inr e⟩ k
  · have e : ((t.out.getD i default).length : Int) = t.k := by
      by_cases e : ((t.out.getD i default).length : Int) = t.k
      · exact e
      · exact absurd ⟨i, hi, .inr e⟩ k
    have : ¬ 4 < ((t.out.getD i default).getD s default).length := fun e' => l ⟨i, hi, s, by omega, e'⟩
    omega
  · unfold tB; rw [Bool.or_eq_true]; exact .inl e
  · have : ¬ badSym t.l x = true := fun e => hB i s hi hs (by unfold tB; rw [Bool.or_eq_true]; exact .inr (List.any_eq_true.2 ⟨x, hx, e⟩))
    unfold badSym at this
    rw [decide_eq_true_eq] at this
    omega
def wr (t : Dm.Turner) (x : Int × List Int) (s : Int) : Int × List Int := ((t.next.getD x.1.toNat default).getD s.toNat 0, x.2 ++ (t.out.getD x.1.toNat default).getD s.toNat default)
def wrt (t : Dm.Turner) (p : Int) (w : List Int) : Int × List Int := w.foldl (wr t) (p, [])
theorem wrt_succ {t : Dm.Turner} {p : Int} {w : List Int} {i : Nat} (hi : i < w.length) : wrt t p (w.take (i + 1)) = wr t (wrt t p (w.take i)) (w.getD i 0) := by
  unfold wrt
  rw [take_succ_getD hi 0, List.foldl_append]; rfl
theorem wrt_ok {t : Dm.Turner} (hv : VT t) {w : List Int} (hs : ∀ i, 0 ≤ w.getD i 0 ∧ w.getD i 0 < t.k) {p : Int} (hp : 0 ≤ p ∧ p < t.n) : ∀ {i : Nat}, i ≤ w.length → (0 ≤ (wrt t p (w.take i)).1 ∧ (wrt t p (w.take i)).1 < t.n) ∧ (wrt t p (w.take i)).2.length ≤ 4 * i
  | 0, _ => ⟨hp, by simp [wrt]⟩
  | i + 1, h => by
    have ⟨a, b⟩ := wrt_ok hv hs hp (i := i) (by omega)
    have hsi := hs i
    rw [wrt_succ (by omega)]
    refine ⟨hv.to _ _ (by omega) (by omega), ?_⟩
    have := hv.long (wrt t p (w.take i)).1.toNat (w.getD i 0).toNat (by omega) (by omega)
    unfold wr
    simp only [List.length_append]
    omega
set_option maxRecDepth 10000 in
set_option maxHeartbeats 4000000 in
theorem turner.write_spec (t : Dm.Turner) (hv : VT t) (p : Int) (hp : 0 ≤ p ∧ p < t.n) (w : List Int) (hw : w.length ≤ 12) (hs : ∀ s, s ∈ w → 0 ≤ s ∧ s < t.k) : Dm.Spec Try.prog 62 [.ag (turD t), iv .i64 p, .sl 1 (i64s w)] (· = .tu [iv .i64 (wrt t p w).1, .sl 1 (i64s (wrt t p w).2)]) := by
  refine spec_of_vc mixed Try.func62 c62 (by rw [show Try.f62.ntmps = _ from Try.ntmps62]; simp) ?_
  unfold m62 r62
  have hn := hv.n
  have hk := hv.k
  have hlen := hv.len
  have holen := hv.olen
  have hsi := getD_ok (by omega) hs
  repeat' first | (refine Br.dec (fun h => ?_) (fun h => ?_) <;> try (exfalso; omega)) | (refine Br.eqi (fun h => ?_) (fun h => ?_) <;> try (exfalso; omega)) | (simp (disch := (first | omega | (simp only [vlen]; first | done | omega))) only [↓va0, ↓va1, ↓va2, ↓va3, vb0, vb1, vb2, vb3, vb4, vb5, vb6, vb7, vb8, vb9, vb10, vz0, vz1, vy0, vx0, ↓reduceIte, Nat.reduceBEq, Nat.reduceEqDiff, Nat.reduceLT, Nat.reduceLeDiff, Nat.reduceAdd, Nat.reduceMul, Nat.reduceSub, reduceCtorEq, Int.reduceToNat]) | (refine Br.mk (fun h => ?_) (fun h => ?_)) | (refine BrN.mk (fun h => ?_) ?_) | (refine AltVC.mk ?_ ?_)
  refine LoopVC.mk (X := Nat) (fun i => [(1, iv .i64 (wrt t p (w.take i)).1), (8, .ref 2 1 0 (wrt t p (w.take i)).2.length), (13, iv .i64 i)]) (fun i => [(0, tuOb t), (2, ⟨1, i64s (wrt t p (w.take i)).2, true, false, .arr⟩)]) (fun i => w.length - i) (fun i => i ≤ w.length) 0 (by omega) ?_ ?_
  · (simp (disch := (first | omega | (simp only [vlen]; first | done | omega))) only [Fits_u, Fits_m, Fits_nil, List.length_append, ↓va0, ↓va1, ↓va2, ↓va3, vb0, vb1, vb2, vb3, vb4, vb5, vb6, vb7, vb8, vb9, vb10, vz0, vz1, vy0, vx0, ↓reduceIte, Nat.reduceBEq, Nat.reduceEqDiff, Nat.reduceLT, Nat.reduceLeDiff, Nat.reduceAdd, Nat.reduceMul, Nat.reduceSub, reduceCtorEq, Int.reduceToNat] <;> (repeat' first | rfl | apply And.intro))
  · intro i h1
    have ⟨ha, hb⟩ := wrt_ok hv hsi hp h1
    have hs1 := hsi i
    have hx := hv.row (wrt t p (w.take i)).1.toNat (by omega)
    have hy := hv.orow (wrt t p (w.take i)).1.toNat (by omega)
    have hz := hv.long (wrt t p (w.take i)).1.toNat (w.getD i 0).toNat (by omega) (by omega)
    repeat' first | (refine Br.dec (fun h => ?_) (fun h => ?_) <;> try (exfalso; omega)) | (refine Br.eqi (fun h => ?_) (fun h => ?_) <;> try (exfalso; omega)) | (simp (disch := (first | omega | (simp only [vlen]; first | done | omega))) only [↓va0, ↓va1, ↓va2, ↓va3, vb0, vb1, vb2, vb3, vb4, vb5, vb6, vb7, vb8, vb9, vb10, vz0, vz1, vy0, vx0, ↓reduceIte, Nat.reduceBEq, Nat.reduceEqDiff, Nat.reduceLT, Nat.reduceLeDiff, Nat.reduceAdd, Nat.reduceMul, Nat.reduceSub, reduceCtorEq, Int.reduceToNat]) | (refine Br.mk (fun h => ?_) (fun h => ?_)) | (refine BrN.mk (fun h => ?_) ?_) | (refine AltVC.mk ?_ ?_)
    · have e := wrt_succ (t := t) (p := p) (w := w) (i := i) (by omega)
      refine loopK.mk (i + 1) (by simp (disch := (first | omega | (simp only [vlen]; first | done | omega))) only [↓va0, ↓va1, ↓va2, ↓va3, vb0, vb1, vb2, vb3, vb4, vb5, vb6, vb7, vb8, vb9, vb10, vz0, vz1, vy0, vx0, ↓reduceIte, Nat.reduceBEq, Nat.reduceEqDiff, Nat.reduceLT, Nat.reduceLeDiff, Nat.reduceAdd, Nat.reduceMul, Nat.reduceSub, reduceCtorEq, Int.reduceToNat]) (by omega) (by omega) ?_
      rw [e]
      unfold wr
      (simp (disch := (first | omega | (simp only [vlen]; first | done | omega))) only [Fits_u, Fits_m, Fits_nil, List.length_append, ↓va0, ↓va1, ↓va2, ↓va3, vb0, vb1, vb2, vb3, vb4, vb5, vb6, vb7, vb8, vb9, vb10, vz0, vz1, vy0, vx0, ↓reduceIte, Nat.reduceBEq, Nat.reduceEqDiff, Nat.reduceLT, Nat.reduceLeDiff, Nat.reduceAdd, Nat.reduceMul, Nat.reduceSub, reduceCtorEq, Int.reduceToNat] <;> (repeat' first | rfl | apply And.intro))
      all_goals trace_state
    · exact fin_mk rfl
set_option maxRecDepth 10000 in
set_option maxHeartbeats 4000000 in
theorem coppicerref.Writes_spec (t : Dm.Turner) (hv : VT t) (p : Int) (hp : 0 ≤ p ∧ p < t.n) (w : List Int) (hw : w.length ≤ 12) (hs : ∀ s, s ∈ w → 0 ≤ s ∧ s < t.k) : Dm.Spec Try.prog 39 [.ag (turD t), iv .i64 p, .sl 1 (i64s w)] (· = .tu [.sl 1 (i64s (wrt t p w).2), iv .i64 (wrt t p w).1]) := by
  refine spec_of_vc mixed Try.func39 c39 (by rw [show Try.f39.ntmps = _ from Try.ntmps39]; simp) ?_
  unfold m39 r39
  have hn := hv.n
  have hk := hv.k
  have hlen := hv.len
  have holen := hv.olen
  have hsi := getD_ok (by omega) hs
  repeat' first | (refine Br.dec (fun h => ?_) (fun h => ?_) <;> try (exfalso; omega)) | (refine Br.eqi (fun h => ?_) (fun h => ?_) <;> try (exfalso; omega)) | (simp (disch := (first | omega | (simp only [vlen]; first | done | omega))) only [↓va0, ↓va1, ↓va2, ↓va3, vb0, vb1, vb2, vb3, vb4, vb5, vb6, vb7, vb8, vb9, vb10, vz0, vz1, vy0, vx0, ↓reduceIte, Nat.reduceBEq, Nat.reduceEqDiff, Nat.reduceLT, Nat.reduceLeDiff, Nat.reduceAdd, Nat.reduceMul, Nat.reduceSub, reduceCtorEq, Int.reduceToNat]) | (refine Br.mk (fun h => ?_) (fun h => ?_)) | (refine BrN.mk (fun h => ?_) ?_) | (refine AltVC.mk ?_ ?_)
  refine LoopVC.mk (X := Nat) (fun i => [(1, iv .i64 (wrt t p (w.take i)).1), (8, .ref 2 1 0 (wrt t p (w.take i)).2.length), (13, iv .i64 i)]) (fun i => [(0, tuOb t), (2, ⟨1, i64s (wrt t p (w.take i)).2, true, false, .arr⟩)]) (fun i => w.length - i) (fun i => i ≤ w.length) 0 (by omega) ?_ ?_
  · (simp (disch := (first | omega | (simp only [vlen]; first | done | omega))) only [Fits_u, Fits_m, Fits_nil, List.length_append, ↓va0, ↓va1, ↓va2, ↓va3, vb0, vb1, vb2, vb3, vb4, vb5, vb6, vb7, vb8, vb9, vb10, vz0, vz1, vy0, vx0, ↓reduceIte, Nat.reduceBEq, Nat.reduceEqDiff, Nat.reduceLT, Nat.reduceLeDiff, Nat.reduceAdd, Nat.reduceMul, Nat.reduceSub, reduceCtorEq, Int.reduceToNat] <;> (repeat' first | rfl | apply And.intro))
  · intro i h1
    have ⟨ha, hb⟩ := wrt_ok hv hsi hp h1
    have hs1 := hsi i
    have hx := hv.row (wrt t p (w.take i)).1.toNat (by omega)
    have hy := hv.orow (wrt t p (w.take i)).1.toNat (by omega)
    have hz := hv.long (wrt t p (w.take i)).1.toNat (w.getD i 0).toNat (by omega) (by omega)
    repeat' first | (refine Br.dec (fun h => ?_) (fun h => ?_) <;> try (exfalso; omega)) | (refine Br.eqi (fun h => ?_) (fun h => ?_) <;> try (exfalso; omega)) | (simp (disch := (first | omega | (simp only [vlen]; first | done | omega))) only [↓va0, ↓va1, ↓va2, ↓va3, vb0, vb1, vb2, vb3, vb4, vb5, vb6, vb7, vb8, vb9, vb10, vz0, vz1, vy0, vx0, ↓reduceIte, Nat.reduceBEq, Nat.reduceEqDiff, Nat.reduceLT, Nat.reduceLeDiff, Nat.reduceAdd, Nat.reduceMul, Nat.reduceSub, reduceCtorEq, Int.reduceToNat]) | (refine Br.mk (fun h => ?_) (fun h => ?_)) | (refine BrN.mk (fun h => ?_) ?_) | (refine AltVC.mk ?_ ?_)
    · have e := wrt_succ (t := t) (p := p) (w := w) (i := i) (by omega)
      refine loopK.mk (i + 1) (by simp (disch := (first | omega | (simp only [vlen]; first | done | omega))) only [↓va0, ↓va1, ↓va2, ↓va3, vb0, vb1, vb2, vb3, vb4, vb5, vb6, vb7, vb8, vb9, vb10, vz0, vz1, vy0, vx0, ↓reduceIte, Nat.reduceBEq, Nat.reduceEqDiff, Nat.reduceLT, Nat.reduceLeDiff, Nat.reduceAdd, Nat.reduceMul, Nat.reduceSub, reduceCtorEq, Int.reduceToNat]) (by omega) (by omega) ?_
      rw [e]
      unfold wr
      (simp (disch := (first | omega | (simp only [vlen]; first | done | omega))) only [Fits_u, Fits_m, Fits_nil, List.length_append, ↓va0, ↓va1, ↓va2, ↓va3, vb0, vb1, vb2, vb3, vb4, vb5, vb6, vb7, vb8, vb9, vb10, vz0, vz1, vy0, vx0, ↓reduceIte, Nat.reduceBEq, Nat.reduceEqDiff, Nat.reduceLT, Nat.reduceLeDiff, Nat.reduceAdd, Nat.reduceMul, Nat.reduceSub, reduceCtorEq, Int.reduceToNat] <;> (repeat' first | rfl | apply And.intro))
      all_goals trace_state
    · exact fin_mk rfl
theorem TC.ex (t : Dm.Turner) : ∃ c, TC t c := by
  by_cases h : t1 t
  · exact ⟨1, .inl ⟨h, rfl⟩⟩
  by_cases g : t2 t
  · exact ⟨3, .inr ⟨h, .inl ⟨g, rfl⟩⟩⟩
  by_cases k : t3 t
  · exact ⟨3, .inr ⟨h, .inr ⟨g, .inl ⟨k, rfl⟩⟩⟩⟩
  by_cases l : t4 t
  · exact ⟨1, .inr ⟨h, .inr ⟨g, .inr ⟨k, .inl ⟨l, rfl⟩⟩⟩⟩⟩
  by_cases o : t5 t
  · exact ⟨2, .inr ⟨h, .inr ⟨g, .inr ⟨k, .inr ⟨l, .inl ⟨o, rfl⟩⟩⟩⟩⟩⟩
  · exact ⟨0, .inr ⟨h, .inr ⟨g, .inr ⟨k, .inr ⟨l, .inr ⟨o, rfl⟩⟩⟩⟩⟩⟩
set_option maxRecDepth 10000 in
set_option maxHeartbeats 4000000 in
theorem runT_spec (t : Dm.Turner) (ht : t.ok) (hc : TC t 0) (w : List Int) (hw : w.length ≤ 9223372036854775807) (hwc : wcode t.k w = 0) : Dm.Spec Try.prog 38 [.ag (turD t), .sl 1 (i64s w)] (· = .tu [.sl 1 (i64s (wrt t t.start w).2), iv .i64 0]) := by
  refine spec_of_vc mixed Try.func38 c38 (by rw [show Try.f38.ntmps = _ from Try.ntmps38]; simp) ?_
  unfold m38 r38
  have hv := vt_of hc
  have hk := hv.k
  have ⟨hl, hs⟩ := wcode_ok hwc
  repeat' first | (refine Br.dec (fun h => ?_) (fun h => ?_) <;> try (exfalso; omega)) | (refine Br.eqi (fun h => ?_) (fun h => ?_) <;> try (exfalso; omega)) | (simp (disch := (first | omega | (simp only [vlen]; first | done | omega))) only [↓va0, ↓va1, ↓va2, ↓va3, vb0, vb1, vb2, vb3, vb4, vb5, vb6, vb7, vb8, vb9, vb10, vz0, vz1, vy0, vx0, ↓reduceIte, Nat.reduceBEq, Nat.reduceEqDiff, Nat.reduceLT, Nat.reduceLeDiff, Nat.reduceAdd, Nat.reduceMul, Nat.reduceSub, reduceCtorEq, Int.reduceToNat]) | (refine Br.mk (fun h => ?_) (fun h => ?_)) | (refine BrN.mk (fun h => ?_) ?_) | (refine AltVC.mk ?_ ?_)
  refine CallVC.mk (tcheck1 t ht) ?_
  rintro _ ⟨a, rfl, ha⟩
  have := ha.uniq hc
  subst this
  repeat' first | (refine Br.dec (fun h => ?_) (fun h => ?_) <;> try (exfalso; omega)) | (refine Br.eqi (fun h => ?_) (fun h => ?_) <;> try (exfalso; omega)) | (simp (disch := (first | omega | (simp only [vlen]; first | done | omega))) only [↓va0, ↓va1, ↓va2, ↓va3, vb0, vb1, vb2, vb3, vb4, vb5, vb6, vb7, vb8, vb9, vb10, vz0, vz1, vy0, vx0, ↓reduceIte, Nat.reduceBEq, Nat.reduceEqDiff, Nat.reduceLT, Nat.reduceLeDiff, Nat.reduceAdd, Nat.reduceMul, Nat.reduceSub, reduceCtorEq, Int.reduceToNat]) | (refine Br.mk (fun h => ?_) (fun h => ?_)) | (refine BrN.mk (fun h => ?_) ?_) | (refine AltVC.mk ?_ ?_)
  refine CallVC.eq (word_spec t.k (by omega) w hw) ?_
  rw [hwc]
  repeat' first | (refine Br.dec (fun h => ?_) (fun h => ?_) <;> try (exfalso; omega)) | (refine Br.eqi (fun h => ?_) (fun h => ?_) <;> try (exfalso; omega)) | (simp (disch := (first | omega | (simp only [vlen]; first | done | omega))) only [↓va0, ↓va1, ↓va2, ↓va3, vb0, vb1, vb2, vb3, vb4, vb5, vb6, vb7, vb8, vb9, vb10, vz0, vz1, vy0, vx0, ↓reduceIte, Nat.reduceBEq, Nat.reduceEqDiff, Nat.reduceLT, Nat.reduceLeDiff, Nat.reduceAdd, Nat.reduceMul, Nat.reduceSub, reduceCtorEq, Int.reduceToNat]) | (refine Br.mk (fun h => ?_) (fun h => ?_)) | (refine BrN.mk (fun h => ?_) ?_) | (refine AltVC.mk ?_ ?_)
  refine CallVC.eq (turner.write_spec t hv t.start hv.start w hl hs) ?_
  repeat' first | (refine Br.dec (fun h => ?_) (fun h => ?_) <;> try (exfalso; omega)) | (refine Br.eqi (fun h => ?_) (fun h => ?_) <;> try (exfalso; omega)) | (simp (disch := (first | omega | (simp only [vlen]; first | done | omega))) only [↓va0, ↓va1, ↓va2, ↓va3, vb0, vb1, vb2, vb3, vb4, vb5, vb6, vb7, vb8, vb9, vb10, vz0, vz1, vy0, vx0, ↓reduceIte, Nat.reduceBEq, Nat.reduceEqDiff, Nat.reduceLT, Nat.reduceLeDiff, Nat.reduceAdd, Nat.reduceMul, Nat.reduceSub, reduceCtorEq, Int.reduceToNat]) | (refine Br.mk (fun h => ?_) (fun h => ?_)) | (refine BrN.mk (fun h => ?_) ?_) | (refine AltVC.mk ?_ ?_)
  exact fin_mk rfl
set_option maxRecDepth 10000 in
set_option maxHeartbeats 4000000 in
theorem runT_err (t : Dm.Turner) (ht : t.ok) (c : Int) (hc : TC t c) (hz : c ≠ 0) (w : List Int) (hw : w.length ≤ 9223372036854775807) : Dm.Spec Try.prog 38 [.ag (turD t), .sl 1 (i64s w)] (· = .tu [.sl 1 [], iv .i64 c]) := by
  refine spec_of_vc mixed Try.func38 c38 (by rw [show Try.f38.ntmps = _ from Try.ntmps38]; simp) ?_
  unfold m38 r38
  repeat' first | (refine Br.dec (fun h => ?_) (fun h => ?_) <;> try (exfalso; omega)) | (refine Br.eqi (fun h => ?_) (fun h => ?_) <;> try (exfalso; omega)) | (simp (disch := (first | omega | (simp only [vlen]; first | done | omega))) only [↓va0, ↓va1, ↓va2, ↓va3, vb0, vb1, vb2, vb3, vb4, vb5, vb6, vb7, vb8, vb9, vb10, vz0, vz1, vy0, vx0, ↓reduceIte, Nat.reduceBEq, Nat.reduceEqDiff, Nat.reduceLT, Nat.reduceLeDiff, Nat.reduceAdd, Nat.reduceMul, Nat.reduceSub, reduceCtorEq, Int.reduceToNat]) | (refine Br.mk (fun h => ?_) (fun h => ?_)) | (refine BrN.mk (fun h => ?_) ?_) | (refine AltVC.mk ?_ ?_)
  refine CallVC.mk (tcheck1 t ht) ?_
  rintro _ ⟨a, rfl, ha⟩
  have := ha.uniq hc
  subst this
  repeat' first | (refine Br.dec (fun h => ?_) (fun h => ?_) <;> try (exfalso; omega)) | (refine Br.eqi (fun h => ?_) (fun h => ?_) <;> try (exfalso; omega)) | (simp (disch := (first | omega | (simp only [vlen]; first | done | omega))) only [↓va0, ↓va1, ↓va2, ↓va3, vb0, vb1, vb2, vb3, vb4, vb5, vb6, vb7, vb8, vb9, vb10, vz0, vz1, vy0, vx0, ↓reduceIte, Nat.reduceBEq, Nat.reduceEqDiff, Nat.reduceLT, Nat.reduceLeDiff, Nat.reduceAdd, Nat.reduceMul, Nat.reduceSub, reduceCtorEq, Int.reduceToNat]) | (refine Br.mk (fun h => ?_) (fun h => ?_)) | (refine BrN.mk (fun h => ?_) ?_) | (refine AltVC.mk ?_ ?_)
  exact fin_mk rfl
set_option maxRecDepth 10000 in
set_option maxHeartbeats 4000000 in
theorem runT_werr (t : Dm.Turner) (ht : t.ok) (hc : TC t 0) (w : List Int) (hw : w.length ≤ 9223372036854775807) (hwc : ¬ wcode t.k w = 0) : Dm.Spec Try.prog 38 [.ag (turD t), .sl 1 (i64s w)] (· = .tu [.sl 1 [], iv .i64 (wcode t.k w)]) := by
  refine spec_of_vc mixed Try.func38 c38 (by rw [show Try.f38.ntmps = _ from Try.ntmps38]; simp) ?_
  unfold m38 r38
  have hv := vt_of hc
  have hk := hv.k
  repeat' first | (refine Br.dec (fun h => ?_) (fun h => ?_) <;> try (exfalso; omega)) | (refine Br.eqi (fun h => ?_) (fun h => ?_) <;> try (exfalso; omega)) | (simp (disch := (first | omega | (simp only [vlen]; first | done | omega))) only [↓va0, ↓va1, ↓va2, ↓va3, vb0, vb1, vb2, vb3, vb4, vb5, vb6, vb7, vb8, vb9, vb10, vz0, vz1, vy0, vx0, ↓reduceIte, Nat.reduceBEq, Nat.reduceEqDiff, Nat.reduceLT, Nat.reduceLeDiff, Nat.reduceAdd, Nat.reduceMul, Nat.reduceSub, reduceCtorEq, Int.reduceToNat]) | (refine Br.mk (fun h => ?_) (fun h => ?_)) | (refine BrN.mk (fun h => ?_) ?_) | (refine AltVC.mk ?_ ?_)
  refine CallVC.mk (tcheck1 t ht) ?_
  rintro _ ⟨a, rfl, ha⟩
  have := ha.uniq hc
  subst this
  repeat' first | (refine Br.dec (fun h => ?_) (fun h => ?_) <;> try (exfalso; omega)) | (refine Br.eqi (fun h => ?_) (fun h => ?_) <;> try (exfalso; omega)) | (simp (disch := (first | omega | (simp only [vlen]; first | done | omega))) only [↓va0, ↓va1, ↓va2, ↓va3, vb0, vb1, vb2, vb3, vb4, vb5, vb6, vb7, vb8, vb9, vb10, vz0, vz1, vy0, vx0, ↓reduceIte, Nat.reduceBEq, Nat.reduceEqDiff, Nat.reduceLT, Nat.reduceLeDiff, Nat.reduceAdd, Nat.reduceMul, Nat.reduceSub, reduceCtorEq, Int.reduceToNat]) | (refine Br.mk (fun h => ?_) (fun h => ?_)) | (refine BrN.mk (fun h => ?_) ?_) | (refine AltVC.mk ?_ ?_)
  refine CallVC.eq (word_spec t.k (by omega) w hw) ?_
  repeat' first | (refine Br.dec (fun h => ?_) (fun h => ?_) <;> try (exfalso; omega)) | (refine Br.eqi (fun h => ?_) (fun h => ?_) <;> try (exfalso; omega)) | (simp (disch := (first | omega | (simp only [vlen]; first | done | omega))) only [↓va0, ↓va1, ↓va2, ↓va3, vb0, vb1, vb2, vb3, vb4, vb5, vb6, vb7, vb8, vb9, vb10, vz0, vz1, vy0, vx0, ↓reduceIte, Nat.reduceBEq, Nat.reduceEqDiff, Nat.reduceLT, Nat.reduceLeDiff, Nat.reduceAdd, Nat.reduceMul, Nat.reduceSub, reduceCtorEq, Int.reduceToNat]) | (refine Br.mk (fun h => ?_) (fun h => ?_)) | (refine BrN.mk (fun h => ?_) ?_) | (refine AltVC.mk ?_ ?_)
  exact fin_mk rfl
set_option maxRecDepth 10000 in
set_option maxHeartbeats 4000000 in
theorem turnerRuns_spec (t : Dm.Turner) (ht : t.ok) (w : List Int) (hw : okL ok64 w) : Dm.Spec Try.prog 12 [.ag (turD t), .sl 1 (i64s w)] (· = .v (.bool true)) := by
  refine spec_of_vc mixed Try.func12 c12 (by rw [show Try.f12.ntmps = _ from Try.ntmps12]; simp) ?_
  unfold m12 r12
  have hwl : w.length ≤ 9223372036854775807 := maxLen_le hw.1
  obtain ⟨c, hc⟩ := TC.ex t
  by_cases hz : c = 0
  · subst hz
    have hv := vt_of hc
    have hk := hv.k
    by_cases hwc : wcode t.k w = 0
    · have ⟨hl, hs⟩ := wcode_ok hwc
      have hlo := (wrt_ok hv (getD_ok (by omega) hs) hv.start (Nat.le_refl w.length)).2
      rw [List.take_length] at hlo
      repeat' first | (refine Br.dec (fun h => ?_) (fun h => ?_) <;> try (exfalso; omega)) | (refine Br.eqi (fun h => ?_) (fun h => ?_) <;> try (exfalso; omega)) | (simp (disch := (first | omega | (simp only [vlen]; first | done | omega))) only [↓va0, ↓va1, ↓va2, ↓va3, vb0, vb1, vb2, vb3, vb4, vb5, vb6, vb7, vb8, vb9, vb10, vz0, vz1, vy0, vx0, ↓reduceIte, Nat.reduceBEq, Nat.reduceEqDiff, Nat.reduceLT, Nat.reduceLeDiff, Nat.reduceAdd, Nat.reduceMul, Nat.reduceSub, reduceCtorEq, Int.reduceToNat]) | (refine Br.mk (fun h => ?_) (fun h => ?_)) | (refine BrN.mk (fun h => ?_) ?_) | (refine AltVC.mk ?_ ?_)
      refine CallVC.eq (runT_spec t ht hc w hwl hwc) ?_
      repeat' first | (refine Br.dec (fun h => ?_) (fun h => ?_) <;> try (exfalso; omega)) | (refine Br.eqi (fun h => ?_) (fun h => ?_) <;> try (exfalso; omega)) | (simp (disch := (first | omega | (simp only [vlen]; first | done | omega))) only [↓va0, ↓va1, ↓va2, ↓va3, vb0, vb1, vb2, vb3, vb4, vb5, vb6, vb7, vb8, vb9, vb10, vz0, vz1, vy0, vx0, ↓reduceIte, Nat.reduceBEq, Nat.reduceEqDiff, Nat.reduceLT, Nat.reduceLeDiff, Nat.reduceAdd, Nat.reduceMul, Nat.reduceSub, reduceCtorEq, Int.reduceToNat]) | (refine Br.mk (fun h => ?_) (fun h => ?_)) | (refine BrN.mk (fun h => ?_) ?_) | (refine AltVC.mk ?_ ?_)
      refine CallVC.mk (refT_spec t ht) ?_
      rintro _ ⟨a, rfl, ha⟩
      have := ha.uniq hc
      subst this
      repeat' first | (refine Br.dec (fun h => ?_) (fun h => ?_) <;> try (exfalso; omega)) | (refine Br.eqi (fun h => ?_) (fun h => ?_) <;> try (exfalso; omega)) | (simp (disch := (first | omega | (simp only [vlen]; first | done | omega))) only [↓va0, ↓va1, ↓va2, ↓va3, vb0, vb1, vb2, vb3, vb4, vb5, vb6, vb7, vb8, vb9, vb10, vz0, vz1, vy0, vx0, ↓reduceIte, Nat.reduceBEq, Nat.reduceEqDiff, Nat.reduceLT, Nat.reduceLeDiff, Nat.reduceAdd, Nat.reduceMul, Nat.reduceSub, reduceCtorEq, Int.reduceToNat]) | (refine Br.mk (fun h => ?_) (fun h => ?_)) | (refine BrN.mk (fun h => ?_) ?_) | (refine AltVC.mk ?_ ?_)
      refine CallVC.eq (refWord_spec t.k (by omega) w hwl) ?_
      rw [hwc]
      repeat' first | (refine Br.dec (fun h => ?_) (fun h => ?_) <;> try (exfalso; omega)) | (refine Br.eqi (fun h => ?_) (fun h => ?_) <;> try (exfalso; omega)) | (simp (disch := (first | omega | (simp only [vlen]; first | done | omega))) only [↓va0, ↓va1, ↓va2, ↓va3, vb0, vb1, vb2, vb3, vb4, vb5, vb6, vb7, vb8, vb9, vb10, vz0, vz1, vy0, vx0, ↓reduceIte, Nat.reduceBEq, Nat.reduceEqDiff, Nat.reduceLT, Nat.reduceLeDiff, Nat.reduceAdd, Nat.reduceMul, Nat.reduceSub, reduceCtorEq, Int.reduceToNat]) | (refine Br.mk (fun h => ?_) (fun h => ?_)) | (refine BrN.mk (fun h => ?_) ?_) | (refine AltVC.mk ?_ ?_)
      refine CallVC.eq (coppicerref.Writes_spec t hv t.start hv.start w hl hs) ?_
      repeat' first | (refine Br.dec (fun h => ?_) (fun h => ?_) <;> try (exfalso; omega)) | (refine Br.eqi (fun h => ?_) (fun h => ?_) <;> try (exfalso; omega)) | (simp (disch := (first | omega | (simp only [vlen]; first | done | omega))) only [↓va0, ↓va1, ↓va2, ↓va3, vb0, vb1, vb2, vb3, vb4, vb5, vb6, vb7, vb8, vb9, vb10, vz0, vz1, vy0, vx0, ↓reduceIte, Nat.reduceBEq, Nat.reduceEqDiff, Nat.reduceLT, Nat.reduceLeDiff, Nat.reduceAdd, Nat.reduceMul, Nat.reduceSub, reduceCtorEq, Int.reduceToNat]) | (refine Br.mk (fun h => ?_) (fun h => ?_)) | (refine BrN.mk (fun h => ?_) ?_) | (refine AltVC.mk ?_ ?_)
      refine CallVC.eq (intsM_spec _ _ (by omega) (by omega)) ?_
      rw [decide_eq_true rfl]
      repeat' first | (refine Br.dec (fun h => ?_) (fun h => ?_) <;> try (exfalso; omega)) | (refine Br.eqi (fun h => ?_) (fun h => ?_) <;> try (exfalso; omega)) | (simp (disch := (first | omega | (simp only [vlen]; first | done | omega))) only [↓va0, ↓va1, ↓va2, ↓va3, vb0, vb1, vb2, vb3, vb4, vb5, vb6, vb7, vb8, vb9, vb10, vz0, vz1, vy0, vx0, ↓reduceIte, Nat.reduceBEq, Nat.reduceEqDiff, Nat.reduceLT, Nat.reduceLeDiff, Nat.reduceAdd, Nat.reduceMul, Nat.reduceSub, reduceCtorEq, Int.reduceToNat]) | (refine Br.mk (fun h => ?_) (fun h => ?_)) | (refine BrN.mk (fun h => ?_) ?_) | (refine AltVC.mk ?_ ?_)
      exact fin_mk rfl
    · repeat' first | (refine Br.dec (fun h => ?_) (fun h => ?_) <;> try (exfalso; omega)) | (refine Br.eqi (fun h => ?_) (fun h => ?_) <;> try (exfalso; omega)) | (simp (disch := (first | omega | (simp only [vlen]; first | done | omega))) only [↓va0, ↓va1, ↓va2, ↓va3, vb0, vb1, vb2, vb3, vb4, vb5, vb6, vb7, vb8, vb9, vb10, vz0, vz1, vy0, vx0, ↓reduceIte, Nat.reduceBEq, Nat.reduceEqDiff, Nat.reduceLT, Nat.reduceLeDiff, Nat.reduceAdd, Nat.reduceMul, Nat.reduceSub, reduceCtorEq, Int.reduceToNat]) | (refine Br.mk (fun h => ?_) (fun h => ?_)) | (refine BrN.mk (fun h => ?_) ?_) | (refine AltVC.mk ?_ ?_)
      refine CallVC.eq (runT_werr t ht hc w hwl hwc) ?_
      repeat' first | (refine Br.dec (fun h => ?_) (fun h => ?_) <;> try (exfalso; omega)) | (refine Br.eqi (fun h => ?_) (fun h => ?_) <;> try (exfalso; omega)) | (simp (disch := (first | omega | (simp only [vlen]; first | done | omega))) only [↓va0, ↓va1, ↓va2, ↓va3, vb0, vb1, vb2, vb3, vb4, vb5, vb6, vb7, vb8, vb9, vb10, vz0, vz1, vy0, vx0, ↓reduceIte, Nat.reduceBEq, Nat.reduceEqDiff, Nat.reduceLT, Nat.reduceLeDiff, Nat.reduceAdd, Nat.reduceMul, Nat.reduceSub, reduceCtorEq, Int.reduceToNat]) | (refine Br.mk (fun h => ?_) (fun h => ?_)) | (refine BrN.mk (fun h => ?_) ?_) | (refine AltVC.mk ?_ ?_)
      refine CallVC.mk (refT_spec t ht) ?_
      rintro _ ⟨a, rfl, ha⟩
      have := ha.uniq hc
      subst this
      repeat' first | (refine Br.dec (fun h => ?_) (fun h => ?_) <;> try (exfalso; omega)) | (refine Br.eqi (fun h => ?_) (fun h => ?_) <;> try (exfalso; omega)) | (simp (disch := (first | omega | (simp only [vlen]; first | done | omega))) only [↓va0, ↓va1, ↓va2, ↓va3, vb0, vb1, vb2, vb3, vb4, vb5, vb6, vb7, vb8, vb9, vb10, vz0, vz1, vy0, vx0, ↓reduceIte, Nat.reduceBEq, Nat.reduceEqDiff, Nat.reduceLT, Nat.reduceLeDiff, Nat.reduceAdd, Nat.reduceMul, Nat.reduceSub, reduceCtorEq, Int.reduceToNat]) | (refine Br.mk (fun h => ?_) (fun h => ?_)) | (refine BrN.mk (fun h => ?_) ?_) | (refine AltVC.mk ?_ ?_)
      refine CallVC.eq (refWord_spec t.k (by omega) w hwl) ?_
      repeat' first | (refine Br.dec (fun h => ?_) (fun h => ?_) <;> try (exfalso; omega)) | (refine Br.eqi (fun h => ?_) (fun h => ?_) <;> try (exfalso; omega)) | (simp (disch := (first | omega | (simp only [vlen]; first | done | omega))) only [↓va0, ↓va1, ↓va2, ↓va3, vb0, vb1, vb2, vb3, vb4, vb5, vb6, vb7, vb8, vb9, vb10, vz0, vz1, vy0, vx0, ↓reduceIte, Nat.reduceBEq, Nat.reduceEqDiff, Nat.reduceLT, Nat.reduceLeDiff, Nat.reduceAdd, Nat.reduceMul, Nat.reduceSub, reduceCtorEq, Int.reduceToNat]) | (refine Br.mk (fun h => ?_) (fun h => ?_)) | (refine BrN.mk (fun h => ?_) ?_) | (refine AltVC.mk ?_ ?_)
      exact fin_mk rfl
  · repeat' first | (refine Br.dec (fun h => ?_) (fun h => ?_) <;> try (exfalso; omega)) | (refine Br.eqi (fun h => ?_) (fun h => ?_) <;> try (exfalso; omega)) | (simp (disch := (first | omega | (simp only [vlen]; first | done | omega))) only [↓va0, ↓va1, ↓va2, ↓va3, vb0, vb1, vb2, vb3, vb4, vb5, vb6, vb7, vb8, vb9, vb10, vz0, vz1, vy0, vx0, ↓reduceIte, Nat.reduceBEq, Nat.reduceEqDiff, Nat.reduceLT, Nat.reduceLeDiff, Nat.reduceAdd, Nat.reduceMul, Nat.reduceSub, reduceCtorEq, Int.reduceToNat]) | (refine Br.mk (fun h => ?_) (fun h => ?_)) | (refine BrN.mk (fun h => ?_) ?_) | (refine AltVC.mk ?_ ?_)
    refine CallVC.eq (runT_err t ht c hc hz w hwl) ?_
    repeat' first | (refine Br.dec (fun h => ?_) (fun h => ?_) <;> try (exfalso; omega)) | (refine Br.eqi (fun h => ?_) (fun h => ?_) <;> try (exfalso; omega)) | (simp (disch := (first | omega | (simp only [vlen]; first | done | omega))) only [↓va0, ↓va1, ↓va2, ↓va3, vb0, vb1, vb2, vb3, vb4, vb5, vb6, vb7, vb8, vb9, vb10, vz0, vz1, vy0, vx0, ↓reduceIte, Nat.reduceBEq, Nat.reduceEqDiff, Nat.reduceLT, Nat.reduceLeDiff, Nat.reduceAdd, Nat.reduceMul, Nat.reduceSub, reduceCtorEq, Int.reduceToNat]) | (refine Br.mk (fun h => ?_) (fun h => ?_)) | (refine BrN.mk (fun h => ?_) ?_) | (refine AltVC.mk ?_ ?_)
    refine CallVC.mk (refT_spec t ht) ?_
    rintro _ ⟨a, rfl, ha⟩
    have := ha.uniq hc
    subst this
    repeat' first | (refine Br.dec (fun h => ?_) (fun h => ?_) <;> try (exfalso; omega)) | (refine Br.eqi (fun h => ?_) (fun h => ?_) <;> try (exfalso; omega)) | (simp (disch := (first | omega | (simp only [vlen]; first | done | omega))) only [↓va0, ↓va1, ↓va2, ↓va3, vb0, vb1, vb2, vb3, vb4, vb5, vb6, vb7, vb8, vb9, vb10, vz0, vz1, vy0, vx0, ↓reduceIte, Nat.reduceBEq, Nat.reduceEqDiff, Nat.reduceLT, Nat.reduceLeDiff, Nat.reduceAdd, Nat.reduceMul, Nat.reduceSub, reduceCtorEq, Int.reduceToNat]) | (refine Br.mk (fun h => ?_) (fun h => ?_)) | (refine BrN.mk (fun h => ?_) ?_) | (refine AltVC.mk ?_ ?_)
    exact fin_mk rfl
end Go.Proofs.Ytgdmapheppkahaa
