/-
  Machines: where a word leads; the law MachineRuns.
-/
import Derived.Test.YtmhpfgklfpgniaaMach
namespace Go.Proofs.Ytmhpfgklfpgniaa
open Go.Dm
set_option linter.unusedSimpArgs false
set_option linter.unnecessarySimpa false
set_option linter.unusedVariables false

def badSym (k s : Int) : Bool := decide (s < 0 ∨ k ≤ s)
def wcode (k : Int) (w : List Int) : Int := if 12 < (w.length : Int) then 1 else if w.any (badSym k) = true then 2 else 0
theorem wcode_ok {k : Int} {w : List Int} (h : wcode k w = 0) : w.length ≤ 12 ∧ ∀ s, s ∈ w → 0 ≤ s ∧ s < k := by
  unfold wcode at h
  split at h
  · omega
  · split at h
    · omega
    · next h1 h2 =>
      refine ⟨by omega, fun s hs => ?_⟩
      have : ¬ badSym k s = true := fun e => h2 (List.any_eq_true.2 ⟨s, hs, e⟩)
      unfold badSym at this
      rw [decide_eq_true_eq] at this
      omega
theorem getD_ok {k : Int} {w : List Int} (hk : 1 ≤ k) (h : ∀ s, s ∈ w → 0 ≤ s ∧ s < k) (i : Nat) : 0 ≤ w.getD i 0 ∧ w.getD i 0 < k := by
  by_cases hi : i < w.length
  · exact h _ (getD_mem' hi)
  · rw [show w.getD i 0 = 0 by simp [List.getD, show w[i]? = none from List.getElem?_eq_none (by omega)]]; omega
def mstep (m : Dm.Machine) (p s : Int) : Int := (m.next.getD p.toNat default).getD s.toNat 0
def leads (m : Dm.Machine) (p : Int) (w : List Int) : Int := w.foldl (mstep m) p
theorem leads_succ {m : Dm.Machine} {p : Int} {w : List Int} {i : Nat} (hi : i < w.length) : leads m p (w.take (i + 1)) = mstep m (leads m p (w.take i)) (w.getD i 0) := by
  unfold leads
  rw [take_succ_getD hi 0, List.foldl_append]; rfl
theorem VM.nx {m : Dm.Machine} (hv : VM m) {p : Int} (hp : 0 ≤ p ∧ p < m.n) : ((m.next.getD p.toNat default).length : Int) = m.k :=
  hv.row _ (getD_mem' (by have := hv.len; omega))
theorem VM.st {m : Dm.Machine} (hv : VM m) {p s : Int} (hp : 0 ≤ p ∧ p < m.n) : 0 ≤ mstep m p s ∧ mstep m p s < m.n := by
  have := hv.len
  exact getD_ok (by have := hv.n; omega) (hv.to _ (getD_mem' (by omega))) _
theorem leads_ok {m : Dm.Machine} (hv : VM m) : ∀ {w : List Int} {p : Int}, 0 ≤ p ∧ p < m.n → 0 ≤ leads m p w ∧ leads m p w < m.n
  | [], p, h => h
  | s :: w, p, h => leads_ok (w := w) hv (hv.st h)

set_option maxRecDepth 10000 in
set_option maxHeartbeats 4000000 in
theorem wsym_spec (k : Int) (hk : 0 ≤ k ∧ k ≤ 3) (s : Int) : Dm.Spec Try.prog 67 [iv .i64 s, .ip [iv .i64 k] 0] (· = .v (.bool (badSym k s))) := by
  refine spec_of_vc mixed Try.func67 c67 (by rw [show Try.f67.ntmps = _ from Try.ntmps67]; simp) ?_
  unfold m67 r67
  repeat' first | (refine Br.dec (fun h => ?_) (fun h => ?_) <;> try (exfalso; omega)) | (refine Br.eqi (fun h => ?_) (fun h => ?_) <;> try (exfalso; omega)) | (simp (disch := (first | omega | (simp only [vlen]; first | done | omega))) only [↓va0, ↓va1, ↓va2, ↓va3, vb0, vb1, vb2, vb3, vb4, vb5, vb6, vb7, vb8, vb9, vb10, vz0, vz1, vy0, vx0, ↓reduceIte, Nat.reduceBEq, Nat.reduceEqDiff, Nat.reduceLT, Nat.reduceLeDiff, Nat.reduceAdd, Nat.reduceMul, Nat.reduceSub, reduceCtorEq, Int.reduceToNat]) | (refine Br.mk (fun h => ?_) (fun h => ?_)) | (refine BrN.mk (fun h => ?_) ?_) | (refine AltVC.mk ?_ ?_)
  refine CallVC.eq (within_spec _ _ _) ?_
  repeat' first | (refine Br.dec (fun h => ?_) (fun h => ?_) <;> try (exfalso; omega)) | (refine Br.eqi (fun h => ?_) (fun h => ?_) <;> try (exfalso; omega)) | (simp (disch := (first | omega | (simp only [vlen]; first | done | omega))) only [↓va0, ↓va1, ↓va2, ↓va3, vb0, vb1, vb2, vb3, vb4, vb5, vb6, vb7, vb8, vb9, vb10, vz0, vz1, vy0, vx0, ↓reduceIte, Nat.reduceBEq, Nat.reduceEqDiff, Nat.reduceLT, Nat.reduceLeDiff, Nat.reduceAdd, Nat.reduceMul, Nat.reduceSub, reduceCtorEq, Int.reduceToNat]) | (refine Br.mk (fun h => ?_) (fun h => ?_)) | (refine BrN.mk (fun h => ?_) ?_) | (refine AltVC.mk ?_ ?_)
  refine fin_mk (vbEq ?_)
  unfold badSym
  rw [← decide_not]
  exact dec_iff (by omega)
set_option maxRecDepth 10000 in
set_option maxHeartbeats 4000000 in
theorem word_spec (k : Int) (hk : 0 ≤ k ∧ k ≤ 3) (w : List Int) (hw : w.length ≤ 9223372036854775807) : Dm.Spec Try.prog 42 [iv .i64 k, .sl 1 (i64s w)] (· = iv .i64 (wcode k w)) := by
  refine spec_of_vc mixed Try.func42 c42 (by rw [show Try.f42.ntmps = _ from Try.ntmps42]; simp) ?_
  unfold m42 r42
  repeat' first | (refine Br.dec (fun h => ?_) (fun h => ?_) <;> try (exfalso; omega)) | (refine Br.eqi (fun h => ?_) (fun h => ?_) <;> try (exfalso; omega)) | (simp (disch := (first | omega | (simp only [vlen]; first | done | omega))) only [↓va0, ↓va1, ↓va2, ↓va3, vb0, vb1, vb2, vb3, vb4, vb5, vb6, vb7, vb8, vb9, vb10, vz0, vz1, vy0, vx0, ↓reduceIte, Nat.reduceBEq, Nat.reduceEqDiff, Nat.reduceLT, Nat.reduceLeDiff, Nat.reduceAdd, Nat.reduceMul, Nat.reduceSub, reduceCtorEq, Int.reduceToNat]) | (refine Br.mk (fun h => ?_) (fun h => ?_)) | (refine BrN.mk (fun h => ?_) ?_) | (refine AltVC.mk ?_ ?_)
  · exact fin_mk (by rw [wcode, if_pos (by assumption)])
  · refine CallVC.eqo (conF_int w (badSym k) _ [.ip [iv .i64 k] 0] hw (by simp (disch := (first | omega | (simp only [vlen]; first | done | omega))) only [↓va0, ↓va1, ↓va2, ↓va3, vb0, vb1, vb2, vb3, vb4, vb5, vb6, vb7, vb8, vb9, vb10, vz0, vz1, vy0, vx0, ↓reduceIte, Nat.reduceBEq, Nat.reduceEqDiff, Nat.reduceLT, Nat.reduceLeDiff, Nat.reduceAdd, Nat.reduceMul, Nat.reduceSub, reduceCtorEq, Int.reduceToNat]) fun s _ => wsym_spec k hk s) (by simp (disch := (first | omega | (simp only [vlen]; first | done | omega))) only [↓va0, ↓va1, ↓va2, ↓va3, vb0, vb1, vb2, vb3, vb4, vb5, vb6, vb7, vb8, vb9, vb10, vz0, vz1, vy0, vx0, ↓reduceIte, Nat.reduceBEq, Nat.reduceEqDiff, Nat.reduceLT, Nat.reduceLeDiff, Nat.reduceAdd, Nat.reduceMul, Nat.reduceSub, reduceCtorEq, Int.reduceToNat]) ?_
    repeat' first | (refine Br.dec (fun h => ?_) (fun h => ?_) <;> try (exfalso; omega)) | (refine Br.eqi (fun h => ?_) (fun h => ?_) <;> try (exfalso; omega)) | (simp (disch := (first | omega | (simp only [vlen]; first | done | omega))) only [↓va0, ↓va1, ↓va2, ↓va3, vb0, vb1, vb2, vb3, vb4, vb5, vb6, vb7, vb8, vb9, vb10, vz0, vz1, vy0, vx0, ↓reduceIte, Nat.reduceBEq, Nat.reduceEqDiff, Nat.reduceLT, Nat.reduceLeDiff, Nat.reduceAdd, Nat.reduceMul, Nat.reduceSub, reduceCtorEq, Int.reduceToNat]) | (refine Br.mk (fun h => ?_) (fun h => ?_)) | (refine BrN.mk (fun h => ?_) ?_) | (refine AltVC.mk ?_ ?_)
    · exact fin_mk (by rw [wcode, if_neg (by assumption), if_pos (by assumption)])
    · have h2 : w.any (badSym k) = false := by assumption
      exact fin_mk (by rw [wcode, if_neg (by assumption), if_neg (by rw [h2]; simp)])
set_option maxRecDepth 10000 in
set_option maxHeartbeats 4000000 in
theorem refWord_spec (k : Int) (hk : 0 ≤ k ∧ k ≤ 3) (w : List Int) (hw : w.length ≤ 9223372036854775807) : Dm.Spec Try.prog 28 [iv .i64 k, .sl 1 (i64s w)] (· = iv .i64 (wcode k w)) := by
  refine spec_of_vc mixed Try.func28 c28 (by rw [show Try.f28.ntmps = _ from Try.ntmps28]; simp) ?_
  unfold m28 r28
  repeat' first | (refine Br.dec (fun h => ?_) (fun h => ?_) <;> try (exfalso; omega)) | (refine Br.eqi (fun h => ?_) (fun h => ?_) <;> try (exfalso; omega)) | (simp (disch := (first | omega | (simp only [vlen]; first | done | omega))) only [↓va0, ↓va1, ↓va2, ↓va3, vb0, vb1, vb2, vb3, vb4, vb5, vb6, vb7, vb8, vb9, vb10, vz0, vz1, vy0, vx0, ↓reduceIte, Nat.reduceBEq, Nat.reduceEqDiff, Nat.reduceLT, Nat.reduceLeDiff, Nat.reduceAdd, Nat.reduceMul, Nat.reduceSub, reduceCtorEq, Int.reduceToNat]) | (refine Br.mk (fun h => ?_) (fun h => ?_)) | (refine BrN.mk (fun h => ?_) ?_) | (refine AltVC.mk ?_ ?_)
  · exact fin_mk (by rw [wcode, if_pos (by assumption)])
  · refine LoopVC.mk (X := Nat) (fun i => [(12, iv .i64 i)]) (fun _ => []) (fun i => w.length - i) (fun i => i ≤ w.length ∧ ∀ j, j < i → badSym k (w.getD j 0) = false) 0 ⟨by omega, by omega⟩ ?_ ?_
    · (simp (disch := (first | omega | (simp only [vlen]; first | done | omega))) only [Fits_u, Fits_m, Fits_nil, List.length_append, ↓va0, ↓va1, ↓va2, ↓va3, vb0, vb1, vb2, vb3, vb4, vb5, vb6, vb7, vb8, vb9, vb10, vz0, vz1, vy0, vx0, ↓reduceIte, Nat.reduceBEq, Nat.reduceEqDiff, Nat.reduceLT, Nat.reduceLeDiff, Nat.reduceAdd, Nat.reduceMul, Nat.reduceSub, reduceCtorEq, Int.reduceToNat] <;> (repeat' first | rfl | apply And.intro))
    · rintro i ⟨h1, h2⟩
      repeat' first | (refine Br.dec (fun h => ?_) (fun h => ?_) <;> try (exfalso; omega)) | (refine Br.eqi (fun h => ?_) (fun h => ?_) <;> try (exfalso; omega)) | (simp (disch := (first | omega | (simp only [vlen]; first | done | omega))) only [↓va0, ↓va1, ↓va2, ↓va3, vb0, vb1, vb2, vb3, vb4, vb5, vb6, vb7, vb8, vb9, vb10, vz0, vz1, vy0, vx0, ↓reduceIte, Nat.reduceBEq, Nat.reduceEqDiff, Nat.reduceLT, Nat.reduceLeDiff, Nat.reduceAdd, Nat.reduceMul, Nat.reduceSub, reduceCtorEq, Int.reduceToNat]) | (refine Br.mk (fun h => ?_) (fun h => ?_)) | (refine BrN.mk (fun h => ?_) ?_) | (refine AltVC.mk ?_ ?_)
      · exact fin_mk (by rw [wcode, if_neg (by assumption), if_pos (any_hit (p := badSym k) (i := i) (by omega) (decide_eq_true (.inl (by assumption))))])
      · exact fin_mk (by rw [wcode, if_neg (by assumption), if_pos (any_hit (p := badSym k) (i := i) (by omega) (decide_eq_true (.inr (by assumption))))])
      · exact loopK.mk (i + 1) (by simp (disch := (first | omega | (simp only [vlen]; first | done | omega))) only [↓va0, ↓va1, ↓va2, ↓va3, vb0, vb1, vb2, vb3, vb4, vb5, vb6, vb7, vb8, vb9, vb10, vz0, vz1, vy0, vx0, ↓reduceIte, Nat.reduceBEq, Nat.reduceEqDiff, Nat.reduceLT, Nat.reduceLeDiff, Nat.reduceAdd, Nat.reduceMul, Nat.reduceSub, reduceCtorEq, Int.reduceToNat]) ⟨by omega, succ_all h2 (decide_eq_false (by show ¬ (w.getD i 0 < 0 ∨ k ≤ w.getD i 0); omega))⟩ (by omega) (by (simp (disch := (first | omega | (simp only [vlen]; first | done | omega))) only [Fits_u, Fits_m, Fits_nil, List.length_append, ↓va0, ↓va1, ↓va2, ↓va3, vb0, vb1, vb2, vb3, vb4, vb5, vb6, vb7, vb8, vb9, vb10, vz0, vz1, vy0, vx0, ↓reduceIte, Nat.reduceBEq, Nat.reduceEqDiff, Nat.reduceLT, Nat.reduceLeDiff, Nat.reduceAdd, Nat.reduceMul, Nat.reduceSub, reduceCtorEq, Int.reduceToNat] <;> (repeat' first | rfl | apply And.intro)))
      · have h3 : w.any (badSym k) = false := any_none (i := i) (by omega) h2
        exact fin_mk (by rw [wcode, if_neg (by assumption), if_neg (by rw [h3]; simp)])
theorem has_i (S n : Int) (hS : 0 ≤ S ∧ S ≤ 4294967295) (hn : 0 ≤ n ∧ n ≤ 31) : Dm.Spec Try.prog 43 [iv .u32 S, iv .i64 n] (· = .v (.bool (S.toNat.testBit n.toNat))) := by
  have := has_spec S.toNat n.toNat (by omega) (by omega)
  rwa [show ((S.toNat : Nat) : Int) = S by omega, show ((n.toNat : Nat) : Int) = n by omega] at this
theorem bit_i (S n : Int) (hS : 0 ≤ S ∧ S ≤ 4294967295) (hn : 0 ≤ n ∧ n ≤ 31) : Dm.Spec Try.prog 48 [iv .u32 S, iv .i64 n] (· = .v (.bool (S.toNat.testBit n.toNat))) := by
  have := bit_spec S.toNat n (by omega) (by constructor <;> omega)
  rwa [show ((S.toNat : Nat) : Int) = S by omega, decide_eq_true (by omega), Bool.true_and] at this
set_option maxRecDepth 10000 in
set_option maxHeartbeats 4000000 in
theorem leads_spec (m : Dm.Machine) (hv : VM m) (p : Int) (hp : 0 ≤ p ∧ p < m.n) (w : List Int) (hs : ∀ s, s ∈ w → 0 ≤ s ∧ s < m.k) (hw : w.length ≤ 100000) : Dm.Spec Try.prog 55 [.ag (macD m), iv .i64 p, .sl 1 (i64s w)] (· = iv .i64 (leads m p w)) := by
  refine spec_of_vc mixed Try.func55 c55 (by rw [show Try.f55.ntmps = _ from Try.ntmps55]; simp) ?_
  unfold m55 r55
  have hn := hv.n
  have hk := hv.k
  have hlen := hv.len
  repeat' first | (refine Br.dec (fun h => ?_) (fun h => ?_) <;> try (exfalso; omega)) | (refine Br.eqi (fun h => ?_) (fun h => ?_) <;> try (exfalso; omega)) | (simp (disch := (first | omega | (simp only [vlen]; first | done | omega))) only [↓va0, ↓va1, ↓va2, ↓va3, vb0, vb1, vb2, vb3, vb4, vb5, vb6, vb7, vb8, vb9, vb10, vz0, vz1, vy0, vx0, ↓reduceIte, Nat.reduceBEq, Nat.reduceEqDiff, Nat.reduceLT, Nat.reduceLeDiff, Nat.reduceAdd, Nat.reduceMul, Nat.reduceSub, reduceCtorEq, Int.reduceToNat]) | (refine Br.mk (fun h => ?_) (fun h => ?_)) | (refine BrN.mk (fun h => ?_) ?_) | (refine AltVC.mk ?_ ?_)
  refine LoopVC.mk (X := Nat) (fun i => [(1, iv .i64 (leads m p (w.take i))), (11, iv .i64 i)]) (fun _ => [(0, mOb m)]) (fun i => w.length - i) (fun i => i ≤ w.length) 0 (by omega) ?_ ?_
  · (simp (disch := (first | omega | (simp only [vlen]; first | done | omega))) only [Fits_u, Fits_m, Fits_nil, List.length_append, ↓va0, ↓va1, ↓va2, ↓va3, vb0, vb1, vb2, vb3, vb4, vb5, vb6, vb7, vb8, vb9, vb10, vz0, vz1, vy0, vx0, ↓reduceIte, Nat.reduceBEq, Nat.reduceEqDiff, Nat.reduceLT, Nat.reduceLeDiff, Nat.reduceAdd, Nat.reduceMul, Nat.reduceSub, reduceCtorEq, Int.reduceToNat] <;> (repeat' first | rfl | apply And.intro))
  · intro i h1
    have hp := leads_ok (w := w.take i) hv hp
    have hx := hv.nx hp
    have hsi := getD_ok (by omega) hs i
    repeat' first | (refine Br.dec (fun h => ?_) (fun h => ?_) <;> try (exfalso; omega)) | (refine Br.eqi (fun h => ?_) (fun h => ?_) <;> try (exfalso; omega)) | (simp (disch := (first | omega | (simp only [vlen]; first | done | omega))) only [↓va0, ↓va1, ↓va2, ↓va3, vb0, vb1, vb2, vb3, vb4, vb5, vb6, vb7, vb8, vb9, vb10, vz0, vz1, vy0, vx0, ↓reduceIte, Nat.reduceBEq, Nat.reduceEqDiff, Nat.reduceLT, Nat.reduceLeDiff, Nat.reduceAdd, Nat.reduceMul, Nat.reduceSub, reduceCtorEq, Int.reduceToNat]) | (refine Br.mk (fun h => ?_) (fun h => ?_)) | (refine BrN.mk (fun h => ?_) ?_) | (refine AltVC.mk ?_ ?_)
    · have e := leads_succ (m := m) (p := p) (w := w) (i := i) (by omega)
      exact loopK.mk (i + 1) (by simp (disch := (first | omega | (simp only [vlen]; first | done | omega))) only [↓va0, ↓va1, ↓va2, ↓va3, vb0, vb1, vb2, vb3, vb4, vb5, vb6, vb7, vb8, vb9, vb10, vz0, vz1, vy0, vx0, ↓reduceIte, Nat.reduceBEq, Nat.reduceEqDiff, Nat.reduceLT, Nat.reduceLeDiff, Nat.reduceAdd, Nat.reduceMul, Nat.reduceSub, reduceCtorEq, Int.reduceToNat]) (by omega) (by omega) (by (simp (disch := (first | omega | (simp only [vlen]; first | done | omega))) only [Fits_u, Fits_m, Fits_nil, List.length_append, ↓va0, ↓va1, ↓va2, ↓va3, vb0, vb1, vb2, vb3, vb4, vb5, vb6, vb7, vb8, vb9, vb10, vz0, vz1, vy0, vx0, ↓reduceIte, Nat.reduceBEq, Nat.reduceEqDiff, Nat.reduceLT, Nat.reduceLeDiff, Nat.reduceAdd, Nat.reduceMul, Nat.reduceSub, reduceCtorEq, Int.reduceToNat] <;> (repeat' first | rfl | apply And.intro)); exact viEq e.symm)
    · exact fin_mk rfl
set_option maxRecDepth 10000 in
set_option maxHeartbeats 4000000 in
theorem takes_spec (m : Dm.Machine) (hf : 0 ≤ m.final ∧ m.final ≤ 4294967295) (hv : VM m) (w : List Int) (hs : ∀ s, s ∈ w → 0 ≤ s ∧ s < m.k) (hw : w.length ≤ 100000) : Dm.Spec Try.prog 32 [.ag (macD m), .sl 1 (i64s w)] (· = .v (.bool (m.final.toNat.testBit (leads m m.start w).toNat))) := by
  refine spec_of_vc mixed Try.func32 c32 (by rw [show Try.f32.ntmps = _ from Try.ntmps32]; simp) ?_
  unfold m32 r32
  repeat' first | (refine Br.dec (fun h => ?_) (fun h => ?_) <;> try (exfalso; omega)) | (refine Br.eqi (fun h => ?_) (fun h => ?_) <;> try (exfalso; omega)) | (simp (disch := (first | omega | (simp only [vlen]; first | done | omega))) only [↓va0, ↓va1, ↓va2, ↓va3, vb0, vb1, vb2, vb3, vb4, vb5, vb6, vb7, vb8, vb9, vb10, vz0, vz1, vy0, vx0, ↓reduceIte, Nat.reduceBEq, Nat.reduceEqDiff, Nat.reduceLT, Nat.reduceLeDiff, Nat.reduceAdd, Nat.reduceMul, Nat.reduceSub, reduceCtorEq, Int.reduceToNat]) | (refine Br.mk (fun h => ?_) (fun h => ?_)) | (refine BrN.mk (fun h => ?_) ?_) | (refine AltVC.mk ?_ ?_)
  have hp := leads_ok (w := w) hv hv.start
  have hn := hv.n
  refine CallP.eq (leads_spec m hv m.start hv.start w hs hw) (by simp) ?_
  repeat' first | (refine Br.dec (fun h => ?_) (fun h => ?_) <;> try (exfalso; omega)) | (refine Br.eqi (fun h => ?_) (fun h => ?_) <;> try (exfalso; omega)) | (simp (disch := (first | omega | (simp only [vlen]; first | done | omega))) only [↓va0, ↓va1, ↓va2, ↓va3, vb0, vb1, vb2, vb3, vb4, vb5, vb6, vb7, vb8, vb9, vb10, vz0, vz1, vy0, vx0, ↓reduceIte, Nat.reduceBEq, Nat.reduceEqDiff, Nat.reduceLT, Nat.reduceLeDiff, Nat.reduceAdd, Nat.reduceMul, Nat.reduceSub, reduceCtorEq, Int.reduceToNat]) | (refine Br.mk (fun h => ?_) (fun h => ?_)) | (refine BrN.mk (fun h => ?_) ?_) | (refine AltVC.mk ?_ ?_)
  refine CallP.eq (bit_i _ _ hf (by omega)) (by simp) ?_
  repeat' first | (refine Br.dec (fun h => ?_) (fun h => ?_) <;> try (exfalso; omega)) | (refine Br.eqi (fun h => ?_) (fun h => ?_) <;> try (exfalso; omega)) | (simp (disch := (first | omega | (simp only [vlen]; first | done | omega))) only [↓va0, ↓va1, ↓va2, ↓va3, vb0, vb1, vb2, vb3, vb4, vb5, vb6, vb7, vb8, vb9, vb10, vz0, vz1, vy0, vx0, ↓reduceIte, Nat.reduceBEq, Nat.reduceEqDiff, Nat.reduceLT, Nat.reduceLeDiff, Nat.reduceAdd, Nat.reduceMul, Nat.reduceSub, reduceCtorEq, Int.reduceToNat]) | (refine Br.mk (fun h => ?_) (fun h => ?_)) | (refine BrN.mk (fun h => ?_) ?_) | (refine AltVC.mk ?_ ?_)
  exact fin_mk rfl
end Go.Proofs.Ytmhpfgklfpgniaa
