/-
  lyndon.Is: low words; the law LyndonIs.
-/
import Derived.Test.YtdcdldfleeilnaaWords
import Derived.Test.YtdcdldfleeilnaaCompare
import Derived.Test.YtdcdldfleeilnaaEdit
namespace Go.Proofs.Ytdcdldfleeilnaa
open Go.Dm
set_option linter.unusedSimpArgs false
set_option linter.unnecessarySimpa false
set_option linter.unusedVariables false

theorem bcmp_step {a b : List UInt8} {i : Nat} (ha : i < a.length) (hb : i < b.length) (h : a.getD i 0 = b.getD i 0) : bcmp (a.drop i) (b.drop i) = bcmp (a.drop (i + 1)) (b.drop (i + 1)) := by
  rw [drop_cons' ha, drop_cons' hb, bcmp, if_pos h]
theorem bcmp_diff {a b : List UInt8} {i : Nat} (ha : i < a.length) (hb : i < b.length) (h : ¬ a.getD i 0 = b.getD i 0) : bcmp (a.drop i) (b.drop i) = if a.getD i 0 < b.getD i 0 then -1 else 1 := by
  rw [drop_cons' ha, drop_cons' hb, bcmp, if_neg h]
theorem bcmp_end {a b : List UInt8} {i : Nat} (ha : i ≤ a.length) (hb : i ≤ b.length) (h : i = a.length ∨ i = b.length) : bcmp (a.drop i) (b.drop i) < 0 ↔ a.length < b.length := by
  by_cases e1 : i = a.length
  · by_cases e2 : i = b.length
    · rw [List.drop_of_length_le (by omega), List.drop_of_length_le (by omega)]; simp [bcmp]; omega
    · rw [List.drop_of_length_le (by omega), drop_cons' (l := b) (by omega)]; simp [bcmp]; omega
  · rw [List.drop_of_length_le (l := b) (by omega), drop_cons' (l := a) (by omega)]; simp [bcmp]; omega

set_option maxRecDepth 10000 in
set_option maxHeartbeats 2000000 in
theorem less_vc (a b : List UInt8) (ha : a.length ≤ 1099511627776) : vc Try.prog m23 [.f (finQ r23 (· = .v (.bool (decide (bcmp a b < 0)))))] (S.init [.sl 1 (u8s a), .sl 1 (u8s b)]) := by
  unfold m23 r23
  repeat' first | (refine Br.dec (fun h => ?_) (fun h => ?_) <;> try (exfalso; omega)) | (refine Br.eqi (fun h => ?_) (fun h => ?_) <;> try (exfalso; omega)) | (simp (disch := (first | omega | (simp only [vlen]; first | done | omega))) only [↓va0, ↓va1, ↓va2, ↓va3, vb0, vb1, vb2, vb3, vb4, vb5, vb6, vb7, vb8, vb9, vb10, vz0, vz1, vy0, vx0, ↓reduceIte, Nat.reduceBEq, Nat.reduceEqDiff, Nat.reduceLT, Nat.reduceLeDiff, Nat.reduceAdd, Nat.reduceMul, Nat.reduceSub, reduceCtorEq, Int.reduceToNat]) | (refine Br.mk (fun h => ?_) (fun h => ?_)) | (refine BrN.mk (fun h => ?_) ?_) | (refine AltVC.mk ?_ ?_)
  refine LoopVC.mk (X := Nat) (fun i => [(5, iv .i64 i)]) (fun _ => []) (fun i => a.length - i) (fun i => i ≤ a.length ∧ i ≤ b.length ∧ bcmp a b = bcmp (a.drop i) (b.drop i)) 0 ⟨by omega, by omega, by simp⟩ ?_ ?_
  · (simp (disch := (first | omega | (simp only [vlen]; first | done | omega))) only [Fits_u, Fits_m, Fits_nil, List.length_append, ↓va0, ↓va1, ↓va2, ↓va3, vb0, vb1, vb2, vb3, vb4, vb5, vb6, vb7, vb8, vb9, vb10, vz0, vz1, vy0, vx0, ↓reduceIte, Nat.reduceBEq, Nat.reduceEqDiff, Nat.reduceLT, Nat.reduceLeDiff, Nat.reduceAdd, Nat.reduceMul, Nat.reduceSub, reduceCtorEq, Int.reduceToNat] <;> (repeat' first | rfl | apply And.intro))
  · rintro i ⟨h1, h2, h3⟩
    repeat' first | (refine Br.dec (fun h => ?_) (fun h => ?_) <;> try (exfalso; omega)) | (refine Br.eqi (fun h => ?_) (fun h => ?_) <;> try (exfalso; omega)) | (simp (disch := (first | omega | (simp only [vlen]; first | done | omega))) only [↓va0, ↓va1, ↓va2, ↓va3, vb0, vb1, vb2, vb3, vb4, vb5, vb6, vb7, vb8, vb9, vb10, vz0, vz1, vy0, vx0, ↓reduceIte, Nat.reduceBEq, Nat.reduceEqDiff, Nat.reduceLT, Nat.reduceLeDiff, Nat.reduceAdd, Nat.reduceMul, Nat.reduceSub, reduceCtorEq, Int.reduceToNat]) | (refine Br.mk (fun h => ?_) (fun h => ?_)) | (refine BrN.mk (fun h => ?_) ?_) | (refine AltVC.mk ?_ ?_)
    · exact loopK.mk (i + 1) (by simp (disch := (first | omega | (simp only [vlen]; first | done | omega))) only [↓va0, ↓va1, ↓va2, ↓va3, vb0, vb1, vb2, vb3, vb4, vb5, vb6, vb7, vb8, vb9, vb10, vz0, vz1, vy0, vx0, ↓reduceIte, Nat.reduceBEq, Nat.reduceEqDiff, Nat.reduceLT, Nat.reduceLeDiff, Nat.reduceAdd, Nat.reduceMul, Nat.reduceSub, reduceCtorEq, Int.reduceToNat]) ⟨by omega, by omega, by rw [h3, bcmp_step (by omega) (by omega) (u8_inj (by assumption))]⟩ (by omega) (by (simp (disch := (first | omega | (simp only [vlen]; first | done | omega))) only [Fits_u, Fits_m, Fits_nil, List.length_append, ↓va0, ↓va1, ↓va2, ↓va3, vb0, vb1, vb2, vb3, vb4, vb5, vb6, vb7, vb8, vb9, vb10, vz0, vz1, vy0, vx0, ↓reduceIte, Nat.reduceBEq, Nat.reduceEqDiff, Nat.reduceLT, Nat.reduceLeDiff, Nat.reduceAdd, Nat.reduceMul, Nat.reduceSub, reduceCtorEq, Int.reduceToNat] <;> (repeat' first | rfl | apply And.intro)))
    · refine fin_mk (vbEq ?_)
      rw [h3, bcmp_diff (by omega) (by omega) (u8_ne (by assumption))]
      by_cases e : a.getD i 0 < b.getD i 0
      · rw [if_pos e, decide_eq_true (by have := UInt8.lt_iff_toNat_lt.1 e; omega)]; rfl
      · rw [if_neg e, decide_eq_false (fun e2 => e (UInt8.lt_iff_toNat_lt.2 (by omega)))]; rfl
    · refine fin_mk (vbEq ?_)
      rw [h3]
      congr 1
      exact propext ⟨fun e => (bcmp_end h1 h2 (by omega)).2 (by omega), fun e => by have := (bcmp_end h1 h2 (by omega)).1 e; omega⟩
    · refine fin_mk (vbEq ?_)
      rw [h3]
      congr 1
      exact propext ⟨fun e => (bcmp_end h1 h2 (by omega)).2 (by omega), fun e => by have := (bcmp_end h1 h2 (by omega)).1 e; omega⟩
theorem less_spec (a b : List UInt8) (ha : a.length ≤ 1099511627776) : Dm.Spec Try.prog 23 [.sl 1 (u8s a), .sl 1 (u8s b)] (· = .v (.bool (decide (bcmp a b < 0)))) :=
  spec_of_vc mixed Try.func23 c23 (by rw [show Try.f23.ntmps = _ from Try.ntmps23]; simp) (less_vc a b ha)

def isLyn (w : List UInt8) : Prop := (∀ i, i < w.length → 1 ≤ i → bcmp w (w.drop i) < 0) ∧ 0 < w.length
instance (w : List UInt8) : Decidable (isLyn w) := by unfold isLyn; infer_instance
theorem isLyn_no {w : List UInt8} {i : Nat} (h : i < w.length) (h1 : 1 ≤ i) (h2 : ¬ bcmp w (w.drop i) < 0) : decide (isLyn w) = false := by
  rw [decide_eq_false]
  exact fun h3 => h2 (h3.1 i h h1)
theorem isLyn_yes {w : List UInt8} {i : Nat} (h : w.length ≤ i) (h2 : ∀ j, j < i → 1 ≤ j → bcmp w (w.drop j) < 0) : decide (isLyn w) = decide (0 < (w.length : Int)) := by
  unfold isLyn
  congr 1
  apply propext
  constructor
  · rintro ⟨_, h3⟩; omega
  · intro h3; exact ⟨fun j hj h1 => h2 j (by omega) h1, by omega⟩

end Go.Proofs.Ytdcdldfleeilnaa
