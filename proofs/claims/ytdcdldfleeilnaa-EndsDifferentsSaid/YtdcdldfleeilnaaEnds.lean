/-
  ends.Count: how often a word occurs; the law EndsCounts.
-/
import Derived.Test.YtdcdldfleeilnaaWords
import Derived.Test.YtdcdldfleeilnaaEqual
namespace Go.Proofs.Ytdcdldfleeilnaa
open Go.Dm
set_option linter.unusedSimpArgs false
set_option linter.unnecessarySimpa false
set_option linter.unusedVariables false

/-- Does u begin in w at i? -/
def occ (w u : List UInt8) (i : Nat) : Prop := i + u.length ≤ w.length ∧ (w.drop i).take u.length = u
instance (w u : List UInt8) (i : Nat) : Decidable (occ w u i) := by unfold occ; infer_instance
/-- The places below k. -/
def plc (w u : List UInt8) (k : Nat) : List Int := ((List.range k).filter fun i : Nat => decide (occ w u i)).map fun i : Nat => (i : Int)
theorem plc_succ {w u : List UInt8} {k : Nat} : plc w u (k + 1) = plc w u k ++ if occ w u k then [(k : Int)] else [] := by
  unfold plc
  rw [List.range_succ, List.filter_append, List.map_append]
  by_cases h : occ w u k <;> simp [h]
theorem plc_len {w u : List UInt8} {k : Nat} : (plc w u k).length ≤ k := by
  unfold plc
  rw [List.length_map]
  exact Nat.le_trans (List.length_filter_le _ _) (by simp)
theorem plc_ext {w u : List UInt8} {i : Nat} : ∀ {k : Nat}, i ≤ k → (∀ j, i ≤ j → ¬ occ w u j) → plc w u k = plc w u i
  | 0, h, _ => by rw [show i = 0 by omega]
  | k + 1, h, hn => by
      by_cases e : i = k + 1
      · rw [e]
      · rw [plc_succ, if_neg (hn k (by omega)), List.append_nil]
        exact plc_ext (by omega) hn

theorem occ_pre {w u : List UInt8} {i : Nat} (h : i ≤ w.length) : decide (u.length ≤ (w.drop i).length ∧ (w.drop i).take u.length = u) = decide (occ w u i) := by
  congr 1
  rw [List.length_drop]
  exact propext ⟨fun e => ⟨by omega, e.2⟩, fun e => ⟨by have := e.1; omega, e.2⟩⟩

set_option maxRecDepth 10000 in
set_option maxHeartbeats 2000000 in
theorem at_vc (w u : List UInt8) (i : Nat) (hw : w.length ≤ 60 ∧ u.length ≤ 60) (hi : i ≤ 1000) : vc Try.prog m25 [.f (finQ r25 (· = .v (.bool (decide (occ w u i)))))] (S.init [.sl 1 (u8s w), .sl 1 (u8s u), .v (.int .i64 i)]) := by
  unfold m25 r25
  repeat' first | (refine Br.dec (fun h => ?_) (fun h => ?_) <;> try (exfalso; omega)) | (refine Br.eqi (fun h => ?_) (fun h => ?_) <;> try (exfalso; omega)) | (simp (disch := (first | omega | (simp only [vlen]; first | done | omega))) only [↓va0, ↓va1, ↓va2, ↓va3, vb0, vb1, vb2, vb3, vb4, vb5, vb6, vb7, vb8, vb9, vb10, vz0, vz1, vy0, vx0, ↓reduceIte, Nat.reduceBEq, Nat.reduceEqDiff, Nat.reduceLT, Nat.reduceLeDiff, Nat.reduceAdd, Nat.reduceMul, Nat.reduceSub, reduceCtorEq, Int.reduceToNat]) | (refine Br.mk (fun h => ?_) (fun h => ?_)) | (refine BrN.mk (fun h => ?_) ?_) | (refine AltVC.mk ?_ ?_)
  · refine CallVC.eq (bytes_spec _ _ (by simp; omega)) ?_
    repeat' first | (refine Br.dec (fun h => ?_) (fun h => ?_) <;> try (exfalso; omega)) | (refine Br.eqi (fun h => ?_) (fun h => ?_) <;> try (exfalso; omega)) | (simp (disch := (first | omega | (simp only [vlen]; first | done | omega))) only [↓va0, ↓va1, ↓va2, ↓va3, vb0, vb1, vb2, vb3, vb4, vb5, vb6, vb7, vb8, vb9, vb10, vz0, vz1, vy0, vx0, ↓reduceIte, Nat.reduceBEq, Nat.reduceEqDiff, Nat.reduceLT, Nat.reduceLeDiff, Nat.reduceAdd, Nat.reduceMul, Nat.reduceSub, reduceCtorEq, Int.reduceToNat]) | (refine Br.mk (fun h => ?_) (fun h => ?_)) | (refine BrN.mk (fun h => ?_) ?_) | (refine AltVC.mk ?_ ?_)
    refine fin_mk (vbEq ?_)
    rw [List.drop_take, Nat.add_sub_cancel_left]
    congr 1
    exact propext ⟨fun e => ⟨by omega, e⟩, fun e => e.2⟩
  · refine fin_mk (vbEq ?_)
    rw [decide_eq_false (fun e => by have := e.1; omega)]
theorem at_spec (w u : List UInt8) (i : Nat) (hw : w.length ≤ 60 ∧ u.length ≤ 60) (hi : i ≤ 1000) : Dm.Spec Try.prog 25 [.sl 1 (u8s w), .sl 1 (u8s u), .v (.int .i64 i)] (· = .v (.bool (decide (occ w u i)))) :=
  spec_of_vc mixed Try.func25 c25 (by rw [show Try.f25.ntmps = _ from Try.ntmps25]; simp) (at_vc w u i hw hi)
end Go.Proofs.Ytdcdldfleeilnaa
