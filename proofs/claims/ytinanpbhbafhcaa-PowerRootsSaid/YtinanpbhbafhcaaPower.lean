/-
  power.Period, power.Periods; the laws PowerIs and PowerAlls.
-/
import Derived.Test.YtinanpbhbafhcaaWords
import Derived.Test.YtinanpbhbafhcaaEqual
namespace Go.Proofs.Ytinanpbhbafhcaa
open Go.Dm
set_option linter.unusedSimpArgs false
set_option linter.unusedVariables false

def isPer (w : List UInt8) (p : Int) : Prop := 1 ≤ p ∧ p ≤ w.length ∧ w.drop p.toNat = w.take (w.length - p.toNat)
instance (w : List UInt8) (p : Int) : Decidable (isPer w p) := by unfold isPer; infer_instance
theorem isPer_iff {w : List UInt8} {p : Nat} (h1 : 1 ≤ p) (h2 : p ≤ w.length) : isPer w p ↔ ∀ i, i + p < w.length → w.getD i 0 = w.getD (i + p) 0 := by
  unfold isPer
  rw [Int.toNat_natCast]
  constructor
  · rintro ⟨_, _, h⟩ i hi
    have e1 : (w.drop p).getD i 0 = w.getD (i + p) 0 := by simp [List.getD, Nat.add_comm]
    have e2 : (w.take (w.length - p)).getD i 0 = w.getD i 0 := by simp [List.getD, List.getElem?_take, show i < w.length - p by omega, show i < w.length by omega]
    rw [← e1, ← e2, h]
  · intro h
    refine ⟨by omega, by omega, ?_⟩
    apply List.ext_getElem
    · simp
    · intro i h3 h4
      have h5 : i + p < w.length := by simp at h3; omega
      have := h i h5
      simp only [List.getElem_drop, List.getElem_take]
      simp only [List.getD, List.getElem?_eq_getElem h5, List.getElem?_eq_getElem (show i < w.length by omega), Option.getD_some] at this
      rw [this]
      congr 1
      omega

set_option maxRecDepth 10000 in
set_option maxHeartbeats 2000000 in
theorem per_vc (w : List UInt8) (p : Int) (hw : w.length ≤ 60) (hp : ok64 p) : vc Try.prog m33 [.f (finQ r33 (· = .v (.bool (decide (isPer w p)))))] (S.init [.sl 1 (u8s w), .v (.int .i64 p)]) := by
  unfold m33 r33
  have hp' : -9223372036854775808 ≤ p ∧ p ≤ 9223372036854775807 := hp
  repeat' first | (refine Br.dec (fun h => ?_) (fun h => ?_) <;> try (exfalso; omega)) | (refine Br.eqi (fun h => ?_) (fun h => ?_) <;> try (exfalso; omega)) | (simp (disch := (first | omega | (simp only [List.length_cons, List.length_nil, List.length_append, List.length_map, List.length_replicate, List.length_take, List.length_drop, List.length_set, tab_length, tabD_len, i64s_len, bls_len, u8s_len, tbl_len, rows_len]; first | done | omega))) only [↓va0, ↓va1, ↓va2, vb0, vb1, vb2, vb3, vb4, vb5, vb6, vb7, vb8, vb9, vz0, vz1, vy0, vx0, ↓reduceIte, Nat.reduceBEq, Nat.reduceEqDiff, Nat.reduceLT, Nat.reduceLeDiff, Nat.reduceAdd, Nat.reduceMul, Nat.reduceSub, reduceCtorEq, Int.reduceToNat]) | (refine Br.mk (fun h => ?_) (fun h => ?_)) | (refine BrN.mk (fun h => ?_) ?_)
  · refine CallVC.eq (equal_spec _ _) ?_
    repeat' first | (refine Br.dec (fun h => ?_) (fun h => ?_) <;> try (exfalso; omega)) | (refine Br.eqi (fun h => ?_) (fun h => ?_) <;> try (exfalso; omega)) | (simp (disch := (first | omega | (simp only [List.length_cons, List.length_nil, List.length_append, List.length_map, List.length_replicate, List.length_take, List.length_drop, List.length_set, tab_length, tabD_len, i64s_len, bls_len, u8s_len, tbl_len, rows_len]; first | done | omega))) only [↓va0, ↓va1, ↓va2, vb0, vb1, vb2, vb3, vb4, vb5, vb6, vb7, vb8, vb9, vz0, vz1, vy0, vx0, ↓reduceIte, Nat.reduceBEq, Nat.reduceEqDiff, Nat.reduceLT, Nat.reduceLeDiff, Nat.reduceAdd, Nat.reduceMul, Nat.reduceSub, reduceCtorEq, Int.reduceToNat]) | (refine Br.mk (fun h => ?_) (fun h => ?_)) | (refine BrN.mk (fun h => ?_) ?_)
    refine fin_mk (vbEq ?_)
    have e : ((w.length : Int) - p).toNat = w.length - p.toNat := by omega
    rw [e]
    congr 1
    exact propext ⟨fun e => ⟨by omega, by omega, e⟩, fun e => e.2.2⟩
  · refine fin_mk (vbEq ?_)
    rw [decide_eq_false (fun h => by have := h.2.1; omega)]
  · refine fin_mk (vbEq ?_)
    rw [decide_eq_false (fun h => by have := h.1; omega)]
theorem per_spec (w : List UInt8) (p : Int) (hw : w.length ≤ 60) (hp : ok64 p) : Dm.Spec Try.prog 33 [.sl 1 (u8s w), .v (.int .i64 p)] (· = .v (.bool (decide (isPer w p)))) :=
  spec_of_vc mixed Try.func33 c33 (by rw [show Try.f33.ntmps = _ from Try.ntmps33]; simp) (per_vc w p hw hp)
/-- The periods below k. -/
def pers (w : List UInt8) (k : Nat) : List Int := ((List.range k).filter fun p : Nat => decide (isPer w (p : Int))).map fun p : Nat => (p : Int)
theorem pers_succ {w : List UInt8} {k : Nat} : pers w (k + 1) = pers w k ++ if isPer w k then [(k : Int)] else [] := by
  unfold pers
  rw [List.range_succ, List.filter_append, List.map_append]
  by_cases h : isPer w k <;> simp [h]
theorem pers_len {w : List UInt8} {k : Nat} : (pers w k).length ≤ k := by
  unfold pers
  rw [List.length_map]
  exact Nat.le_trans (List.length_filter_le _ _) (by simp)
theorem pers_one {w : List UInt8} : pers w 1 = [] := by
  rw [pers_succ, if_neg (fun h => by have := h.1; omega)]
  rfl
end Go.Proofs.Ytinanpbhbafhcaa
