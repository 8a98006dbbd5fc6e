/-
  Numbers of trees: sums and products, as much as is kept.
-/
import Derived.Test.YtjekkbpdgnohcaaTrees
import Derived.Test.YtjekkbpdgnohcaaMakes
namespace Go.Proofs.Ytjekkbpdgnohcaa
open Go.Dm
set_option linter.unusedSimpArgs false
set_option linter.unnecessarySimpa false
set_option linter.unusedVariables false
set_option linter.defProp false
def tm (a b : Nat) : Nat := min (a * b) 1099511627777
def ad (a b : Nat) : Nat := min (a + b) 1099511627777
theorem quoN {b : Nat} : (1099511627777 : Int) / (b : Int) = ((1099511627777 / b : Nat) : Int) := by simp
theorem tm_big {a b : Nat} (hb : b ≠ 0) (h : 1099511627777 / b < a) : tm a b = 1099511627777 := by
  unfold tm
  have := (Nat.div_lt_iff_lt_mul (by omega)).mp h
  omega
theorem tm_small {a b : Nat} (hb : b ≠ 0) (h : ¬ 1099511627777 / b < a) : a * b ≤ 1099511627777 := (Nat.le_div_iff_mul_le (by omega)).mp (by omega)
set_option maxRecDepth 10000 in
set_option maxHeartbeats 4000000 in
theorem table.Times_spec (a b : Nat) (ha : a ≤ 1099511627777) (hb : b ≤ 1099511627777) : Dm.Spec Try.prog 64 [iv .i64 a, iv .i64 b] (· = iv .i64 (tm a b)) := by
  refine spec_of_vc mixed Try.func64 c64 (by rw [show Try.f64.ntmps = _ from Try.ntmps64]; simp) ?_
  unfold m64 r64
  by_cases hb0 : b = 0
  · subst hb0
    repeat' first | ((first | refine Br.dec ?_ ?_ | refine Br.eqi ?_ ?_) <;> intro h <;> try (exfalso; omega)) | (simp (disch := (first | omega | (simp only [vlen]; first | done | omega))) only [↓vAq, vBq, ↓reduceIte, Nat.reduceBEq, Nat.reduceEqDiff, Nat.reduceLT, Nat.reduceLeDiff, Nat.reduceAdd, Nat.reduceMul, Nat.reduceSub, reduceCtorEq, Int.reduceToNat]) | (refine Br.mk ?_ ?_ <;> intro h) | (refine BrN.mk (fun h => ?_) ?_) | (refine AltVC.mk ?_ ?_)
    all_goals exact fin_mk (by simp [tm])
  · have hq0 := @quoN b
    obtain ⟨q, hqd⟩ : ∃ q, 1099511627777 / b = q := ⟨_, rfl⟩
    have hql : q ≤ 1099511627777 := hqd ▸ Nat.div_le_self ..
    have hbig := @tm_big a b hb0
    have hsml := @tm_small a b hb0
    obtain ⟨m, hmd⟩ : ∃ m, a * b = m := ⟨_, rfl⟩
    have hmi : (a : Int) * (b : Int) = (m : Int) := by rw [← Int.natCast_mul, hmd]
    have htm : tm a b = min m 1099511627777 := by unfold tm; rw [hmd]
    rw [hqd] at hq0 hbig hsml
    rw [hmd] at hsml
    have hm0 : a = 0 → m = 0 := fun h => by rw [← hmd, h, Nat.zero_mul]
    by_cases h : q < a
    · have e := hbig h
      repeat' first | ((first | refine Br.dec ?_ ?_ | refine Br.eqi ?_ ?_) <;> intro h <;> try (exfalso; omega)) | (simp (disch := (first | omega | (simp only [vlen]; first | done | omega))) only [hq0, hmi, ↓vAq, vBq, ↓reduceIte, Nat.reduceBEq, Nat.reduceEqDiff, Nat.reduceLT, Nat.reduceLeDiff, Nat.reduceAdd, Nat.reduceMul, Nat.reduceSub, reduceCtorEq, Int.reduceToNat]) | (refine Br.mk ?_ ?_ <;> intro h) | (refine BrN.mk (fun h => ?_) ?_) | (refine AltVC.mk ?_ ?_)
      all_goals first
        | exact fin_mk (by rw [e]; rfl)
        | exact fin_mk (by rw [htm]; exact viEq (by omega))
    · have hs := hsml h
      repeat' first | ((first | refine Br.dec ?_ ?_ | refine Br.eqi ?_ ?_) <;> intro h <;> try (exfalso; omega)) | (simp (disch := (first | omega | (simp only [vlen]; first | done | omega))) only [hq0, hmi, ↓vAq, vBq, ↓reduceIte, Nat.reduceBEq, Nat.reduceEqDiff, Nat.reduceLT, Nat.reduceLeDiff, Nat.reduceAdd, Nat.reduceMul, Nat.reduceSub, reduceCtorEq, Int.reduceToNat]) | (refine Br.mk ?_ ?_ <;> intro h) | (refine BrN.mk (fun h => ?_) ?_) | (refine AltVC.mk ?_ ?_)
      all_goals exact fin_mk (by rw [htm]; exact viEq (by (try split) <;> omega))
set_option maxRecDepth 10000 in
set_option maxHeartbeats 4000000 in
theorem coppicerref.capped_spec (a b : Nat) (ha : a ≤ 1099511627777) (hb : b ≤ 1099511627777) : Dm.Spec Try.prog 51 [iv .i64 a, iv .i64 b] (· = iv .i64 (tm a b)) := by
  refine spec_of_vc mixed Try.func51 c51 (by rw [show Try.f51.ntmps = _ from Try.ntmps51]; simp) ?_
  unfold m51 r51
  by_cases hb0 : b = 0
  · subst hb0
    repeat' first | ((first | refine Br.dec ?_ ?_ | refine Br.eqi ?_ ?_) <;> intro h <;> try (exfalso; omega)) | (simp (disch := (first | omega | (simp only [vlen]; first | done | omega))) only [↓vAq, vBq, ↓reduceIte, Nat.reduceBEq, Nat.reduceEqDiff, Nat.reduceLT, Nat.reduceLeDiff, Nat.reduceAdd, Nat.reduceMul, Nat.reduceSub, reduceCtorEq, Int.reduceToNat]) | (refine Br.mk ?_ ?_ <;> intro h) | (refine BrN.mk (fun h => ?_) ?_) | (refine AltVC.mk ?_ ?_)
    all_goals exact fin_mk (by simp [tm])
  · have hq0 := @quoN b
    obtain ⟨q, hqd⟩ : ∃ q, 1099511627777 / b = q := ⟨_, rfl⟩
    have hql : q ≤ 1099511627777 := hqd ▸ Nat.div_le_self ..
    have hbig := @tm_big a b hb0
    have hsml := @tm_small a b hb0
    obtain ⟨m, hmd⟩ : ∃ m, a * b = m := ⟨_, rfl⟩
    have hmi : (a : Int) * (b : Int) = (m : Int) := by rw [← Int.natCast_mul, hmd]
    have htm : tm a b = min m 1099511627777 := by unfold tm; rw [hmd]
    rw [hqd] at hq0 hbig hsml
    rw [hmd] at hsml
    have hm0 : a = 0 → m = 0 := fun h => by rw [← hmd, h, Nat.zero_mul]
    by_cases h : q < a
    · have e := hbig h
      repeat' first | ((first | refine Br.dec ?_ ?_ | refine Br.eqi ?_ ?_) <;> intro h <;> try (exfalso; omega)) | (simp (disch := (first | omega | (simp only [vlen]; first | done | omega))) only [hq0, hmi, ↓vAq, vBq, ↓reduceIte, Nat.reduceBEq, Nat.reduceEqDiff, Nat.reduceLT, Nat.reduceLeDiff, Nat.reduceAdd, Nat.reduceMul, Nat.reduceSub, reduceCtorEq, Int.reduceToNat]) | (refine Br.mk ?_ ?_ <;> intro h) | (refine BrN.mk (fun h => ?_) ?_) | (refine AltVC.mk ?_ ?_)
      all_goals first
        | exact fin_mk (by rw [e]; rfl)
        | exact fin_mk (by rw [htm]; exact viEq (by omega))
    · have hs := hsml h
      repeat' first | ((first | refine Br.dec ?_ ?_ | refine Br.eqi ?_ ?_) <;> intro h <;> try (exfalso; omega)) | (simp (disch := (first | omega | (simp only [vlen]; first | done | omega))) only [hq0, hmi, ↓vAq, vBq, ↓reduceIte, Nat.reduceBEq, Nat.reduceEqDiff, Nat.reduceLT, Nat.reduceLeDiff, Nat.reduceAdd, Nat.reduceMul, Nat.reduceSub, reduceCtorEq, Int.reduceToNat]) | (refine Br.mk ?_ ?_ <;> intro h) | (refine BrN.mk (fun h => ?_) ?_) | (refine AltVC.mk ?_ ?_)
      all_goals exact fin_mk (by rw [htm]; exact viEq (by (try split) <;> omega))
set_option maxRecDepth 10000 in
set_option maxHeartbeats 4000000 in
theorem add_spec (a b : Nat) (ha : a ≤ 1099511627777) (hb : b ≤ 1099511627777) : Dm.Spec Try.prog 61 [iv .i64 a, iv .i64 b] (· = iv .i64 (ad a b)) := by
  refine spec_of_vc mixed Try.func61 c61 (by rw [show Try.f61.ntmps = _ from Try.ntmps61]; simp) ?_
  unfold m61 r61
  unfold ad
  repeat' first | ((first | refine Br.dec ?_ ?_ | refine Br.eqi ?_ ?_) <;> intro h <;> try (exfalso; omega)) | (simp (disch := (first | omega | (simp only [vlen]; first | done | omega))) only [↓vAq, vBq, ↓reduceIte, Nat.reduceBEq, Nat.reduceEqDiff, Nat.reduceLT, Nat.reduceLeDiff, Nat.reduceAdd, Nat.reduceMul, Nat.reduceSub, reduceCtorEq, Int.reduceToNat]) | (refine Br.mk ?_ ?_ <;> intro h) | (refine BrN.mk (fun h => ?_) ?_) | (refine AltVC.mk ?_ ?_)
  exact fin_mk (viEq (by (try split) <;> omega))
theorem times_cp (a b : Nat) : Dm.Spec Try.prog 64 [iv .i64 (cp a), iv .i64 (cp b)] (· = iv .i64 (cp (a * b))) := by
  have h := table.Times_spec (cp a) (cp b) cp_le cp_le
  rwa [show tm (cp a) (cp b) = cp (a * b) from cp_mul] at h
theorem capped_cp (a b : Nat) : Dm.Spec Try.prog 51 [iv .i64 (cp a), iv .i64 (cp b)] (· = iv .i64 (cp (a * b))) := by
  have h := coppicerref.capped_spec (cp a) (cp b) cp_le cp_le
  rwa [show tm (cp a) (cp b) = cp (a * b) from cp_mul] at h
theorem add_cp (a b : Nat) : Dm.Spec Try.prog 61 [iv .i64 (cp a), iv .i64 (cp b)] (· = iv .i64 (cp (a + b))) := by
  have h := add_spec (cp a) (cp b) cp_le cp_le
  rwa [show ad (cp a) (cp b) = cp (a + b) from cp_add] at h
end Go.Proofs.Ytjekkbpdgnohcaa
