/-
  net.Check, for all nets.
-/
import Derived.Test.YtmhpfgklfpgniaaBytes
import Derived.Test.YtmhpfgklfpgniaaDmX
namespace Go.Proofs.Ytmhpfgklfpgniaa
open Go.Dm
set_option linter.unusedSimpArgs false
set_option linter.unnecessarySimpa false
set_option linter.unusedVariables false

def badArc (n : Net) (a : Arc) : Prop := a.fr < 0 ∨ n.n ≤ a.fr ∨ a.to < 0 ∨ n.n ≤ a.to ∨ a.sym < -1 ∨ n.k ≤ a.sym
instance (n : Net) (a : Arc) : Decidable (badArc n a) := by unfold badArc; infer_instance
def netLarge (n : Net) : Prop := n.n < 1 ∨ 7 < n.n ∨ n.k < 1 ∨ 3 < n.k ∨ 60 < n.arcs.length
instance (n : Net) : Decidable (netLarge n) := by unfold netLarge; infer_instance
def netCode (n : Net) : Int :=
  if netLarge n then 1 else if ∃ a, a ∈ n.arcs ∧ badArc n a then 2 else if 2 ^ n.n.toNat ≤ n.start ∨ 2 ^ n.n.toNat ≤ n.final then 4 else 0

theorem netCode_arc {n : Net} {i : Nat} (h0 : ¬ netLarge n) (hi : i < n.arcs.length) (h : badArc n (n.arcs.getD i default)) : netCode n = 2 := by
  unfold netCode
  rw [if_neg h0, if_pos ⟨_, getD_mem' hi, h⟩]
theorem netCode_rest {n : Net} (h0 : ¬ netLarge n) (h : ∀ i, i < n.arcs.length → ¬ badArc n (n.arcs.getD i default)) : netCode n = if 2 ^ n.n.toNat ≤ n.start ∨ 2 ^ n.n.toNat ≤ n.final then 4 else 0 := by
  unfold netCode
  rw [if_neg h0, if_neg]
  rintro ⟨a, ha, hb⟩
  obtain ⟨i, hi, rfl⟩ := mem_getD ha
  exact h i hi hb

set_option maxHeartbeats 1000000 in
theorem refNetCheck_vc (n : Net) (hn : n.ok) : vc Try.prog m27 [.f (finQ r27 (· = .v (.int .i64 (netCode n))))] (S.init [.ag (netD n)]) := by
  have hl := maxLen_le hn.2.2.1.1
  unfold m27 r27
  repeat' first | (refine Br.dec (fun h => ?_) (fun h => ?_) <;> try (exfalso; omega)) | (refine Br.eqi (fun h => ?_) (fun h => ?_) <;> try (exfalso; omega)) | (simp (disch := (first | omega | (simp only [vlen]; first | done | omega))) only [↓va0, ↓va1, ↓va2, ↓va3, vb0, vb1, vb2, vb3, vb4, vb5, vb6, vb7, vb8, vb9, vb10, vz0, vz1, vy0, vx0, ↓reduceIte, Nat.reduceBEq, Nat.reduceEqDiff, Nat.reduceLT, Nat.reduceLeDiff, Nat.reduceAdd, Nat.reduceMul, Nat.reduceSub, reduceCtorEq, Int.reduceToNat]) | (refine Br.mk (fun h => ?_) (fun h => ?_)) | (refine BrN.mk (fun h => ?_) ?_) | (refine AltVC.mk ?_ ?_)
  iterate 5 (refine fin_mk (viEq ?_); rw [netCode, if_pos (by unfold netLarge; omega)])
  have h0 : ¬ netLarge n := by unfold netLarge; omega
  refine LoopVC.mk (X := Nat) (fun i => [(32, iv .i64 i)]) (fun _ => [(0, ⟨5, [netD n], true, false, .fix⟩)]) (fun i => n.arcs.length - i) (fun i => i ≤ n.arcs.length ∧ ∀ j, j < i → ¬ badArc n (n.arcs.getD j default)) 0 ⟨by omega, by omega⟩ ?_ ?_
  · simp (disch := omega) only [Fits_u, Fits_m, Fits_nil, ↓va0, ↓va1, ↓va2, ↓va3, vb0, vb1, vb2, vb3, vb4, vb5, vb6, vb7, vb8, vb9, vb10, vz0, vz1, vy0, vx0, ↓reduceIte, Nat.reduceBEq, Nat.reduceEqDiff, Nat.reduceLT, Nat.reduceLeDiff, Nat.reduceAdd, Nat.reduceMul, Nat.reduceSub, reduceCtorEq, Int.reduceToNat]
  · rintro i ⟨hi, hb⟩
    repeat' first | (refine Br.dec (fun h => ?_) (fun h => ?_) <;> try (exfalso; omega)) | (refine Br.eqi (fun h => ?_) (fun h => ?_) <;> try (exfalso; omega)) | (simp (disch := (first | omega | (simp only [vlen]; first | done | omega))) only [↓va0, ↓va1, ↓va2, ↓va3, vb0, vb1, vb2, vb3, vb4, vb5, vb6, vb7, vb8, vb9, vb10, vz0, vz1, vy0, vx0, ↓reduceIte, Nat.reduceBEq, Nat.reduceEqDiff, Nat.reduceLT, Nat.reduceLeDiff, Nat.reduceAdd, Nat.reduceMul, Nat.reduceSub, reduceCtorEq, Int.reduceToNat]) | (refine Br.mk (fun h => ?_) (fun h => ?_)) | (refine BrN.mk (fun h => ?_) ?_) | (refine AltVC.mk ?_ ?_)
    iterate 6 (refine fin_mk (viEq ?_); rw [netCode_arc (i := i) h0 (by omega) (by unfold badArc; omega)])
    · refine loopK.mk (i + 1) (by simp (disch := (first | omega | (simp only [vlen]; first | done | omega))) only [↓va0, ↓va1, ↓va2, ↓va3, vb0, vb1, vb2, vb3, vb4, vb5, vb6, vb7, vb8, vb9, vb10, vz0, vz1, vy0, vx0, ↓reduceIte, Nat.reduceBEq, Nat.reduceEqDiff, Nat.reduceLT, Nat.reduceLeDiff, Nat.reduceAdd, Nat.reduceMul, Nat.reduceSub, reduceCtorEq, Int.reduceToNat]) ⟨by omega, ?_⟩ (by omega) ?_
      · exact all_take_succ (p := fun a => ¬ badArc n a) hb (by show ¬ badArc n _; unfold badArc; omega)
      · (simp (disch := (first | omega | (simp only [vlen]; first | done | omega))) only [Fits_u, Fits_m, Fits_nil, List.length_append, ↓va0, ↓va1, ↓va2, ↓va3, vb0, vb1, vb2, vb3, vb4, vb5, vb6, vb7, vb8, vb9, vb10, vz0, vz1, vy0, vx0, ↓reduceIte, Nat.reduceBEq, Nat.reduceEqDiff, Nat.reduceLT, Nat.reduceLeDiff, Nat.reduceAdd, Nat.reduceMul, Nat.reduceSub, reduceCtorEq, Int.reduceToNat] <;> (repeat' first | rfl | apply And.intro))
    all_goals
      rw [shl32_1 (by omega)] at *
      have e0 : n.arcs.length = i := by omega
      have e2 : (2 : Int) ^ n.n.toNat = ((2 ^ n.n.toNat : Nat) : Int) := by simp
      refine fin_mk (viEq ?_)
      rw [netCode_rest h0 (by rw [e0]; exact hb), e2]
      generalize 2 ^ n.n.toNat = p at *
    · rw [if_pos (by omega)]
    · rw [if_pos (by omega)]
    · rw [if_neg (by omega)]
theorem refNetCheck_spec (n : Net) (hn : n.ok) : Dm.Spec Try.prog 27 [.ag (netD n)] (· = .v (.int .i64 (netCode n))) :=
  spec_of_vc mixed Try.func27 c27 (by rw [show Try.f27.ntmps = _ from Try.ntmps27]; simp) (refNetCheck_vc n hn)
end Go.Proofs.Ytmhpfgklfpgniaa
