/-
  Machines: what is wrong with one; the law MachineChecks.
-/
import Derived.Test.YtjekkbpdgnohcaaLibF
import Derived.Test.YtjekkbpdgnohcaaBits
namespace Go.Proofs.Ytjekkbpdgnohcaa
open Go.Dm
set_option linter.unusedSimpArgs false
set_option linter.unnecessarySimpa false
set_option linter.unusedVariables false
theorem any_hit {α : Type} [Inhabited α] {p : α → Bool} {l : List α} {i : Nat} (hi : i < l.length) (h : p (l.getD i default) = true) : l.any p = true :=
  List.any_eq_true.2 ⟨_, getD_mem' hi, h⟩
theorem succ_all {p : Nat → Prop} {i : Nat} (h : ∀ j, j < i → p j) (hi : p i) : ∀ j, j < i + 1 → p j := fun j hj => by
  by_cases e : j = i
  · rw [e]; exact hi
  · exact h j (by omega)
structure VM (m : Dm.Machine) : Prop where
  n : 1 ≤ m.n ∧ m.n ≤ 7
  k : 1 ≤ m.k ∧ m.k ≤ 3
  len : (m.next.length : Int) = m.n
  row : ∀ l, l ∈ m.next → (l.length : Int) = m.k
  to : ∀ l, l ∈ m.next → ∀ x, x ∈ l → 0 ≤ x ∧ x < m.n
  start : 0 ≤ m.start ∧ m.start < m.n
  final : 0 ≤ m.final ∧ m.final.toNat < 2 ^ m.n.toNat
set_option maxRecDepth 10000 in
set_option maxHeartbeats 4000000 in
theorem within_spec (n lo hi : Int) : Dm.Spec Try.prog 67 [iv .i64 n, iv .i64 lo, iv .i64 hi] (· = .v (.bool (decide (lo ≤ n ∧ n ≤ hi)))) := by
  refine spec_of_vc mixed Try.func67 c67 (by rw [show Try.f67.ntmps = _ from Try.ntmps67]; simp) ?_
  unfold m67 r67
  repeat' first | ((first | refine Br.dec ?_ ?_ | refine Br.eqi ?_ ?_) <;> intro h <;> try (exfalso; omega)) | (simp (disch := (first | omega | (simp only [vlen]; first | done | omega))) only [↓vAq, vBq, ↓reduceIte, Nat.reduceBEq, Nat.reduceEqDiff, Nat.reduceLT, Nat.reduceLeDiff, Nat.reduceAdd, Nat.reduceMul, Nat.reduceSub, reduceCtorEq, Int.reduceToNat]) | (refine Br.mk ?_ ?_ <;> intro h) | (refine BrN.mk (fun h => ?_) ?_) | (refine AltVC.mk ?_ ?_)
  · exact fin_mk (vbEq (dec_iff (by omega)))
  · exact fin_mk (vbEq (decide_eq_false (by omega)).symm)
end Go.Proofs.Ytjekkbpdgnohcaa
