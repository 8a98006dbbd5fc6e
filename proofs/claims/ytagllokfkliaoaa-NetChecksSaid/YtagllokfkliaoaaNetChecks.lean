/-
  The law NetChecks answers true.
-/
import Derived.Test.YtagllokfkliaoaaNet
namespace Go.Proofs.Ytagllokfkliaoaa
open Go.Dm
set_option linter.unusedSimpArgs false
theorem netChecks_vc (n : Net) (hn : n.ok) : vc Try.prog m4 [.f (finQ r4 (· = .v (.bool true)))] (S.init [.ag (netD n)]) := by
  unfold m4 r4
  simp (disch := omega) only [↓va0, ↓va1, ↓va2, vb0, vb1, vb2, vb3, vb4, vb5, vb6, vb7, vb8, vz0, vz1, vy0, vx0, ↓reduceIte, Nat.reduceBEq, Nat.reduceEqDiff, Nat.reduceLT, Nat.reduceLeDiff, Nat.reduceAdd, Nat.reduceMul, Nat.reduceSub, reduceCtorEq, Int.reduceToNat]
  refine CallP.eq (netCheck_spec n hn) nofun ?_
  simp (disch := omega) only [↓va0, ↓va1, ↓va2, vb0, vb1, vb2, vb3, vb4, vb5, vb6, vb7, vb8, vz0, vz1, vy0, vx0, ↓reduceIte, Nat.reduceBEq, Nat.reduceEqDiff, Nat.reduceLT, Nat.reduceLeDiff, Nat.reduceAdd, Nat.reduceMul, Nat.reduceSub, reduceCtorEq, Int.reduceToNat]
  refine CallP.eq (refNetCheck_spec n hn) nofun ?_
  simp (disch := omega) only [↓va0, ↓va1, ↓va2, vb0, vb1, vb2, vb3, vb4, vb5, vb6, vb7, vb8, vz0, vz1, vy0, vx0, ↓reduceIte, Nat.reduceBEq, Nat.reduceEqDiff, Nat.reduceLT, Nat.reduceLeDiff, Nat.reduceAdd, Nat.reduceMul, Nat.reduceSub, reduceCtorEq, Int.reduceToNat]
  exact fin_mk rfl
theorem netChecks_spec (n : Net) (hn : n.ok) : Dm.Spec Try.prog 4 [.ag (netD n)] (· = .v (.bool true)) :=
  spec_of_vc mixed Try.func4 c4 (by rw [show Try.f4.ntmps = _ from Try.ntmps4]; simp) (netChecks_vc n hn)
end Go.Proofs.Ytagllokfkliaoaa
