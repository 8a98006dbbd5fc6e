/-
  slices.Backward: the contract of what it hands back.
-/
import Derived.Test.YtjekkbpdgnohcaaOpen
import Derived.Test.YtjekkbpdgnohcaaCode
import Derived.RangeFuncBox
import Derived.RangeFuncLeaves
import Derived.Shelf.Abstract
import Derived.WalkKit
import Derived.OwnWalkIn
import Derived.TacticsInMore
import Derived.LoopNIn
import Derived.LoopIn
namespace Go.Proofs.Ytjekkbpdgnohcaa
open Go.RowKit Go.Shelf Go.Dm
set_option linter.unusedSimpArgs false
set_option linter.unnecessarySimpa false
set_option linter.unusedVariables false
attribute [local go_sem] Oper.semAt_some
theorem callFunc_ok {P : Program} {f : FuncId} {fn : Func} (hf : P.funcs[f]? = some fn) (hb : fn.body.isSome = true) (hn : (fn.name == "runtime.NumGoroutine") = false) (args : Array Value) (w : World) : (callFunc f args).run P w = .ok (.enter f args) w := by
  have hb' : fn.body.isNone = false := by cases hx : fn.body <;> simp_all
  simp only [callFunc, Sem.run_bind, Sem.run_pure, Result.andThen_ok, run_program, hf]
  simp [hn, hb']
theorem i64s_cells {w : World} {A : Nat → Prop} {l : List Int} {u : Value} (h : CR w A (.sl 1 (i64s l)) u) : (l = [] ∧ ∃ b c, u = .slice b 0 c) ∨ ∃ b off c, u = .slice (some ⟨b, off, none⟩) l.length c ∧ A b ∧ ∀ j, j < l.length → w.cell? ⟨b, off + j, none⟩ = some (.int .i64 (l.getD j 0)) := by
  generalize hes : i64s l = es at h
  have hlen : es.length = l.length := by rw [← hes]; simp [i64s]
  cases h with
  | sl0 sz b c => left; exact ⟨List.eq_nil_of_length_eq_zero hlen.symm, b, c, rfl⟩
  | sl sz es b off n c us hA hn hcap hs hc hr =>
    right
    refine ⟨b, off, c, by rw [← hlen, hn], hA, fun j hj => ?_⟩
    have h1 := (hc j 0 (by omega) (by omega)).1
    have h2 := hr j 0 (by omega) (by omega)
    have e : (es.getD j []).getD 0 .junk = .v (.int .i64 (l.getD j 0)) := by rw [← hes]; simp [i64s, List.getD, hj]
    rw [e] at h2
    generalize us j 0 = v at h1 h2
    cases h2
    rw [Nat.mul_one, Nat.add_zero] at h1
    exact h1
end Go.Proofs.Ytjekkbpdgnohcaa
