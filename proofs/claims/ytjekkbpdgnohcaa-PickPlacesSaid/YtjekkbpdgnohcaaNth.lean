/-
  pick.nth: the steps of the tree that stands at a place.
-/
import Derived.Test.YtjekkbpdgnohcaaMny
namespace Go.Proofs.Ytjekkbpdgnohcaa
open Go.Dm
set_option linter.unusedSimpArgs false
set_option linter.unnecessarySimpa false
set_option linter.unusedVariables false
set_option linter.defProp false
theorem FinH_frz {n0 : Nat} {R : D → List (Option Ob) → Prop} {s : S} {d : D} {τ : Nat} {ob : Ob} (hN : τ < s.N) (hM : s.M τ = some ob) (hf : ob.flat = true) (hk : ob.kd.isMap = false) (h : FinH n0 R (s.frz τ ob) (d.frz τ ob)) : FinH n0 R s d := by
  obtain ⟨s', g, l, h1, h2, h3, h4, h5⟩ := h
  exact ⟨s', _, l, .step _ _ _ _ _ (.frz s τ ob hN hM hf hk) h1, h2, h3, h4, h5⟩
set_option maxRecDepth 10000 in
set_option maxHeartbeats 4000000 in
theorem cutsC_spec (n i j : Nat) : Dm.Spec Try.prog 46 [iv .i64 n, .ag [iv .i64 i, iv .i64 j]] (· = .clo cutF [.ip [iv .i64 n] 0, .ip [iv .i64 i, iv .i64 j] 0]) := by
  refine spec_of_vc mixed Try.func46 c46 (by rw [show Try.f46.ntmps = _ from Try.ntmps46]; simp) ?_
  unfold m46 r46
  repeat' first | ((first | refine Br.dec ?_ ?_ | refine Br.eqi ?_ ?_) <;> intro h <;> try (exfalso; omega)) | (simp (disch := (first | omega | (simp only [vlen]; first | done | omega))) only [vmy, ↓vAq, vBq, ↓reduceIte, Nat.reduceBEq, Nat.reduceEqDiff, Nat.reduceLT, Nat.reduceLeDiff, Nat.reduceAdd, Nat.reduceMul, Nat.reduceSub, reduceCtorEq, Int.reduceToNat]) | (refine Br.mk ?_ ?_ <;> intro h) | (refine BrN.mk (fun h => ?_) ?_) | (refine AltVC.mk ?_ ?_)
  refine fin_frz 0 ?_
  repeat' first | ((first | refine Br.dec ?_ ?_ | refine Br.eqi ?_ ?_) <;> intro h <;> try (exfalso; omega)) | (simp (disch := (first | omega | (simp only [vlen]; first | done | omega))) only [vmy, ↓vAq, vBq, ↓reduceIte, Nat.reduceBEq, Nat.reduceEqDiff, Nat.reduceLT, Nat.reduceLeDiff, Nat.reduceAdd, Nat.reduceMul, Nat.reduceSub, reduceCtorEq, Int.reduceToNat]) | (refine Br.mk ?_ ?_ <;> intro h) | (refine BrN.mk (fun h => ?_) ?_) | (refine AltVC.mk ?_ ?_)
  refine fin_frz 1 ?_
  repeat' first | ((first | refine Br.dec ?_ ?_ | refine Br.eqi ?_ ?_) <;> intro h <;> try (exfalso; omega)) | (simp (disch := (first | omega | (simp only [vlen]; first | done | omega))) only [vmy, ↓vAq, vBq, ↓reduceIte, Nat.reduceBEq, Nat.reduceEqDiff, Nat.reduceLT, Nat.reduceLeDiff, Nat.reduceAdd, Nat.reduceMul, Nat.reduceSub, reduceCtorEq, Int.reduceToNat]) | (refine Br.mk ?_ ?_ <;> intro h) | (refine BrN.mk (fun h => ?_) ?_) | (refine AltVC.mk ?_ ?_)
  exact fin_mk rfl
theorem dropC {α : Type} {l : List α} {m : Nat} {d : α} (h : m < l.length) : l.drop m = l.getD m d :: l.drop (m + 1) := by
  rw [List.drop_eq_getElem_cons h]; simp [List.getD, h]
theorem last_stA {i e : Nat} : ∀ {es : List Nat}, es.getLast? = some e → stA i es es.length = e := fun {es} h => by
  have hne : es ≠ [] := fun e0 => by rw [e0] at h; cases h
  have hl := List.length_pos_iff.2 hne
  rw [List.getLast?_eq_getElem?] at h
  unfold stA
  rw [if_neg (by omega), List.getD_eq_getElem?_getD, h]; rfl
local notation "fnN" => 26
theorem sym_tree {g : Grammar} {w : List Int} {x : Int} {i j r : Nat} (hx : x < g.k) (hr : r < trees g w x i j) : r = 0 ∧ j = i + 1 ∧ w.getD i 0 = x := by
  rw [trees_sym hx] at hr
  unfold symV at hr
  split at hr
  · next h => exact ⟨by omega, h⟩
  · omega
theorem rlB_succ {g : Grammar} {w : List Int} {x : Int} {i j q : Nat} : rlB g w x i j (q + 1) = rlB g w x i j q + ruleV g w x i j q := (rfl)
end Go.Proofs.Ytjekkbpdgnohcaa
