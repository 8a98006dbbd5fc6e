/-
  slices.Clone, Grow, Concat.
-/
import Derived.Test.YtllkafockafdcaaBytes
import Derived.Test.YtllkafockafdcaaDmX
namespace Go.Proofs.Ytllkafockafdcaa
open Go.Dm
set_option linter.unusedSimpArgs false
set_option linter.unnecessarySimpa false
set_option linter.unusedVariables false

theorem flat_succ {α : Type} {ws : List (List α)} {i : Nat} (h : i < ws.length) : (ws.take (i + 1)).flatten = (ws.take i).flatten ++ ws.getD i default := by
  rw [take_succ_getD h default]; simp
theorem flat_le {α : Type} (ws : List (List α)) (i : Nat) : (ws.take i).flatten.length ≤ ws.flatten.length := by
  conv => rhs; rw [← List.take_append_drop i ws, List.flatten_append, List.length_append]
  omega
set_option maxRecDepth 10000 in
set_option maxHeartbeats 4000000 in
theorem grow0_int (z : Unit) : Dm.SpecH Try.prog 46 [.nl, iv .i64 0] [] (fun d o => d = .nl ∧ o = []) := by
  refine specH_of_vc mixed Try.func46 c46 (by rw [show Try.f46.ntmps = _ from Try.ntmps46]; simp) ?_
  unfold m46 r46
  repeat' first | (refine Br.dec (fun h => ?_) (fun h => ?_) <;> try (exfalso; omega)) | (refine Br.eqi (fun h => ?_) (fun h => ?_) <;> try (exfalso; omega)) | (simp (disch := (first | omega | (simp only [vlen]; first | done | omega))) only [↓va0, ↓va1, ↓va2, ↓va3, vb0, vb1, vb2, vb3, vb4, vb5, vb6, vb7, vb8, vb9, vb10, vz0, vz1, vy0, vx0, ↓reduceIte, Nat.reduceBEq, Nat.reduceEqDiff, Nat.reduceLT, Nat.reduceLeDiff, Nat.reduceAdd, Nat.reduceMul, Nat.reduceSub, reduceCtorEq, Int.reduceToNat]) | (refine Br.mk (fun h => ?_) (fun h => ?_)) | (refine BrN.mk (fun h => ?_) ?_) | (refine AltVC.mk ?_ ?_)
  exact finH_mk [] (by simp) (by simp (disch := (first | omega | (simp only [vlen]; first | done | omega))) only [↓va0, ↓va1, ↓va2, ↓va3, vb0, vb1, vb2, vb3, vb4, vb5, vb6, vb7, vb8, vb9, vb10, vz0, vz1, vy0, vx0, ↓reduceIte, Nat.reduceBEq, Nat.reduceEqDiff, Nat.reduceLT, Nat.reduceLeDiff, Nat.reduceAdd, Nat.reduceMul, Nat.reduceSub, reduceCtorEq, Int.reduceToNat]) (by simp (disch := (first | omega | (simp only [vlen]; first | done | omega))) only [↓va0, ↓va1, ↓va2, ↓va3, vb0, vb1, vb2, vb3, vb4, vb5, vb6, vb7, vb8, vb9, vb10, vz0, vz1, vy0, vx0, ↓reduceIte, Nat.reduceBEq, Nat.reduceEqDiff, Nat.reduceLT, Nat.reduceLeDiff, Nat.reduceAdd, Nat.reduceMul, Nat.reduceSub, reduceCtorEq, Int.reduceToNat]) ⟨by simp (disch := (first | omega | (simp only [vlen]; first | done | omega))) only [↓va0, ↓va1, ↓va2, ↓va3, vb0, vb1, vb2, vb3, vb4, vb5, vb6, vb7, vb8, vb9, vb10, vz0, vz1, vy0, vx0, ↓reduceIte, Nat.reduceBEq, Nat.reduceEqDiff, Nat.reduceLT, Nat.reduceLeDiff, Nat.reduceAdd, Nat.reduceMul, Nat.reduceSub, reduceCtorEq, Int.reduceToNat], rfl⟩
set_option maxRecDepth 10000 in
set_option maxHeartbeats 4000000 in
theorem grow_int (n : Nat) (h : 0 < n ∧ n ≤ 1000000) : Dm.SpecH Try.prog 46 [.nl, iv .i64 n] [] (fun d o => d = .ref 1 1 0 0 ∧ ∃ es, o = [none, some ⟨1, es, true, false, .arr⟩]) := by
  refine specH_of_vc mixed Try.func46 c46 (by rw [show Try.f46.ntmps = _ from Try.ntmps46]; simp) ?_
  unfold m46 r46
  repeat' first | (refine Br.dec (fun h => ?_) (fun h => ?_) <;> try (exfalso; omega)) | (refine Br.eqi (fun h => ?_) (fun h => ?_) <;> try (exfalso; omega)) | (simp (disch := (first | omega | (simp only [vlen]; first | done | omega))) only [↓va0, ↓va1, ↓va2, ↓va3, vb0, vb1, vb2, vb3, vb4, vb5, vb6, vb7, vb8, vb9, vb10, vz0, vz1, vy0, vx0, ↓reduceIte, Nat.reduceBEq, Nat.reduceEqDiff, Nat.reduceLT, Nat.reduceLeDiff, Nat.reduceAdd, Nat.reduceMul, Nat.reduceSub, reduceCtorEq, Int.reduceToNat]) | (refine Br.mk (fun h => ?_) (fun h => ?_)) | (refine BrN.mk (fun h => ?_) ?_) | (refine AltVC.mk ?_ ?_)
  exact finH_mk [none, some ⟨1, List.replicate ((n : Int) - (0 - 0)).toNat [D.v (.int .i64 0)], true, false, .arr⟩] (by simp) (by simp (disch := (first | omega | (simp only [vlen]; first | done | omega))) only [↓va0, ↓va1, ↓va2, ↓va3, vb0, vb1, vb2, vb3, vb4, vb5, vb6, vb7, vb8, vb9, vb10, vz0, vz1, vy0, vx0, ↓reduceIte, Nat.reduceBEq, Nat.reduceEqDiff, Nat.reduceLT, Nat.reduceLeDiff, Nat.reduceAdd, Nat.reduceMul, Nat.reduceSub, reduceCtorEq, Int.reduceToNat]) (by simp (disch := (first | omega | (simp only [vlen]; first | done | omega))) only [↓va0, ↓va1, ↓va2, ↓va3, vb0, vb1, vb2, vb3, vb4, vb5, vb6, vb7, vb8, vb9, vb10, vz0, vz1, vy0, vx0, ↓reduceIte, Nat.reduceBEq, Nat.reduceEqDiff, Nat.reduceLT, Nat.reduceLeDiff, Nat.reduceAdd, Nat.reduceMul, Nat.reduceSub, reduceCtorEq, Int.reduceToNat]) ⟨by simp (disch := (first | omega | (simp only [vlen]; first | done | omega))) only [↓va0, ↓va1, ↓va2, ↓va3, vb0, vb1, vb2, vb3, vb4, vb5, vb6, vb7, vb8, vb9, vb10, vz0, vz1, vy0, vx0, ↓reduceIte, Nat.reduceBEq, Nat.reduceEqDiff, Nat.reduceLT, Nat.reduceLeDiff, Nat.reduceAdd, Nat.reduceMul, Nat.reduceSub, reduceCtorEq, Int.reduceToNat], _, rfl⟩
set_option maxRecDepth 10000 in
set_option maxHeartbeats 4000000 in
theorem concat_int (ws : List (List (Int))) (hl : ws.length ≤ 1000000) (h : ws.flatten.length ≤ 1000000) : Dm.Spec Try.prog 39 [.sl 1 (rows i64s ws)] (· = .sl 1 (i64s ws.flatten)) := by
  refine spec_of_vc mixed Try.func39 c39 (by rw [show Try.f39.ntmps = _ from Try.ntmps39]; simp) ?_
  unfold m39 r39
  have eA : ∀ a b : List (Int), i64s a ++ i64s b = i64s (a ++ b) := fun a b => by simp [i64s]
  have eL : ∀ a : List (Int), (i64s a).length = a.length := fun a => by simp [i64s]
  repeat' first | (refine Br.dec (fun h => ?_) (fun h => ?_) <;> try (exfalso; omega)) | (refine Br.eqi (fun h => ?_) (fun h => ?_) <;> try (exfalso; omega)) | (simp (disch := (first | omega | (simp only [vlen]; first | done | omega))) only [↓va0, ↓va1, ↓va2, ↓va3, vb0, vb1, vb2, vb3, vb4, vb5, vb6, vb7, vb8, vb9, vb10, vz0, vz1, vy0, vx0, ↓reduceIte, Nat.reduceBEq, Nat.reduceEqDiff, Nat.reduceLT, Nat.reduceLeDiff, Nat.reduceAdd, Nat.reduceMul, Nat.reduceSub, reduceCtorEq, Int.reduceToNat]) | (refine Br.mk (fun h => ?_) (fun h => ?_)) | (refine BrN.mk (fun h => ?_) ?_) | (refine AltVC.mk ?_ ?_)
  refine LoopVC.mk (X := Nat) (fun i => [(3, iv .i64 (ws.take i).flatten.length), (11, iv .i64 i)]) (fun _ => []) (fun i => ws.length - i) (fun i => i ≤ ws.length) 0 (by omega) ?_ ?_
  · (simp (disch := (first | omega | (simp only [vlen]; first | done | omega))) only [Fits_u, Fits_m, Fits_nil, List.length_append, ↓va0, ↓va1, ↓va2, ↓va3, vb0, vb1, vb2, vb3, vb4, vb5, vb6, vb7, vb8, vb9, vb10, vz0, vz1, vy0, vx0, ↓reduceIte, Nat.reduceBEq, Nat.reduceEqDiff, Nat.reduceLT, Nat.reduceLeDiff, Nat.reduceAdd, Nat.reduceMul, Nat.reduceSub, reduceCtorEq, Int.reduceToNat] <;> (repeat' first | rfl | apply And.intro))
  · rintro i hi
    have b1 := flat_le ws i
    have b2 : i < ws.length → (ws.take i).flatten.length + (ws.getD i default).length ≤ 1000000 := fun hlt => by
      have := flat_le ws (i + 1)
      rw [flat_succ hlt, List.length_append] at this; omega
    repeat' first | (refine Br.dec (fun h => ?_) (fun h => ?_) <;> try (exfalso; omega)) | (refine Br.eqi (fun h => ?_) (fun h => ?_) <;> try (exfalso; omega)) | (simp (disch := (first | omega | (simp only [vlen]; first | done | omega))) only [↓va0, ↓va1, ↓va2, ↓va3, vb0, vb1, vb2, vb3, vb4, vb5, vb6, vb7, vb8, vb9, vb10, vz0, vz1, vy0, vx0, ↓reduceIte, Nat.reduceBEq, Nat.reduceEqDiff, Nat.reduceLT, Nat.reduceLeDiff, Nat.reduceAdd, Nat.reduceMul, Nat.reduceSub, reduceCtorEq, Int.reduceToNat]) | (refine Br.mk (fun h => ?_) (fun h => ?_)) | (refine BrN.mk (fun h => ?_) ?_) | (refine AltVC.mk ?_ ?_)
    · refine loopK.mk (i + 1) (by simp (disch := (first | omega | (simp only [vlen]; first | done | omega))) only [↓va0, ↓va1, ↓va2, ↓va3, vb0, vb1, vb2, vb3, vb4, vb5, vb6, vb7, vb8, vb9, vb10, vz0, vz1, vy0, vx0, ↓reduceIte, Nat.reduceBEq, Nat.reduceEqDiff, Nat.reduceLT, Nat.reduceLeDiff, Nat.reduceAdd, Nat.reduceMul, Nat.reduceSub, reduceCtorEq, Int.reduceToNat]) (by omega) (by omega) ?_
      (simp (disch := (first | omega | (simp only [vlen]; first | done | omega))) only [Fits_u, Fits_m, Fits_nil, List.length_append, ↓va0, ↓va1, ↓va2, ↓va3, vb0, vb1, vb2, vb3, vb4, vb5, vb6, vb7, vb8, vb9, vb10, vz0, vz1, vy0, vx0, ↓reduceIte, Nat.reduceBEq, Nat.reduceEqDiff, Nat.reduceLT, Nat.reduceLeDiff, Nat.reduceAdd, Nat.reduceMul, Nat.reduceSub, reduceCtorEq, Int.reduceToNat] <;> (repeat' first | rfl | apply And.intro))
      rw [flat_succ (by omega), List.length_append]
      exact viEq (by omega)
    · by_cases hz : ws.flatten.length = 0
      · rw [hz]
        refine CallVC.lend [] [.nl, iv .i64 0] [] (grow0_int ()) (by simp) (by simp) rfl (by simp (disch := (first | omega | (simp only [vlen]; first | done | omega))) only [↓va0, ↓va1, ↓va2, ↓va3, vb0, vb1, vb2, vb3, vb4, vb5, vb6, vb7, vb8, vb9, vb10, vz0, vz1, vy0, vx0, ↓reduceIte, Nat.reduceBEq, Nat.reduceEqDiff, Nat.reduceLT, Nat.reduceLeDiff, Nat.reduceAdd, Nat.reduceMul, Nat.reduceSub, reduceCtorEq, Int.reduceToNat]) (by simp) ?_
        rintro r l ⟨rfl, rfl⟩
        repeat' first | (refine Br.dec (fun h => ?_) (fun h => ?_) <;> try (exfalso; omega)) | (refine Br.eqi (fun h => ?_) (fun h => ?_) <;> try (exfalso; omega)) | (simp (disch := (first | omega | (simp only [vlen]; first | done | omega))) only [↓va0, ↓va1, ↓va2, ↓va3, vb0, vb1, vb2, vb3, vb4, vb5, vb6, vb7, vb8, vb9, vb10, vz0, vz1, vy0, vx0, ↓reduceIte, Nat.reduceBEq, Nat.reduceEqDiff, Nat.reduceLT, Nat.reduceLeDiff, Nat.reduceAdd, Nat.reduceMul, Nat.reduceSub, reduceCtorEq, Int.reduceToNat]) | (refine Br.mk (fun h => ?_) (fun h => ?_)) | (refine BrN.mk (fun h => ?_) ?_) | (refine AltVC.mk ?_ ?_)
        refine LoopVC.emp 6 1 ?_
        repeat' first | (refine Br.dec (fun h => ?_) (fun h => ?_) <;> try (exfalso; omega)) | (refine Br.eqi (fun h => ?_) (fun h => ?_) <;> try (exfalso; omega)) | (simp (disch := (first | omega | (simp only [vlen]; first | done | omega))) only [↓va0, ↓va1, ↓va2, ↓va3, vb0, vb1, vb2, vb3, vb4, vb5, vb6, vb7, vb8, vb9, vb10, vz0, vz1, vy0, vx0, ↓reduceIte, Nat.reduceBEq, Nat.reduceEqDiff, Nat.reduceLT, Nat.reduceLeDiff, Nat.reduceAdd, Nat.reduceMul, Nat.reduceSub, reduceCtorEq, Int.reduceToNat]) | (refine Br.mk (fun h => ?_) (fun h => ?_)) | (refine BrN.mk (fun h => ?_) ?_) | (refine AltVC.mk ?_ ?_)
        refine LoopVC.mk (X := Nat × List (List D)) (fun x => [(6, .ref 1 1 0 (ws.take x.1).flatten.length), (27, iv .i64 x.1)]) (fun x => [(1, ⟨1, x.2, true, false, .arr⟩)]) (fun x => ws.length - x.1) (fun x => x.1 ≤ ws.length ∧ (ws.take x.1).flatten.length ≤ x.2.length ∧ x.2.take (ws.take x.1).flatten.length = i64s (ws.take x.1).flatten) (0, []) ⟨by simp, by simp, by simp [i64s]⟩ ?_ ?_
        · (simp (disch := (first | omega | (simp only [vlen]; first | done | omega))) only [Fits_u, Fits_m, Fits_nil, List.length_append, ↓va0, ↓va1, ↓va2, ↓va3, vb0, vb1, vb2, vb3, vb4, vb5, vb6, vb7, vb8, vb9, vb10, vz0, vz1, vy0, vx0, ↓reduceIte, Nat.reduceBEq, Nat.reduceEqDiff, Nat.reduceLT, Nat.reduceLeDiff, Nat.reduceAdd, Nat.reduceMul, Nat.reduceSub, reduceCtorEq, Int.reduceToNat] <;> (repeat' first | rfl | apply And.intro))
        · rintro ⟨k, es1⟩ ⟨k1, k2, k3⟩
          simp only at k1 k2 k3
          have k4 : ¬ k < ws.length → ws.flatten.length ≤ es1.length := fun hn => by
            rw [show k = ws.length by omega, List.take_length] at k2; exact k2
          have b1 := flat_le ws k
          have b2 : k < ws.length → (ws.take k).flatten.length + (ws.getD k default).length ≤ 1000000 := fun hlt => by
            have := flat_le ws (k + 1)
            rw [flat_succ hlt, List.length_append] at this; omega
          repeat' first | (refine Br.dec (fun h => ?_) (fun h => ?_) <;> try (exfalso; omega)) | (refine Br.eqi (fun h => ?_) (fun h => ?_) <;> try (exfalso; omega)) | (simp (disch := (first | omega | (simp only [vlen]; first | done | omega))) only [↓va0, ↓va1, ↓va2, ↓va3, vb0, vb1, vb2, vb3, vb4, vb5, vb6, vb7, vb8, vb9, vb10, vz0, vz1, vy0, vx0, ↓reduceIte, Nat.reduceBEq, Nat.reduceEqDiff, Nat.reduceLT, Nat.reduceLeDiff, Nat.reduceAdd, Nat.reduceMul, Nat.reduceSub, reduceCtorEq, Int.reduceToNat]) | (refine Br.mk (fun h => ?_) (fun h => ?_)) | (refine BrN.mk (fun h => ?_) ?_) | (refine AltVC.mk ?_ ?_)
          · have hk : k < ws.length := by omega
            refine loopK.mk (k + 1, es1.take (ws.take k).flatten.length ++ i64s (ws.getD k default)) (by simp (disch := (first | omega | (simp only [vlen]; first | done | omega))) only [↓va0, ↓va1, ↓va2, ↓va3, vb0, vb1, vb2, vb3, vb4, vb5, vb6, vb7, vb8, vb9, vb10, vz0, vz1, vy0, vx0, ↓reduceIte, Nat.reduceBEq, Nat.reduceEqDiff, Nat.reduceLT, Nat.reduceLeDiff, Nat.reduceAdd, Nat.reduceMul, Nat.reduceSub, reduceCtorEq, Int.reduceToNat]) ⟨by simp only; omega, ?_, ?_⟩ (by simp only; omega) ?_
            · simp only
              rw [flat_succ hk, k3, eA, eL]
              exact Nat.le_refl _
            · simp only
              rw [flat_succ hk, k3, eA]
              exact List.take_of_length_le (by rw [eL]; exact Nat.le_refl _)
            · (simp (disch := (first | omega | (simp only [vlen]; first | done | omega))) only [Fits_u, Fits_m, Fits_nil, List.length_append, ↓va0, ↓va1, ↓va2, ↓va3, vb0, vb1, vb2, vb3, vb4, vb5, vb6, vb7, vb8, vb9, vb10, vz0, vz1, vy0, vx0, ↓reduceIte, Nat.reduceBEq, Nat.reduceEqDiff, Nat.reduceLT, Nat.reduceLeDiff, Nat.reduceAdd, Nat.reduceMul, Nat.reduceSub, reduceCtorEq, Int.reduceToNat] <;> (repeat' first | rfl | apply And.intro))
              rw [flat_succ hk, List.length_append]
          · refine fin_mk (congrArg (D.sl 1) ?_)
            have e : k = ws.length := by omega
            subst e
            rw [List.take_length] at k3
            simpa using k3
      · refine CallVC.lend [] [.nl, iv .i64 ws.flatten.length] [] (grow_int _ ⟨by omega, by omega⟩) (by simp) (by simp) rfl (by simp (disch := (first | omega | (simp only [vlen]; first | done | omega))) only [↓va0, ↓va1, ↓va2, ↓va3, vb0, vb1, vb2, vb3, vb4, vb5, vb6, vb7, vb8, vb9, vb10, vz0, vz1, vy0, vx0, ↓reduceIte, Nat.reduceBEq, Nat.reduceEqDiff, Nat.reduceLT, Nat.reduceLeDiff, Nat.reduceAdd, Nat.reduceMul, Nat.reduceSub, reduceCtorEq, Int.reduceToNat]) (by simp) ?_
        rintro r l ⟨rfl, es, rfl⟩
        repeat' first | (refine Br.dec (fun h => ?_) (fun h => ?_) <;> try (exfalso; omega)) | (refine Br.eqi (fun h => ?_) (fun h => ?_) <;> try (exfalso; omega)) | (simp (disch := (first | omega | (simp only [vlen]; first | done | omega))) only [↓va0, ↓va1, ↓va2, ↓va3, vb0, vb1, vb2, vb3, vb4, vb5, vb6, vb7, vb8, vb9, vb10, vz0, vz1, vy0, vx0, ↓reduceIte, Nat.reduceBEq, Nat.reduceEqDiff, Nat.reduceLT, Nat.reduceLeDiff, Nat.reduceAdd, Nat.reduceMul, Nat.reduceSub, reduceCtorEq, Int.reduceToNat]) | (refine Br.mk (fun h => ?_) (fun h => ?_)) | (refine BrN.mk (fun h => ?_) ?_) | (refine AltVC.mk ?_ ?_)
        refine LoopVC.mk (X := Nat × List (List D)) (fun x => [(6, .ref 2 1 0 (ws.take x.1).flatten.length), (27, iv .i64 x.1)]) (fun x => [(2, ⟨1, x.2, true, false, .arr⟩)]) (fun x => ws.length - x.1) (fun x => x.1 ≤ ws.length ∧ (ws.take x.1).flatten.length ≤ x.2.length ∧ x.2.take (ws.take x.1).flatten.length = i64s (ws.take x.1).flatten) (0, es) ⟨by simp, by simp, by simp [i64s]⟩ ?_ ?_
        · (simp (disch := (first | omega | (simp only [vlen]; first | done | omega))) only [Fits_u, Fits_m, Fits_nil, List.length_append, ↓va0, ↓va1, ↓va2, ↓va3, vb0, vb1, vb2, vb3, vb4, vb5, vb6, vb7, vb8, vb9, vb10, vz0, vz1, vy0, vx0, ↓reduceIte, Nat.reduceBEq, Nat.reduceEqDiff, Nat.reduceLT, Nat.reduceLeDiff, Nat.reduceAdd, Nat.reduceMul, Nat.reduceSub, reduceCtorEq, Int.reduceToNat] <;> (repeat' first | rfl | apply And.intro))
        · rintro ⟨k, es1⟩ ⟨k1, k2, k3⟩
          simp only at k1 k2 k3
          have k4 : ¬ k < ws.length → ws.flatten.length ≤ es1.length := fun hn => by
            rw [show k = ws.length by omega, List.take_length] at k2; exact k2
          have b1 := flat_le ws k
          have b2 : k < ws.length → (ws.take k).flatten.length + (ws.getD k default).length ≤ 1000000 := fun hlt => by
            have := flat_le ws (k + 1)
            rw [flat_succ hlt, List.length_append] at this; omega
          repeat' first | (refine Br.dec (fun h => ?_) (fun h => ?_) <;> try (exfalso; omega)) | (refine Br.eqi (fun h => ?_) (fun h => ?_) <;> try (exfalso; omega)) | (simp (disch := (first | omega | (simp only [vlen]; first | done | omega))) only [↓va0, ↓va1, ↓va2, ↓va3, vb0, vb1, vb2, vb3, vb4, vb5, vb6, vb7, vb8, vb9, vb10, vz0, vz1, vy0, vx0, ↓reduceIte, Nat.reduceBEq, Nat.reduceEqDiff, Nat.reduceLT, Nat.reduceLeDiff, Nat.reduceAdd, Nat.reduceMul, Nat.reduceSub, reduceCtorEq, Int.reduceToNat]) | (refine Br.mk (fun h => ?_) (fun h => ?_)) | (refine BrN.mk (fun h => ?_) ?_) | (refine AltVC.mk ?_ ?_)
          · have hk : k < ws.length := by omega
            refine loopK.mk (k + 1, es1.take (ws.take k).flatten.length ++ i64s (ws.getD k default)) (by simp (disch := (first | omega | (simp only [vlen]; first | done | omega))) only [↓va0, ↓va1, ↓va2, ↓va3, vb0, vb1, vb2, vb3, vb4, vb5, vb6, vb7, vb8, vb9, vb10, vz0, vz1, vy0, vx0, ↓reduceIte, Nat.reduceBEq, Nat.reduceEqDiff, Nat.reduceLT, Nat.reduceLeDiff, Nat.reduceAdd, Nat.reduceMul, Nat.reduceSub, reduceCtorEq, Int.reduceToNat]) ⟨by simp only; omega, ?_, ?_⟩ (by simp only; omega) ?_
            · simp only
              rw [flat_succ hk, k3, eA, eL]
              exact Nat.le_refl _
            · simp only
              rw [flat_succ hk, k3, eA]
              exact List.take_of_length_le (by rw [eL]; exact Nat.le_refl _)
            · (simp (disch := (first | omega | (simp only [vlen]; first | done | omega))) only [Fits_u, Fits_m, Fits_nil, List.length_append, ↓va0, ↓va1, ↓va2, ↓va3, vb0, vb1, vb2, vb3, vb4, vb5, vb6, vb7, vb8, vb9, vb10, vz0, vz1, vy0, vx0, ↓reduceIte, Nat.reduceBEq, Nat.reduceEqDiff, Nat.reduceLT, Nat.reduceLeDiff, Nat.reduceAdd, Nat.reduceMul, Nat.reduceSub, reduceCtorEq, Int.reduceToNat] <;> (repeat' first | rfl | apply And.intro))
              rw [flat_succ hk, List.length_append]
          · refine fin_mk (congrArg (D.sl 1) ?_)
            have e : k = ws.length := by omega
            subst e
            rw [List.take_length] at k3
            simpa using k3
set_option maxRecDepth 10000 in
set_option maxHeartbeats 4000000 in
theorem grow0_bool (z : Unit) : Dm.SpecH Try.prog 41 [.nl, iv .i64 0] [] (fun d o => d = .nl ∧ o = []) := by
  refine specH_of_vc mixed Try.func41 c41 (by rw [show Try.f41.ntmps = _ from Try.ntmps41]; simp) ?_
  unfold m41 r41
  repeat' first | (refine Br.dec (fun h => ?_) (fun h => ?_) <;> try (exfalso; omega)) | (refine Br.eqi (fun h => ?_) (fun h => ?_) <;> try (exfalso; omega)) | (simp (disch := (first | omega | (simp only [vlen]; first | done | omega))) only [↓va0, ↓va1, ↓va2, ↓va3, vb0, vb1, vb2, vb3, vb4, vb5, vb6, vb7, vb8, vb9, vb10, vz0, vz1, vy0, vx0, ↓reduceIte, Nat.reduceBEq, Nat.reduceEqDiff, Nat.reduceLT, Nat.reduceLeDiff, Nat.reduceAdd, Nat.reduceMul, Nat.reduceSub, reduceCtorEq, Int.reduceToNat]) | (refine Br.mk (fun h => ?_) (fun h => ?_)) | (refine BrN.mk (fun h => ?_) ?_) | (refine AltVC.mk ?_ ?_)
  exact finH_mk [] (by simp) (by simp (disch := (first | omega | (simp only [vlen]; first | done | omega))) only [↓va0, ↓va1, ↓va2, ↓va3, vb0, vb1, vb2, vb3, vb4, vb5, vb6, vb7, vb8, vb9, vb10, vz0, vz1, vy0, vx0, ↓reduceIte, Nat.reduceBEq, Nat.reduceEqDiff, Nat.reduceLT, Nat.reduceLeDiff, Nat.reduceAdd, Nat.reduceMul, Nat.reduceSub, reduceCtorEq, Int.reduceToNat]) (by simp (disch := (first | omega | (simp only [vlen]; first | done | omega))) only [↓va0, ↓va1, ↓va2, ↓va3, vb0, vb1, vb2, vb3, vb4, vb5, vb6, vb7, vb8, vb9, vb10, vz0, vz1, vy0, vx0, ↓reduceIte, Nat.reduceBEq, Nat.reduceEqDiff, Nat.reduceLT, Nat.reduceLeDiff, Nat.reduceAdd, Nat.reduceMul, Nat.reduceSub, reduceCtorEq, Int.reduceToNat]) ⟨by simp (disch := (first | omega | (simp only [vlen]; first | done | omega))) only [↓va0, ↓va1, ↓va2, ↓va3, vb0, vb1, vb2, vb3, vb4, vb5, vb6, vb7, vb8, vb9, vb10, vz0, vz1, vy0, vx0, ↓reduceIte, Nat.reduceBEq, Nat.reduceEqDiff, Nat.reduceLT, Nat.reduceLeDiff, Nat.reduceAdd, Nat.reduceMul, Nat.reduceSub, reduceCtorEq, Int.reduceToNat], rfl⟩
set_option maxRecDepth 10000 in
set_option maxHeartbeats 4000000 in
theorem grow_bool (n : Nat) (h : 0 < n ∧ n ≤ 1000000) : Dm.SpecH Try.prog 41 [.nl, iv .i64 n] [] (fun d o => d = .ref 1 1 0 0 ∧ ∃ es, o = [none, some ⟨1, es, true, false, .arr⟩]) := by
  refine specH_of_vc mixed Try.func41 c41 (by rw [show Try.f41.ntmps = _ from Try.ntmps41]; simp) ?_
  unfold m41 r41
  repeat' first | (refine Br.dec (fun h => ?_) (fun h => ?_) <;> try (exfalso; omega)) | (refine Br.eqi (fun h => ?_) (fun h => ?_) <;> try (exfalso; omega)) | (simp (disch := (first | omega | (simp only [vlen]; first | done | omega))) only [↓va0, ↓va1, ↓va2, ↓va3, vb0, vb1, vb2, vb3, vb4, vb5, vb6, vb7, vb8, vb9, vb10, vz0, vz1, vy0, vx0, ↓reduceIte, Nat.reduceBEq, Nat.reduceEqDiff, Nat.reduceLT, Nat.reduceLeDiff, Nat.reduceAdd, Nat.reduceMul, Nat.reduceSub, reduceCtorEq, Int.reduceToNat]) | (refine Br.mk (fun h => ?_) (fun h => ?_)) | (refine BrN.mk (fun h => ?_) ?_) | (refine AltVC.mk ?_ ?_)
  exact finH_mk [none, some ⟨1, List.replicate ((n : Int) - (0 - 0)).toNat [D.v (.bool false)], true, false, .arr⟩] (by simp) (by simp (disch := (first | omega | (simp only [vlen]; first | done | omega))) only [↓va0, ↓va1, ↓va2, ↓va3, vb0, vb1, vb2, vb3, vb4, vb5, vb6, vb7, vb8, vb9, vb10, vz0, vz1, vy0, vx0, ↓reduceIte, Nat.reduceBEq, Nat.reduceEqDiff, Nat.reduceLT, Nat.reduceLeDiff, Nat.reduceAdd, Nat.reduceMul, Nat.reduceSub, reduceCtorEq, Int.reduceToNat]) (by simp (disch := (first | omega | (simp only [vlen]; first | done | omega))) only [↓va0, ↓va1, ↓va2, ↓va3, vb0, vb1, vb2, vb3, vb4, vb5, vb6, vb7, vb8, vb9, vb10, vz0, vz1, vy0, vx0, ↓reduceIte, Nat.reduceBEq, Nat.reduceEqDiff, Nat.reduceLT, Nat.reduceLeDiff, Nat.reduceAdd, Nat.reduceMul, Nat.reduceSub, reduceCtorEq, Int.reduceToNat]) ⟨by simp (disch := (first | omega | (simp only [vlen]; first | done | omega))) only [↓va0, ↓va1, ↓va2, ↓va3, vb0, vb1, vb2, vb3, vb4, vb5, vb6, vb7, vb8, vb9, vb10, vz0, vz1, vy0, vx0, ↓reduceIte, Nat.reduceBEq, Nat.reduceEqDiff, Nat.reduceLT, Nat.reduceLeDiff, Nat.reduceAdd, Nat.reduceMul, Nat.reduceSub, reduceCtorEq, Int.reduceToNat], _, rfl⟩
set_option maxRecDepth 10000 in
set_option maxHeartbeats 4000000 in
theorem concat_bool (ws : List (List (Bool))) (hl : ws.length ≤ 1000000) (h : ws.flatten.length ≤ 1000000) : Dm.Spec Try.prog 31 [.sl 1 (rows bls ws)] (· = .sl 1 (bls ws.flatten)) := by
  refine spec_of_vc mixed Try.func31 c31 (by rw [show Try.f31.ntmps = _ from Try.ntmps31]; simp) ?_
  unfold m31 r31
  have eA : ∀ a b : List (Bool), bls a ++ bls b = bls (a ++ b) := fun a b => by simp [bls]
  have eL : ∀ a : List (Bool), (bls a).length = a.length := fun a => by simp [bls]
  repeat' first | (refine Br.dec (fun h => ?_) (fun h => ?_) <;> try (exfalso; omega)) | (refine Br.eqi (fun h => ?_) (fun h => ?_) <;> try (exfalso; omega)) | (simp (disch := (first | omega | (simp only [vlen]; first | done | omega))) only [↓va0, ↓va1, ↓va2, ↓va3, vb0, vb1, vb2, vb3, vb4, vb5, vb6, vb7, vb8, vb9, vb10, vz0, vz1, vy0, vx0, ↓reduceIte, Nat.reduceBEq, Nat.reduceEqDiff, Nat.reduceLT, Nat.reduceLeDiff, Nat.reduceAdd, Nat.reduceMul, Nat.reduceSub, reduceCtorEq, Int.reduceToNat]) | (refine Br.mk (fun h => ?_) (fun h => ?_)) | (refine BrN.mk (fun h => ?_) ?_) | (refine AltVC.mk ?_ ?_)
  refine LoopVC.mk (X := Nat) (fun i => [(3, iv .i64 (ws.take i).flatten.length), (11, iv .i64 i)]) (fun _ => []) (fun i => ws.length - i) (fun i => i ≤ ws.length) 0 (by omega) ?_ ?_
  · (simp (disch := (first | omega | (simp only [vlen]; first | done | omega))) only [Fits_u, Fits_m, Fits_nil, List.length_append, ↓va0, ↓va1, ↓va2, ↓va3, vb0, vb1, vb2, vb3, vb4, vb5, vb6, vb7, vb8, vb9, vb10, vz0, vz1, vy0, vx0, ↓reduceIte, Nat.reduceBEq, Nat.reduceEqDiff, Nat.reduceLT, Nat.reduceLeDiff, Nat.reduceAdd, Nat.reduceMul, Nat.reduceSub, reduceCtorEq, Int.reduceToNat] <;> (repeat' first | rfl | apply And.intro))
  · rintro i hi
    have b1 := flat_le ws i
    have b2 : i < ws.length → (ws.take i).flatten.length + (ws.getD i default).length ≤ 1000000 := fun hlt => by
      have := flat_le ws (i + 1)
      rw [flat_succ hlt, List.length_append] at this; omega
    repeat' first | (refine Br.dec (fun h => ?_) (fun h => ?_) <;> try (exfalso; omega)) | (refine Br.eqi (fun h => ?_) (fun h => ?_) <;> try (exfalso; omega)) | (simp (disch := (first | omega | (simp only [vlen]; first | done | omega))) only [↓va0, ↓va1, ↓va2, ↓va3, vb0, vb1, vb2, vb3, vb4, vb5, vb6, vb7, vb8, vb9, vb10, vz0, vz1, vy0, vx0, ↓reduceIte, Nat.reduceBEq, Nat.reduceEqDiff, Nat.reduceLT, Nat.reduceLeDiff, Nat.reduceAdd, Nat.reduceMul, Nat.reduceSub, reduceCtorEq, Int.reduceToNat]) | (refine Br.mk (fun h => ?_) (fun h => ?_)) | (refine BrN.mk (fun h => ?_) ?_) | (refine AltVC.mk ?_ ?_)
    · refine loopK.mk (i + 1) (by simp (disch := (first | omega | (simp only [vlen]; first | done | omega))) only [↓va0, ↓va1, ↓va2, ↓va3, vb0, vb1, vb2, vb3, vb4, vb5, vb6, vb7, vb8, vb9, vb10, vz0, vz1, vy0, vx0, ↓reduceIte, Nat.reduceBEq, Nat.reduceEqDiff, Nat.reduceLT, Nat.reduceLeDiff, Nat.reduceAdd, Nat.reduceMul, Nat.reduceSub, reduceCtorEq, Int.reduceToNat]) (by omega) (by omega) ?_
      (simp (disch := (first | omega | (simp only [vlen]; first | done | omega))) only [Fits_u, Fits_m, Fits_nil, List.length_append, ↓va0, ↓va1, ↓va2, ↓va3, vb0, vb1, vb2, vb3, vb4, vb5, vb6, vb7, vb8, vb9, vb10, vz0, vz1, vy0, vx0, ↓reduceIte, Nat.reduceBEq, Nat.reduceEqDiff, Nat.reduceLT, Nat.reduceLeDiff, Nat.reduceAdd, Nat.reduceMul, Nat.reduceSub, reduceCtorEq, Int.reduceToNat] <;> (repeat' first | rfl | apply And.intro))
      rw [flat_succ (by omega), List.length_append]
      exact viEq (by omega)
    · by_cases hz : ws.flatten.length = 0
      · rw [hz]
        refine CallVC.lend [] [.nl, iv .i64 0] [] (grow0_bool ()) (by simp) (by simp) rfl (by simp (disch := (first | omega | (simp only [vlen]; first | done | omega))) only [↓va0, ↓va1, ↓va2, ↓va3, vb0, vb1, vb2, vb3, vb4, vb5, vb6, vb7, vb8, vb9, vb10, vz0, vz1, vy0, vx0, ↓reduceIte, Nat.reduceBEq, Nat.reduceEqDiff, Nat.reduceLT, Nat.reduceLeDiff, Nat.reduceAdd, Nat.reduceMul, Nat.reduceSub, reduceCtorEq, Int.reduceToNat]) (by simp) ?_
        rintro r l ⟨rfl, rfl⟩
        repeat' first | (refine Br.dec (fun h => ?_) (fun h => ?_) <;> try (exfalso; omega)) | (refine Br.eqi (fun h => ?_) (fun h => ?_) <;> try (exfalso; omega)) | (simp (disch := (first | omega | (simp only [vlen]; first | done | omega))) only [↓va0, ↓va1, ↓va2, ↓va3, vb0, vb1, vb2, vb3, vb4, vb5, vb6, vb7, vb8, vb9, vb10, vz0, vz1, vy0, vx0, ↓reduceIte, Nat.reduceBEq, Nat.reduceEqDiff, Nat.reduceLT, Nat.reduceLeDiff, Nat.reduceAdd, Nat.reduceMul, Nat.reduceSub, reduceCtorEq, Int.reduceToNat]) | (refine Br.mk (fun h => ?_) (fun h => ?_)) | (refine BrN.mk (fun h => ?_) ?_) | (refine AltVC.mk ?_ ?_)
        refine LoopVC.emp 6 1 ?_
        repeat' first | (refine Br.dec (fun h => ?_) (fun h => ?_) <;> try (exfalso; omega)) | (refine Br.eqi (fun h => ?_) (fun h => ?_) <;> try (exfalso; omega)) | (simp (disch := (first | omega | (simp only [vlen]; first | done | omega))) only [↓va0, ↓va1, ↓va2, ↓va3, vb0, vb1, vb2, vb3, vb4, vb5, vb6, vb7, vb8, vb9, vb10, vz0, vz1, vy0, vx0, ↓reduceIte, Nat.reduceBEq, Nat.reduceEqDiff, Nat.reduceLT, Nat.reduceLeDiff, Nat.reduceAdd, Nat.reduceMul, Nat.reduceSub, reduceCtorEq, Int.reduceToNat]) | (refine Br.mk (fun h => ?_) (fun h => ?_)) | (refine BrN.mk (fun h => ?_) ?_) | (refine AltVC.mk ?_ ?_)
        refine LoopVC.mk (X := Nat × List (List D)) (fun x => [(6, .ref 1 1 0 (ws.take x.1).flatten.length), (27, iv .i64 x.1)]) (fun x => [(1, ⟨1, x.2, true, false, .arr⟩)]) (fun x => ws.length - x.1) (fun x => x.1 ≤ ws.length ∧ (ws.take x.1).flatten.length ≤ x.2.length ∧ x.2.take (ws.take x.1).flatten.length = bls (ws.take x.1).flatten) (0, []) ⟨by simp, by simp, by simp [bls]⟩ ?_ ?_
        · (simp (disch := (first | omega | (simp only [vlen]; first | done | omega))) only [Fits_u, Fits_m, Fits_nil, List.length_append, ↓va0, ↓va1, ↓va2, ↓va3, vb0, vb1, vb2, vb3, vb4, vb5, vb6, vb7, vb8, vb9, vb10, vz0, vz1, vy0, vx0, ↓reduceIte, Nat.reduceBEq, Nat.reduceEqDiff, Nat.reduceLT, Nat.reduceLeDiff, Nat.reduceAdd, Nat.reduceMul, Nat.reduceSub, reduceCtorEq, Int.reduceToNat] <;> (repeat' first | rfl | apply And.intro))
        · rintro ⟨k, es1⟩ ⟨k1, k2, k3⟩
          simp only at k1 k2 k3
          have k4 : ¬ k < ws.length → ws.flatten.length ≤ es1.length := fun hn => by
            rw [show k = ws.length by omega, List.take_length] at k2; exact k2
          have b1 := flat_le ws k
          have b2 : k < ws.length → (ws.take k).flatten.length + (ws.getD k default).length ≤ 1000000 := fun hlt => by
            have := flat_le ws (k + 1)
            rw [flat_succ hlt, List.length_append] at this; omega
          repeat' first | (refine Br.dec (fun h => ?_) (fun h => ?_) <;> try (exfalso; omega)) | (refine Br.eqi (fun h => ?_) (fun h => ?_) <;> try (exfalso; omega)) | (simp (disch := (first | omega | (simp only [vlen]; first | done | omega))) only [↓va0, ↓va1, ↓va2, ↓va3, vb0, vb1, vb2, vb3, vb4, vb5, vb6, vb7, vb8, vb9, vb10, vz0, vz1, vy0, vx0, ↓reduceIte, Nat.reduceBEq, Nat.reduceEqDiff, Nat.reduceLT, Nat.reduceLeDiff, Nat.reduceAdd, Nat.reduceMul, Nat.reduceSub, reduceCtorEq, Int.reduceToNat]) | (refine Br.mk (fun h => ?_) (fun h => ?_)) | (refine BrN.mk (fun h => ?_) ?_) | (refine AltVC.mk ?_ ?_)
          · have hk : k < ws.length := by omega
            refine loopK.mk (k + 1, es1.take (ws.take k).flatten.length ++ bls (ws.getD k default)) (by simp (disch := (first | omega | (simp only [vlen]; first | done | omega))) only [↓va0, ↓va1, ↓va2, ↓va3, vb0, vb1, vb2, vb3, vb4, vb5, vb6, vb7, vb8, vb9, vb10, vz0, vz1, vy0, vx0, ↓reduceIte, Nat.reduceBEq, Nat.reduceEqDiff, Nat.reduceLT, Nat.reduceLeDiff, Nat.reduceAdd, Nat.reduceMul, Nat.reduceSub, reduceCtorEq, Int.reduceToNat]) ⟨by simp only; omega, ?_, ?_⟩ (by simp only; omega) ?_
            · simp only
              rw [flat_succ hk, k3, eA, eL]
              exact Nat.le_refl _
            · simp only
              rw [flat_succ hk, k3, eA]
              exact List.take_of_length_le (by rw [eL]; exact Nat.le_refl _)
            · (simp (disch := (first | omega | (simp only [vlen]; first | done | omega))) only [Fits_u, Fits_m, Fits_nil, List.length_append, ↓va0, ↓va1, ↓va2, ↓va3, vb0, vb1, vb2, vb3, vb4, vb5, vb6, vb7, vb8, vb9, vb10, vz0, vz1, vy0, vx0, ↓reduceIte, Nat.reduceBEq, Nat.reduceEqDiff, Nat.reduceLT, Nat.reduceLeDiff, Nat.reduceAdd, Nat.reduceMul, Nat.reduceSub, reduceCtorEq, Int.reduceToNat] <;> (repeat' first | rfl | apply And.intro))
              rw [flat_succ hk, List.length_append]
          · refine fin_mk (congrArg (D.sl 1) ?_)
            have e : k = ws.length := by omega
            subst e
            rw [List.take_length] at k3
            simpa using k3
      · refine CallVC.lend [] [.nl, iv .i64 ws.flatten.length] [] (grow_bool _ ⟨by omega, by omega⟩) (by simp) (by simp) rfl (by simp (disch := (first | omega | (simp only [vlen]; first | done | omega))) only [↓va0, ↓va1, ↓va2, ↓va3, vb0, vb1, vb2, vb3, vb4, vb5, vb6, vb7, vb8, vb9, vb10, vz0, vz1, vy0, vx0, ↓reduceIte, Nat.reduceBEq, Nat.reduceEqDiff, Nat.reduceLT, Nat.reduceLeDiff, Nat.reduceAdd, Nat.reduceMul, Nat.reduceSub, reduceCtorEq, Int.reduceToNat]) (by simp) ?_
        rintro r l ⟨rfl, es, rfl⟩
        repeat' first | (refine Br.dec (fun h => ?_) (fun h => ?_) <;> try (exfalso; omega)) | (refine Br.eqi (fun h => ?_) (fun h => ?_) <;> try (exfalso; omega)) | (simp (disch := (first | omega | (simp only [vlen]; first | done | omega))) only [↓va0, ↓va1, ↓va2, ↓va3, vb0, vb1, vb2, vb3, vb4, vb5, vb6, vb7, vb8, vb9, vb10, vz0, vz1, vy0, vx0, ↓reduceIte, Nat.reduceBEq, Nat.reduceEqDiff, Nat.reduceLT, Nat.reduceLeDiff, Nat.reduceAdd, Nat.reduceMul, Nat.reduceSub, reduceCtorEq, Int.reduceToNat]) | (refine Br.mk (fun h => ?_) (fun h => ?_)) | (refine BrN.mk (fun h => ?_) ?_) | (refine AltVC.mk ?_ ?_)
        refine LoopVC.mk (X := Nat × List (List D)) (fun x => [(6, .ref 2 1 0 (ws.take x.1).flatten.length), (27, iv .i64 x.1)]) (fun x => [(2, ⟨1, x.2, true, false, .arr⟩)]) (fun x => ws.length - x.1) (fun x => x.1 ≤ ws.length ∧ (ws.take x.1).flatten.length ≤ x.2.length ∧ x.2.take (ws.take x.1).flatten.length = bls (ws.take x.1).flatten) (0, es) ⟨by simp, by simp, by simp [bls]⟩ ?_ ?_
        · (simp (disch := (first | omega | (simp only [vlen]; first | done | omega))) only [Fits_u, Fits_m, Fits_nil, List.length_append, ↓va0, ↓va1, ↓va2, ↓va3, vb0, vb1, vb2, vb3, vb4, vb5, vb6, vb7, vb8, vb9, vb10, vz0, vz1, vy0, vx0, ↓reduceIte, Nat.reduceBEq, Nat.reduceEqDiff, Nat.reduceLT, Nat.reduceLeDiff, Nat.reduceAdd, Nat.reduceMul, Nat.reduceSub, reduceCtorEq, Int.reduceToNat] <;> (repeat' first | rfl | apply And.intro))
        · rintro ⟨k, es1⟩ ⟨k1, k2, k3⟩
          simp only at k1 k2 k3
          have k4 : ¬ k < ws.length → ws.flatten.length ≤ es1.length := fun hn => by
            rw [show k = ws.length by omega, List.take_length] at k2; exact k2
          have b1 := flat_le ws k
          have b2 : k < ws.length → (ws.take k).flatten.length + (ws.getD k default).length ≤ 1000000 := fun hlt => by
            have := flat_le ws (k + 1)
            rw [flat_succ hlt, List.length_append] at this; omega
          repeat' first | (refine Br.dec (fun h => ?_) (fun h => ?_) <;> try (exfalso; omega)) | (refine Br.eqi (fun h => ?_) (fun h => ?_) <;> try (exfalso; omega)) | (simp (disch := (first | omega | (simp only [vlen]; first | done | omega))) only [↓va0, ↓va1, ↓va2, ↓va3, vb0, vb1, vb2, vb3, vb4, vb5, vb6, vb7, vb8, vb9, vb10, vz0, vz1, vy0, vx0, ↓reduceIte, Nat.reduceBEq, Nat.reduceEqDiff, Nat.reduceLT, Nat.reduceLeDiff, Nat.reduceAdd, Nat.reduceMul, Nat.reduceSub, reduceCtorEq, Int.reduceToNat]) | (refine Br.mk (fun h => ?_) (fun h => ?_)) | (refine BrN.mk (fun h => ?_) ?_) | (refine AltVC.mk ?_ ?_)
          · have hk : k < ws.length := by omega
            refine loopK.mk (k + 1, es1.take (ws.take k).flatten.length ++ bls (ws.getD k default)) (by simp (disch := (first | omega | (simp only [vlen]; first | done | omega))) only [↓va0, ↓va1, ↓va2, ↓va3, vb0, vb1, vb2, vb3, vb4, vb5, vb6, vb7, vb8, vb9, vb10, vz0, vz1, vy0, vx0, ↓reduceIte, Nat.reduceBEq, Nat.reduceEqDiff, Nat.reduceLT, Nat.reduceLeDiff, Nat.reduceAdd, Nat.reduceMul, Nat.reduceSub, reduceCtorEq, Int.reduceToNat]) ⟨by simp only; omega, ?_, ?_⟩ (by simp only; omega) ?_
            · simp only
              rw [flat_succ hk, k3, eA, eL]
              exact Nat.le_refl _
            · simp only
              rw [flat_succ hk, k3, eA]
              exact List.take_of_length_le (by rw [eL]; exact Nat.le_refl _)
            · (simp (disch := (first | omega | (simp only [vlen]; first | done | omega))) only [Fits_u, Fits_m, Fits_nil, List.length_append, ↓va0, ↓va1, ↓va2, ↓va3, vb0, vb1, vb2, vb3, vb4, vb5, vb6, vb7, vb8, vb9, vb10, vz0, vz1, vy0, vx0, ↓reduceIte, Nat.reduceBEq, Nat.reduceEqDiff, Nat.reduceLT, Nat.reduceLeDiff, Nat.reduceAdd, Nat.reduceMul, Nat.reduceSub, reduceCtorEq, Int.reduceToNat] <;> (repeat' first | rfl | apply And.intro))
              rw [flat_succ hk, List.length_append]
          · refine fin_mk (congrArg (D.sl 1) ?_)
            have e : k = ws.length := by omega
            subst e
            rw [List.take_length] at k3
            simpa using k3
end Go.Proofs.Ytllkafockafdcaa
