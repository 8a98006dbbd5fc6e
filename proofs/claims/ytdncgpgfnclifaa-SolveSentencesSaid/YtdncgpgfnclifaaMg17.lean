/-
 Texts of this claim, one behind another.
-/
import Derived.Test.YtdncgpgfnclifaaKq
import Derived.Test.YtdncgpgfnclifaaMg15
namespace Go.Proofs.Ytdncgpgfnclifaa
open Go.Dm
set_option linter.unusedSimpArgs false
set_option linter.unnecessarySimpa false
set_option linter.unusedVariables false
set_option linter.defProp false
def rpL (v : Int) (n c : Nat) : List Int := List.replicate c v ++ List.replicate (n - c) 0
theorem rpL_len {v : Int} {n c : Nat} (h : c ≤ n) : (rpL v n c).length = n := by simp [rpL]; omega
theorem rpL_step {v : Int} {n c : Nat} (h : c ≤ n) : cpyR c (n - c) (i64s (rpL v n c)) (((i64s (rpL v n c)).drop 0).take c) = i64s (rpL v n (c + min c (n - c))) := by
  unfold cpyR rpL i64s
  simp only [List.drop_zero, ← List.map_take, ← List.map_drop, List.length_map, ← List.map_append, List.length_take, List.length_append, List.length_replicate]
  congr 1
  have e1 : (List.replicate c v ++ List.replicate (n - c) 0).take c = List.replicate c v := by
    rw [List.take_append_of_le_length (by simp), List.take_of_length_le (by simp)]
  rw [e1, List.take_replicate, List.drop_append]
  simp only [List.length_replicate]
  apply List.ext_getElem
  · simp; omega
  · intro i h1 h2
    simp only [List.getElem_append, List.getElem_replicate, List.length_append, List.length_replicate, List.length_drop]
    (repeat' split) <;> first | rfl | (exfalso; omega) | skip
    all_goals (simp at *; try omega)
set_option maxRecDepth 10000 in
set_option maxHeartbeats 4000000 in
theorem mul86_spec (n : Nat) (hn : n ≤ 16) : Dm.Spec Try.prog 27 [.v (.int .u64 1), .v (.int .u64 n)] (· = .tu [.v (.int .u64 0), .v (.int .u64 n)]) := by
  refine spec_of_vc mixed Try.func27 c27 (by rw [show Try.f27.ntmps = _ from Try.ntmps27]; simp) ?_
  unfold m27 r27
  repeat' first | ((first | refine Br.dec ?_ ?_ | refine Br.eqi ?_ ?_) <;> intro h <;> try (exfalso; omega)) | (simp (disch := first | omega | (simp only [vlen]; first | done | omega)) only [vkq, ↓vAq, vBq, ↓reduceIte, Nat.reduceBEq, Nat.reduceEqDiff, Nat.reduceLT, Nat.reduceLeDiff, Nat.reduceAdd, Nat.reduceMul, Nat.reduceSub, reduceCtorEq, Int.reduceToNat]) | (refine Br.mk ?_ ?_ <;> intro h) | (refine BrN.mk (fun h => ?_) ?_) | (refine AltVC.mk ?_ ?_)
  refine fin_mk ?_
  have h : n = 0 ∨ n = 1 ∨ n = 2 ∨ n = 3 ∨ n = 4 ∨ n = 5 ∨ n = 6 ∨ n = 7 ∨ n = 8 ∨ n = 9 ∨ n = 10 ∨ n = 11 ∨ n = 12 ∨ n = 13 ∨ n = 14 ∨ n = 15 ∨ n = 16 := by omega
  rcases h with rfl | rfl | rfl | rfl | rfl | rfl | rfl | rfl | rfl | rfl | rfl | rfl | rfl | rfl | rfl | rfl | rfl <;> rfl
set_option maxRecDepth 10000 in
set_option maxHeartbeats 4000000 in
theorem mul75_spec (n : Nat) (hn : n ≤ 16) : Dm.Spec Try.prog 23 [.v (.int .u64 1), .v (.int .u64 n)] (· = .tu [.v (.int .u64 0), .v (.int .u64 n)]) := by
  refine spec_of_vc mixed Try.func23 c23 (by rw [show Try.f23.ntmps = _ from Try.ntmps23]; simp) ?_
  unfold m23 r23
  repeat' first | ((first | refine Br.dec ?_ ?_ | refine Br.eqi ?_ ?_) <;> intro h <;> try (exfalso; omega)) | (simp (disch := first | omega | (simp only [vlen]; first | done | omega)) only [vkq, ↓vAq, vBq, ↓reduceIte, Nat.reduceBEq, Nat.reduceEqDiff, Nat.reduceLT, Nat.reduceLeDiff, Nat.reduceAdd, Nat.reduceMul, Nat.reduceSub, reduceCtorEq, Int.reduceToNat]) | (refine Br.mk ?_ ?_ <;> intro h) | (refine BrN.mk (fun h => ?_) ?_) | (refine AltVC.mk ?_ ?_)
  refine CallVC.eq (mul86_spec n hn) ?_
  repeat' first | ((first | refine Br.dec ?_ ?_ | refine Br.eqi ?_ ?_) <;> intro h <;> try (exfalso; omega)) | (simp (disch := first | omega | (simp only [vlen]; first | done | omega)) only [vkq, ↓vAq, vBq, ↓reduceIte, Nat.reduceBEq, Nat.reduceEqDiff, Nat.reduceLT, Nat.reduceLeDiff, Nat.reduceAdd, Nat.reduceMul, Nat.reduceSub, reduceCtorEq, Int.reduceToNat]) | (refine Br.mk ?_ ?_ <;> intro h) | (refine BrN.mk (fun h => ?_) ?_) | (refine AltVC.mk ?_ ?_)
  exact fin_mk rfl
theorem i64s_cl {l : List Int} : ((i64s l).all fun e => e.all D.cl) = true := by
  simp only [i64s, List.all_map, List.all_eq_true]
  intro x _
  show ([D.v (.int .i64 x)].all D.cl) = true
  rw [List.all_cons, List.all_nil, Bool.and_true]
  unfold D.cl
  rw [alls_leaf rfl]; rfl
theorem rp_0 {v : Int} {n : Nat} (h : 1 ≤ n) : cpyR 0 n (i64s (tab n fun _ => 0)) [[D.v (.int .i64 v)]] = i64s (rpL v n 1) := by
  have e : (tab n fun _ => (0 : Int)) = List.replicate n 0 := by
    apply List.ext_getElem <;> simp [tab]
  rw [e]
  unfold cpyR rpL i64s
  obtain ⟨m, rfl⟩ : ∃ m, n = m + 1 := ⟨n - 1, by omega⟩
  simp [List.replicate_succ]
def vkr := And.intro vkq <| And.intro @i64s_cl @rpL_len
set_option maxRecDepth 10000 in
set_option maxHeartbeats 4000000 in
theorem repeat_spec (v : Int) (n : Nat) (hn : 1 ≤ n ∧ n ≤ 16) : Dm.SpecH Try.prog 12 [.sl 1 (i64s [v]), iv .i64 n] [] (fun d o => d = .ref 1 1 0 n ∧ o = [none, some ⟨1, i64s (List.replicate n v), true, false, .arr⟩]) := by
  refine specH_of_vc mixed Try.func12 c12 (by rw [show Try.f12.ntmps = _ from Try.ntmps12]; simp) ?_
  unfold m12 r12
  have e1 : i64s [v] = [[D.v (.int .i64 v)]] := rfl
  rw [e1]
  repeat' first | ((first | refine Br.dec ?_ ?_ | refine Br.eqi ?_ ?_) <;> intro h <;> try (exfalso; omega)) | (simp (disch := first | omega | (simp only [vlen]; first | done | omega)) only [vkr, ↓vAq, vBq, ↓reduceIte, Nat.reduceBEq, Nat.reduceEqDiff, Nat.reduceLT, Nat.reduceLeDiff, Nat.reduceAdd, Nat.reduceMul, Nat.reduceSub, reduceCtorEq, Int.reduceToNat]) | (refine Br.mk ?_ ?_ <;> intro h) | (refine BrN.mk (fun h => ?_) ?_) | (refine AltVC.mk ?_ ?_)
  refine CallVC.eq (mul75_spec n hn.2) ?_
  repeat' first | ((first | refine Br.dec ?_ ?_ | refine Br.eqi ?_ ?_) <;> intro h <;> try (exfalso; omega)) | (simp (disch := first | omega | (simp only [vlen]; first | done | omega)) only [vkr, ↓vAq, vBq, ↓reduceIte, Nat.reduceBEq, Nat.reduceEqDiff, Nat.reduceLT, Nat.reduceLeDiff, Nat.reduceAdd, Nat.reduceMul, Nat.reduceSub, reduceCtorEq, Int.reduceToNat]) | (refine Br.mk ?_ ?_ <;> intro h) | (refine BrN.mk (fun h => ?_) ?_) | (refine AltVC.mk ?_ ?_)
  have e0 := @rp_0 v n hn.1
  have em : min 1 n = 1 := by omega
  refine LoopVC.mk (X := Nat) (fun c => [(7, .ref 1 1 0 n), (8, iv .i64 c)]) (fun c => [(1, ⟨1, i64s (rpL v n c), true, false, .arr⟩)]) (fun c => n - c) (fun c => 1 ≤ c ∧ c ≤ n) 1 ⟨Nat.le_refl _, hn.1⟩ ?_ ?_
  · (simp (disch := first | omega | (simp only [vlen]; first | done | omega)) only [Fits_u, Fits_m, Fits_nil, List.length_append, e0, em, vkr, ↓vAq, vBq, ↓reduceIte, Nat.reduceBEq, Nat.reduceEqDiff, Nat.reduceLT, Nat.reduceLeDiff, Nat.reduceAdd, Nat.reduceMul, Nat.reduceSub, reduceCtorEq, Int.reduceToNat] <;> (repeat' first | rfl | apply And.intro))
    all_goals first | rfl | trace_state
  · rintro c ⟨hc1, hc2⟩
    have hl := @rpL_len v n c hc2
    by_cases hcn : c < n
    · have hst := @rpL_step v n c hc2
      have htl : (List.take (c - 0) (rpL v n c)).length = c := by rw [List.length_take, hl]; omega
      have hst2 : cpyR c (n - c) (i64s (rpL v n c)) (i64s (List.take (c - 0) (rpL v n c))) = i64s (rpL v n (c + min c (n - c))) := by
        rw [← hst]
        congr 1
        simp [i64s, List.map_take]
      repeat' first | ((first | refine Br.dec ?_ ?_ | refine Br.eqi ?_ ?_) <;> intro h <;> try (exfalso; omega)) | (simp (disch := first | omega | (simp only [vlen]; first | done | omega)) only [hl, htl, hst2, vkr, ↓vAq, vBq, ↓reduceIte, Nat.reduceBEq, Nat.reduceEqDiff, Nat.reduceLT, Nat.reduceLeDiff, Nat.reduceAdd, Nat.reduceMul, Nat.reduceSub, reduceCtorEq, Int.reduceToNat]) | (refine Br.mk ?_ ?_ <;> intro h) | (refine BrN.mk (fun h => ?_) ?_) | (refine AltVC.mk ?_ ?_)
      refine loopK.mk (c + min c (n - c)) (by simp (disch := first | omega | (simp only [vlen]; first | done | omega)) only [vkr, ↓vAq, vBq, ↓reduceIte, Nat.reduceBEq, Nat.reduceEqDiff, Nat.reduceLT, Nat.reduceLeDiff, Nat.reduceAdd, Nat.reduceMul, Nat.reduceSub, reduceCtorEq, Int.reduceToNat]) (by show 1 ≤ c + min c (n - c) ∧ c + min c (n - c) ≤ n; omega) (by show n - (c + min c (n - c)) < n - c; omega) ?_
      (simp (disch := first | omega | (simp only [vlen]; first | done | omega)) only [Fits_u, Fits_m, Fits_nil, List.length_append, htl, hst2, vkr, ↓vAq, vBq, ↓reduceIte, Nat.reduceBEq, Nat.reduceEqDiff, Nat.reduceLT, Nat.reduceLeDiff, Nat.reduceAdd, Nat.reduceMul, Nat.reduceSub, reduceCtorEq, Int.reduceToNat] <;> (repeat' first | rfl | apply And.intro))
      all_goals first | rfl | exact viEq (by omega) | trace_state
    · have hce : c = n := by omega
      subst hce
      have hrp : rpL v c c = List.replicate c v := by simp [rpL]
      have hrt : List.replicate c v = tab c fun _ => v := by apply List.ext_getElem <;> simp [tab]
      rw [hrt] at hrp
      repeat' first | ((first | refine Br.dec ?_ ?_ | refine Br.eqi ?_ ?_) <;> intro h <;> try (exfalso; omega)) | (simp (disch := first | omega | (simp only [vlen]; first | done | omega)) only [hrp, vkr, ↓vAq, vBq, ↓reduceIte, Nat.reduceBEq, Nat.reduceEqDiff, Nat.reduceLT, Nat.reduceLeDiff, Nat.reduceAdd, Nat.reduceMul, Nat.reduceSub, reduceCtorEq, Int.reduceToNat]) | (refine Br.mk ?_ ?_ <;> intro h) | (refine BrN.mk (fun h => ?_) ?_) | (refine AltVC.mk ?_ ?_)
      exact finH_mk [none, some ⟨1, i64s (tab c fun _ => v), true, false, .arr⟩] (by simp) (by simp (disch := first | omega | (simp only [vlen]; first | done | omega)) only [vkr, ↓vAq, vBq, ↓reduceIte, Nat.reduceBEq, Nat.reduceEqDiff, Nat.reduceLT, Nat.reduceLeDiff, Nat.reduceAdd, Nat.reduceMul, Nat.reduceSub, reduceCtorEq, Int.reduceToNat]) (by simp (disch := first | omega | (simp only [vlen]; first | done | omega)) only [hrp, vkr, ↓vAq, vBq, ↓reduceIte, Nat.reduceBEq, Nat.reduceEqDiff, Nat.reduceLT, Nat.reduceLeDiff, Nat.reduceAdd, Nat.reduceMul, Nat.reduceSub, reduceCtorEq, Int.reduceToNat]) ⟨by simp (disch := first | omega | (simp only [vlen]; first | done | omega)) only [vkr, ↓vAq, vBq, ↓reduceIte, Nat.reduceBEq, Nat.reduceEqDiff, Nat.reduceLT, Nat.reduceLeDiff, Nat.reduceAdd, Nat.reduceMul, Nat.reduceSub, reduceCtorEq, Int.reduceToNat], rfl⟩
end Go.Proofs.Ytdncgpgfnclifaa

namespace Go.Dm
set_option linter.unusedSimpArgs false
set_option linter.unusedVariables false
set_option linter.unnecessarySimpa false
section
variable {nx : Nat → Int → Nat} {K : Int}
def zL (nx : Nat → Int → Nat) (i a j : Nat) : Lg := fun u => ∃ s : Int, (0 ≤ s ∧ s < a) ∧ u = [s] ∧ nx i s = j
theorem zL_0 {i j : Nat} : zL nx i 0 j = noL := by
  funext u
  exact propext ⟨fun ⟨s, h, _⟩ => by have := h.1; have := h.2; omega, False.elim⟩
theorem zL_hit {i a : Nat} : zL nx i (a + 1) (nx i (a : Int)) = orL (zL nx i a (nx i (a : Int))) (syL (a : Int)) := by
  funext u
  refine propext ⟨fun ⟨s, h1, h2, h3⟩ => ?_, fun h => ?_⟩
  · by_cases e : s = (a : Int)
    · right; subst e; exact h2
    · left; exact ⟨s, ⟨h1.1, by have := h1.2; omega⟩, h2, h3⟩
  · rcases h with ⟨s, h1, h2, h3⟩ | h
    · exact ⟨s, ⟨h1.1, by have := h1.2; omega⟩, h2, h3⟩
    · exact ⟨(a : Int), ⟨by omega, by omega⟩, h, rfl⟩
theorem zL_miss {i a j : Nat} (h : j ≠ nx i (a : Int)) : zL nx i (a + 1) j = zL nx i a j := by
  funext u
  refine propext ⟨fun ⟨s, h1, h2, h3⟩ => ?_, fun ⟨s, h1, h2, h3⟩ => ⟨s, ⟨h1.1, by have := h1.2; omega⟩, h2, h3⟩⟩
  by_cases e : s = (a : Int)
  · subst e; exact absurd h3.symm h
  · exact ⟨s, ⟨h1.1, by have := h1.2; omega⟩, h2, h3⟩
theorem zL_all {i j a : Nat} (h : K = a) : zL nx i a j = Pt nx K 0 i j := by
  funext u
  rw [h]
  exact propext pt_zero.symm
theorem pt_step {k i j : Nat} : Pt nx K (k + 1) i j = orL (Pt nx K k i j) (catL (Pt nx K k i k) (catL (Star (Pt nx K k k k)) (Pt nx K k k j))) := by
  funext u
  exact propext pt_succ
def fL (nx : Nat → Int → Nat) (K : Int) (N st : Nat) (fin : Nat → Bool) (n : Nat) : Lg := fun u => ∃ s, s < n ∧ fin s = true ∧ (Pt nx K N st s u ∨ (s = st ∧ u = []))
variable {N st n : Nat} {fin : Nat → Bool}
theorem fL_0 : fL nx K N st fin 0 = noL := by
  funext u
  exact propext ⟨fun ⟨s, h, _⟩ => absurd h (Nat.not_lt_zero _), False.elim⟩
theorem fL_no (h : fin n = false) : fL nx K N st fin (n + 1) = fL nx K N st fin n := by
  funext u
  refine propext ⟨fun ⟨s, h1, h2, h3⟩ => ?_, fun ⟨s, h1, h2⟩ => ⟨s, by omega, h2⟩⟩
  by_cases e : s = n
  · subst e; rw [h] at h2; cases h2
  · exact ⟨s, by omega, h2, h3⟩
theorem fL_yes (h : fin n = true) (hs : n ≠ st) : fL nx K N st fin (n + 1) = orL (fL nx K N st fin n) (Pt nx K N st n) := by
  funext u
  refine propext ⟨fun ⟨s, h1, h2, h3⟩ => ?_, fun h' => ?_⟩
  · by_cases e : s = n
    · subst e; right
      rcases h3 with h3 | h3
      · exact h3
      · exact absurd h3.1 hs
    · exact .inl ⟨s, by omega, h2, h3⟩
  · rcases h' with ⟨s, h1, h2⟩ | h'
    · exact ⟨s, by omega, h2⟩
    · exact ⟨n, Nat.lt_succ_self _, h, .inl h'⟩
theorem fL_st (h : fin n = true) (hs : n = st) : fL nx K N st fin (n + 1) = orL (orL (fL nx K N st fin n) (Pt nx K N st n)) emL := by
  funext u
  refine propext ⟨fun ⟨s, h1, h2, h3⟩ => ?_, fun h' => ?_⟩
  · by_cases e : s = n
    · subst e
      rcases h3 with h3 | h3
      · exact .inl (.inr h3)
      · exact .inr h3.2
    · exact .inl (.inl ⟨s, by omega, h2, h3⟩)
  · rcases h' with (⟨s, h1, h2⟩ | h') | h'
    · exact ⟨s, by omega, h2⟩
    · exact ⟨n, Nat.lt_succ_self _, h, .inl h'⟩
    · exact ⟨n, Nat.lt_succ_self _, h, .inr ⟨hs, h'⟩⟩
theorem fL_all (hn : ∀ i s, i < N → 0 ≤ s → s < K → nx i s < N) (hst : st < N) {u : List Int} (hu : ∀ s, s ∈ u → 0 ≤ s ∧ s < K) : fL nx K N st fin N u ↔ fin (ldN nx st u) = true := by
  have hld : ∀ (u : List Int) (i : Nat), i < N → (∀ s, s ∈ u → 0 ≤ s ∧ s < K) → ldN nx i u < N := by
    intro u
    induction u with
    | nil => exact fun i hi _ => hi
    | cons s u ih => exact fun i hi h => ih _ (hn i s hi (h s (by simp)).1 (h s (by simp)).2) fun x hx => h x (List.mem_cons_of_mem _ hx)
  constructor
  · rintro ⟨s, h1, h2, h3⟩
    rcases h3 with h3 | ⟨h3, h4⟩
    · have := ((pt_all hn hst).1 h3).2.2
      rw [this]; exact h2
    · rw [h4]; show fin st = true; rw [← h3]; exact h2
  · intro h
    refine ⟨ldN nx st u, hld u st hst hu, h, ?_⟩
    by_cases e : u = []
    · right; subst e; exact ⟨rfl, rfl⟩
    · left; exact (pt_all hn hst).2 ⟨e, hu, rfl⟩
end
end Go.Dm
