/-
  Machines: what is wrong with one; the law MachineChecks.
-/
import Derived.Test.YtmhpfgklfpgniaaLibF
import Derived.Test.YtmhpfgklfpgniaaBits
namespace Go.Proofs.Ytmhpfgklfpgniaa
open Go.Dm
set_option linter.unusedSimpArgs false
set_option linter.unnecessarySimpa false
set_option linter.unusedVariables false

theorem any_hit {α : Type} [Inhabited α] {p : α → Bool} {l : List α} {i : Nat} (hi : i < l.length) (h : p (l.getD i default) = true) : l.any p = true :=
  List.any_eq_true.2 ⟨_, getD_mem' hi, h⟩
theorem succ_all {p : Nat → Prop} {i : Nat} (h : ∀ j, j < i → p j) (hi : p i) : ∀ j, j < i + 1 → p j := fun j hj => by
  by_cases e : j = i
  · rw [e]; exact hi
  · exact h j (by omega)
def badState (m : Dm.Machine) (x : Int) : Bool := decide (x < 0 ∨ m.n ≤ x)
def mcode (m : Dm.Machine) : Int :=
  if ¬ (1 ≤ m.n ∧ m.n ≤ 7) ∨ ¬ (1 ≤ m.k ∧ m.k ≤ 3) then 1
  else if (m.next.length : Int) ≠ m.n ∨ m.next.any (fun l => decide ((l.length : Int) ≠ m.k)) = true then 3
  else if m.next.any (fun l => l.any (badState m)) = true ∨ badState m m.start = true then 2
  else if 2 ^ m.n.toNat ≤ m.final.toNat then 4
  else 0
/-- A machine all of whose parts are in their bounds. -/
structure VM (m : Dm.Machine) : Prop where
  n : 1 ≤ m.n ∧ m.n ≤ 7
  k : 1 ≤ m.k ∧ m.k ≤ 3
  len : (m.next.length : Int) = m.n
  row : ∀ l, l ∈ m.next → (l.length : Int) = m.k
  to : ∀ l, l ∈ m.next → ∀ x, x ∈ l → 0 ≤ x ∧ x < m.n
  start : 0 ≤ m.start ∧ m.start < m.n
  final : 0 ≤ m.final ∧ m.final.toNat < 2 ^ m.n.toNat
theorem vm_of {m : Dm.Machine} (hf : 0 ≤ m.final) (h : mcode m = 0) : VM m := by
  unfold mcode at h
  split at h
  · omega
  · next h1 =>
    split at h
    · omega
    · next h2 =>
      split at h
      · omega
      · next h3 =>
        split at h
        · omega
        · next h4 =>
          have hb : ∀ x, ¬ badState m x = true → 0 ≤ x ∧ x < m.n := fun x hx => by
            unfold badState at hx; rw [decide_eq_true_eq] at hx; omega
          refine ⟨by omega, by omega, by omega, fun l hl => ?_, fun l hl x hx => hb x fun e => h3 (.inl (List.any_eq_true.2 ⟨l, hl, List.any_eq_true.2 ⟨x, hx, e⟩⟩)), hb _ fun e => h3 (.inr e), hf, by omega⟩
          by_cases e : (l.length : Int) = m.k
          · exact e
          · exact absurd (.inr (List.any_eq_true.2 ⟨l, hl, decide_eq_true e⟩)) h2
set_option maxRecDepth 10000 in
set_option maxHeartbeats 4000000 in
theorem within_spec (n lo hi : Int) : Dm.Spec Try.prog 68 [iv .i64 n, iv .i64 lo, iv .i64 hi] (· = .v (.bool (decide (lo ≤ n ∧ n ≤ hi)))) := by
  refine spec_of_vc mixed Try.func68 c68 (by rw [show Try.f68.ntmps = _ from Try.ntmps68]; simp) ?_
  unfold m68 r68
  repeat' first | (refine Br.dec (fun h => ?_) (fun h => ?_) <;> try (exfalso; omega)) | (refine Br.eqi (fun h => ?_) (fun h => ?_) <;> try (exfalso; omega)) | (simp (disch := (first | omega | (simp only [vlen]; first | done | omega))) only [↓va0, ↓va1, ↓va2, ↓va3, vb0, vb1, vb2, vb3, vb4, vb5, vb6, vb7, vb8, vb9, vb10, vz0, vz1, vy0, vx0, ↓reduceIte, Nat.reduceBEq, Nat.reduceEqDiff, Nat.reduceLT, Nat.reduceLeDiff, Nat.reduceAdd, Nat.reduceMul, Nat.reduceSub, reduceCtorEq, Int.reduceToNat]) | (refine Br.mk (fun h => ?_) (fun h => ?_)) | (refine BrN.mk (fun h => ?_) ?_) | (refine AltVC.mk ?_ ?_)
  · exact fin_mk (vbEq (dec_iff (by omega)))
  · exact fin_mk (vbEq (decide_eq_false (by omega)).symm)
set_option maxRecDepth 10000 in
set_option maxHeartbeats 4000000 in
theorem mrow_spec (m : Dm.Machine) (l : List Int) : Dm.Spec Try.prog 73 [.sl 1 (i64s l), .ip (macD m) 0] (· = .v (.bool (decide ((l.length : Int) ≠ m.k)))) := by
  refine spec_of_vc mixed Try.func73 c73 (by rw [show Try.f73.ntmps = _ from Try.ntmps73]; simp) ?_
  unfold m73 r73
  repeat' first | (refine Br.dec (fun h => ?_) (fun h => ?_) <;> try (exfalso; omega)) | (refine Br.eqi (fun h => ?_) (fun h => ?_) <;> try (exfalso; omega)) | (simp (disch := (first | omega | (simp only [vlen]; first | done | omega))) only [↓va0, ↓va1, ↓va2, ↓va3, vb0, vb1, vb2, vb3, vb4, vb5, vb6, vb7, vb8, vb9, vb10, vz0, vz1, vy0, vx0, ↓reduceIte, Nat.reduceBEq, Nat.reduceEqDiff, Nat.reduceLT, Nat.reduceLeDiff, Nat.reduceAdd, Nat.reduceMul, Nat.reduceSub, reduceCtorEq, Int.reduceToNat]) | (refine Br.mk (fun h => ?_) (fun h => ?_)) | (refine BrN.mk (fun h => ?_) ?_) | (refine AltVC.mk ?_ ?_)
  exact fin_mk (vbEq (by rw [decide_not]; rfl))
set_option maxRecDepth 10000 in
set_option maxHeartbeats 4000000 in
theorem mstate_spec (m : Dm.Machine) (hn : 1 ≤ m.n ∧ m.n ≤ 7) (x : Int) : Dm.Spec Try.prog 74 [iv .i64 x, .ip (macD m) 0] (· = .v (.bool (!badState m x))) := by
  refine spec_of_vc mixed Try.func74 c74 (by rw [show Try.f74.ntmps = _ from Try.ntmps74]; simp) ?_
  unfold m74 r74
  repeat' first | (refine Br.dec (fun h => ?_) (fun h => ?_) <;> try (exfalso; omega)) | (refine Br.eqi (fun h => ?_) (fun h => ?_) <;> try (exfalso; omega)) | (simp (disch := (first | omega | (simp only [vlen]; first | done | omega))) only [↓va0, ↓va1, ↓va2, ↓va3, vb0, vb1, vb2, vb3, vb4, vb5, vb6, vb7, vb8, vb9, vb10, vz0, vz1, vy0, vx0, ↓reduceIte, Nat.reduceBEq, Nat.reduceEqDiff, Nat.reduceLT, Nat.reduceLeDiff, Nat.reduceAdd, Nat.reduceMul, Nat.reduceSub, reduceCtorEq, Int.reduceToNat]) | (refine Br.mk (fun h => ?_) (fun h => ?_)) | (refine BrN.mk (fun h => ?_) ?_) | (refine AltVC.mk ?_ ?_)
  refine CallVC.eq (within_spec _ _ _) ?_
  repeat' first | (refine Br.dec (fun h => ?_) (fun h => ?_) <;> try (exfalso; omega)) | (refine Br.eqi (fun h => ?_) (fun h => ?_) <;> try (exfalso; omega)) | (simp (disch := (first | omega | (simp only [vlen]; first | done | omega))) only [↓va0, ↓va1, ↓va2, ↓va3, vb0, vb1, vb2, vb3, vb4, vb5, vb6, vb7, vb8, vb9, vb10, vz0, vz1, vy0, vx0, ↓reduceIte, Nat.reduceBEq, Nat.reduceEqDiff, Nat.reduceLT, Nat.reduceLeDiff, Nat.reduceAdd, Nat.reduceMul, Nat.reduceSub, reduceCtorEq, Int.reduceToNat]) | (refine Br.mk (fun h => ?_) (fun h => ?_)) | (refine BrN.mk (fun h => ?_) ?_) | (refine AltVC.mk ?_ ?_)
  refine fin_mk (vbEq ?_)
  unfold badState
  rw [← decide_not]
  exact dec_iff (by omega)
theorem fin_zero {f n : Int} (hf : 0 ≤ f ∧ f ≤ 4294967295) (hn : 0 ≤ n ∧ n ≤ 32) : f.fdiv (2 ^ (min n.toNat IntKind.u32.bits)) = 0 ↔ f.toNat < 2 ^ n.toNat := by
  rw [shr32 hf hn, ← shr_zero]
  omega
abbrev mOb (m : Dm.Machine) : Ob := ⟨5, [[iv .i64 m.n, iv .i64 m.k, .sl 1 (rows i64s m.next), iv .i64 m.start, iv .u32 m.final]], true, false, .fix⟩
set_option maxRecDepth 10000 in
set_option maxHeartbeats 4000000 in
theorem mCheck_spec (m : Dm.Machine) (hm : m.ok) : Dm.Spec Try.prog 49 [.ag (macD m)] (· = iv .i64 (mcode m)) := by
  refine spec_of_vc mixed Try.func49 c49 (by rw [show Try.f49.ntmps = _ from Try.ntmps49]; simp) ?_
  unfold m49 r49
  have hr : m.next.length ≤ 9223372036854775807 := maxLen_le hm.2.2.1.1
  have hq : ∀ r, r ∈ m.next → r.length ≤ 9223372036854775807 := fun r h => maxLen_le (hm.2.2.1.2 r h).1
  have hf : 0 ≤ m.final ∧ m.final ≤ 4294967295 := hm.2.2.2.2
  have r1 : ¬ (1 ≤ m.n ∧ m.n ≤ 7) ∨ ¬ (1 ≤ m.k ∧ m.k ≤ 3) → mcode m = 1 := fun h => by rw [mcode, if_pos h]
  repeat' first | (refine Br.dec (fun h => ?_) (fun h => ?_) <;> try (exfalso; omega)) | (refine Br.eqi (fun h => ?_) (fun h => ?_) <;> try (exfalso; omega)) | (simp (disch := (first | omega | (simp only [vlen]; first | done | omega))) only [↓va0, ↓va1, ↓va2, ↓va3, vb0, vb1, vb2, vb3, vb4, vb5, vb6, vb7, vb8, vb9, vb10, vz0, vz1, vy0, vx0, ↓reduceIte, Nat.reduceBEq, Nat.reduceEqDiff, Nat.reduceLT, Nat.reduceLeDiff, Nat.reduceAdd, Nat.reduceMul, Nat.reduceSub, reduceCtorEq, Int.reduceToNat]) | (refine Br.mk (fun h => ?_) (fun h => ?_)) | (refine BrN.mk (fun h => ?_) ?_) | (refine AltVC.mk ?_ ?_)
  refine CallVC.eq (within_spec _ _ _) ?_
  repeat' first | (refine Br.dec (fun h => ?_) (fun h => ?_) <;> try (exfalso; omega)) | (refine Br.eqi (fun h => ?_) (fun h => ?_) <;> try (exfalso; omega)) | (simp (disch := (first | omega | (simp only [vlen]; first | done | omega))) only [↓va0, ↓va1, ↓va2, ↓va3, vb0, vb1, vb2, vb3, vb4, vb5, vb6, vb7, vb8, vb9, vb10, vz0, vz1, vy0, vx0, ↓reduceIte, Nat.reduceBEq, Nat.reduceEqDiff, Nat.reduceLT, Nat.reduceLeDiff, Nat.reduceAdd, Nat.reduceMul, Nat.reduceSub, reduceCtorEq, Int.reduceToNat]) | (refine Br.mk (fun h => ?_) (fun h => ?_)) | (refine BrN.mk (fun h => ?_) ?_) | (refine AltVC.mk ?_ ?_)
  · refine CallVC.eq (within_spec _ _ _) ?_
    repeat' first | (refine Br.dec (fun h => ?_) (fun h => ?_) <;> try (exfalso; omega)) | (refine Br.eqi (fun h => ?_) (fun h => ?_) <;> try (exfalso; omega)) | (simp (disch := (first | omega | (simp only [vlen]; first | done | omega))) only [↓va0, ↓va1, ↓va2, ↓va3, vb0, vb1, vb2, vb3, vb4, vb5, vb6, vb7, vb8, vb9, vb10, vz0, vz1, vy0, vx0, ↓reduceIte, Nat.reduceBEq, Nat.reduceEqDiff, Nat.reduceLT, Nat.reduceLeDiff, Nat.reduceAdd, Nat.reduceMul, Nat.reduceSub, reduceCtorEq, Int.reduceToNat]) | (refine Br.mk (fun h => ?_) (fun h => ?_)) | (refine BrN.mk (fun h => ?_) ?_) | (refine AltVC.mk ?_ ?_)
    · refine CallVC.eqo (conF_ints m.next (fun l => decide ((l.length : Int) ≠ m.k)) _ [.ip (macD m) 0] hr (by simp (disch := (first | omega | (simp only [vlen]; first | done | omega))) only [↓va0, ↓va1, ↓va2, ↓va3, vb0, vb1, vb2, vb3, vb4, vb5, vb6, vb7, vb8, vb9, vb10, vz0, vz1, vy0, vx0, ↓reduceIte, Nat.reduceBEq, Nat.reduceEqDiff, Nat.reduceLT, Nat.reduceLeDiff, Nat.reduceAdd, Nat.reduceMul, Nat.reduceSub, reduceCtorEq, Int.reduceToNat]) fun l h => mrow_spec m l) (by simp (disch := (first | omega | (simp only [vlen]; first | done | omega))) only [↓va0, ↓va1, ↓va2, ↓va3, vb0, vb1, vb2, vb3, vb4, vb5, vb6, vb7, vb8, vb9, vb10, vz0, vz1, vy0, vx0, ↓reduceIte, Nat.reduceBEq, Nat.reduceEqDiff, Nat.reduceLT, Nat.reduceLeDiff, Nat.reduceAdd, Nat.reduceMul, Nat.reduceSub, reduceCtorEq, Int.reduceToNat]) ?_
      repeat' first | (refine Br.dec (fun h => ?_) (fun h => ?_) <;> try (exfalso; omega)) | (refine Br.eqi (fun h => ?_) (fun h => ?_) <;> try (exfalso; omega)) | (simp (disch := (first | omega | (simp only [vlen]; first | done | omega))) only [↓va0, ↓va1, ↓va2, ↓va3, vb0, vb1, vb2, vb3, vb4, vb5, vb6, vb7, vb8, vb9, vb10, vz0, vz1, vy0, vx0, ↓reduceIte, Nat.reduceBEq, Nat.reduceEqDiff, Nat.reduceLT, Nat.reduceLeDiff, Nat.reduceAdd, Nat.reduceMul, Nat.reduceSub, reduceCtorEq, Int.reduceToNat]) | (refine Br.mk (fun h => ?_) (fun h => ?_)) | (refine BrN.mk (fun h => ?_) ?_) | (refine AltVC.mk ?_ ?_)
      · exact fin_mk (by rw [mcode, if_neg (by omega), if_pos (.inr (by assumption))])
      · have h3 : (m.next.any fun l => decide ((l.length : Int) ≠ m.k)) = false := by assumption
        have h3' : ¬ ((m.next.length : Int) ≠ m.n ∨ (m.next.any fun l => decide ((l.length : Int) ≠ m.k)) = true) := by rw [h3]; simp; omega
        refine LoopVC.mk (X := Nat) (fun i => [(34, iv .i64 i)]) (fun _ => [(0, mOb m)]) (fun i => m.next.length - i) (fun i => i ≤ m.next.length ∧ ∀ j, j < i → (m.next.getD j default).any (badState m) = false) 0 ⟨by omega, by omega⟩ ?_ ?_
        · (simp (disch := (first | omega | (simp only [vlen]; first | done | omega))) only [Fits_u, Fits_m, Fits_nil, List.length_append, ↓va0, ↓va1, ↓va2, ↓va3, vb0, vb1, vb2, vb3, vb4, vb5, vb6, vb7, vb8, vb9, vb10, vz0, vz1, vy0, vx0, ↓reduceIte, Nat.reduceBEq, Nat.reduceEqDiff, Nat.reduceLT, Nat.reduceLeDiff, Nat.reduceAdd, Nat.reduceMul, Nat.reduceSub, reduceCtorEq, Int.reduceToNat] <;> (repeat' first | rfl | apply And.intro))
        · rintro i ⟨h4, h5⟩
          repeat' first | (refine Br.dec (fun h => ?_) (fun h => ?_) <;> try (exfalso; omega)) | (refine Br.eqi (fun h => ?_) (fun h => ?_) <;> try (exfalso; omega)) | (simp (disch := (first | omega | (simp only [vlen]; first | done | omega))) only [↓va0, ↓va1, ↓va2, ↓va3, vb0, vb1, vb2, vb3, vb4, vb5, vb6, vb7, vb8, vb9, vb10, vz0, vz1, vy0, vx0, ↓reduceIte, Nat.reduceBEq, Nat.reduceEqDiff, Nat.reduceLT, Nat.reduceLeDiff, Nat.reduceAdd, Nat.reduceMul, Nat.reduceSub, reduceCtorEq, Int.reduceToNat]) | (refine Br.mk (fun h => ?_) (fun h => ?_)) | (refine BrN.mk (fun h => ?_) ?_) | (refine AltVC.mk ?_ ?_)
          · have hmem : m.next.getD i default ∈ m.next := getD_mem' (by omega)
            have hlen := hq _ hmem
            refine LoopVC.mk (X := Nat) (fun k => [(40, iv .i64 k)]) (fun _ => [(0, mOb m)]) (fun k => (m.next.getD i default).length - k) (fun k => k ≤ (m.next.getD i default).length ∧ ∀ j, j < k → badState m ((m.next.getD i default).getD j 0) = false) 0 ⟨by omega, by omega⟩ ?_ ?_
            · (simp (disch := (first | omega | (simp only [vlen]; first | done | omega))) only [Fits_u, Fits_m, Fits_nil, List.length_append, ↓va0, ↓va1, ↓va2, ↓va3, vb0, vb1, vb2, vb3, vb4, vb5, vb6, vb7, vb8, vb9, vb10, vz0, vz1, vy0, vx0, ↓reduceIte, Nat.reduceBEq, Nat.reduceEqDiff, Nat.reduceLT, Nat.reduceLeDiff, Nat.reduceAdd, Nat.reduceMul, Nat.reduceSub, reduceCtorEq, Int.reduceToNat] <;> (repeat' first | rfl | apply And.intro))
            · rintro k ⟨h6, h7⟩
              repeat' first | (refine Br.dec (fun h => ?_) (fun h => ?_) <;> try (exfalso; omega)) | (refine Br.eqi (fun h => ?_) (fun h => ?_) <;> try (exfalso; omega)) | (simp (disch := (first | omega | (simp only [vlen]; first | done | omega))) only [↓va0, ↓va1, ↓va2, ↓va3, vb0, vb1, vb2, vb3, vb4, vb5, vb6, vb7, vb8, vb9, vb10, vz0, vz1, vy0, vx0, ↓reduceIte, Nat.reduceBEq, Nat.reduceEqDiff, Nat.reduceLT, Nat.reduceLeDiff, Nat.reduceAdd, Nat.reduceMul, Nat.reduceSub, reduceCtorEq, Int.reduceToNat]) | (refine Br.mk (fun h => ?_) (fun h => ?_)) | (refine BrN.mk (fun h => ?_) ?_) | (refine AltVC.mk ?_ ?_)
              · refine CallVC.eqo (mstate_spec m (by omega) _) (by simp (disch := (first | omega | (simp only [vlen]; first | done | omega))) only [↓va0, ↓va1, ↓va2, ↓va3, vb0, vb1, vb2, vb3, vb4, vb5, vb6, vb7, vb8, vb9, vb10, vz0, vz1, vy0, vx0, ↓reduceIte, Nat.reduceBEq, Nat.reduceEqDiff, Nat.reduceLT, Nat.reduceLeDiff, Nat.reduceAdd, Nat.reduceMul, Nat.reduceSub, reduceCtorEq, Int.reduceToNat]) ?_
                repeat' first | (refine Br.dec (fun h => ?_) (fun h => ?_) <;> try (exfalso; omega)) | (refine Br.eqi (fun h => ?_) (fun h => ?_) <;> try (exfalso; omega)) | (simp (disch := (first | omega | (simp only [vlen]; first | done | omega))) only [↓va0, ↓va1, ↓va2, ↓va3, vb0, vb1, vb2, vb3, vb4, vb5, vb6, vb7, vb8, vb9, vb10, vz0, vz1, vy0, vx0, ↓reduceIte, Nat.reduceBEq, Nat.reduceEqDiff, Nat.reduceLT, Nat.reduceLeDiff, Nat.reduceAdd, Nat.reduceMul, Nat.reduceSub, reduceCtorEq, Int.reduceToNat]) | (refine Br.mk (fun h => ?_) (fun h => ?_)) | (refine BrN.mk (fun h => ?_) ?_) | (refine AltVC.mk ?_ ?_)
                · have hb : badState m ((m.next.getD i default).getD k 0) = true := decide_eq_true (by assumption)
                  exact fin_mk (by rw [mcode, if_neg (by omega), if_neg h3', if_pos (.inl (any_hit (i := i) (by omega) (any_hit (i := k) (by omega) hb)))])
                · have hb : badState m ((m.next.getD i default).getD k 0) = false := decide_eq_false (by assumption)
                  exact loopK.mk (k + 1) (by simp (disch := (first | omega | (simp only [vlen]; first | done | omega))) only [↓va0, ↓va1, ↓va2, ↓va3, vb0, vb1, vb2, vb3, vb4, vb5, vb6, vb7, vb8, vb9, vb10, vz0, vz1, vy0, vx0, ↓reduceIte, Nat.reduceBEq, Nat.reduceEqDiff, Nat.reduceLT, Nat.reduceLeDiff, Nat.reduceAdd, Nat.reduceMul, Nat.reduceSub, reduceCtorEq, Int.reduceToNat]) ⟨by omega, succ_all h7 hb⟩ (by omega) (by (simp (disch := (first | omega | (simp only [vlen]; first | done | omega))) only [Fits_u, Fits_m, Fits_nil, List.length_append, ↓va0, ↓va1, ↓va2, ↓va3, vb0, vb1, vb2, vb3, vb4, vb5, vb6, vb7, vb8, vb9, vb10, vz0, vz1, vy0, vx0, ↓reduceIte, Nat.reduceBEq, Nat.reduceEqDiff, Nat.reduceLT, Nat.reduceLeDiff, Nat.reduceAdd, Nat.reduceMul, Nat.reduceSub, reduceCtorEq, Int.reduceToNat] <;> (repeat' first | rfl | apply And.intro)))
              · exact loopK.mk (i + 1) (by simp (disch := (first | omega | (simp only [vlen]; first | done | omega))) only [↓va0, ↓va1, ↓va2, ↓va3, vb0, vb1, vb2, vb3, vb4, vb5, vb6, vb7, vb8, vb9, vb10, vz0, vz1, vy0, vx0, ↓reduceIte, Nat.reduceBEq, Nat.reduceEqDiff, Nat.reduceLT, Nat.reduceLeDiff, Nat.reduceAdd, Nat.reduceMul, Nat.reduceSub, reduceCtorEq, Int.reduceToNat]) ⟨by omega, succ_all h5 (any_none (i := k) (by omega) h7)⟩ (by omega) (by (simp (disch := (first | omega | (simp only [vlen]; first | done | omega))) only [Fits_u, Fits_m, Fits_nil, List.length_append, ↓va0, ↓va1, ↓va2, ↓va3, vb0, vb1, vb2, vb3, vb4, vb5, vb6, vb7, vb8, vb9, vb10, vz0, vz1, vy0, vx0, ↓reduceIte, Nat.reduceBEq, Nat.reduceEqDiff, Nat.reduceLT, Nat.reduceLeDiff, Nat.reduceAdd, Nat.reduceMul, Nat.reduceSub, reduceCtorEq, Int.reduceToNat] <;> (repeat' first | rfl | apply And.intro)))
          · have h8 : (m.next.any fun l => l.any (badState m)) = false := any_none (i := i) (by omega) h5
            refine CallVC.eqo (mstate_spec m (by omega) _) (by simp (disch := (first | omega | (simp only [vlen]; first | done | omega))) only [↓va0, ↓va1, ↓va2, ↓va3, vb0, vb1, vb2, vb3, vb4, vb5, vb6, vb7, vb8, vb9, vb10, vz0, vz1, vy0, vx0, ↓reduceIte, Nat.reduceBEq, Nat.reduceEqDiff, Nat.reduceLT, Nat.reduceLeDiff, Nat.reduceAdd, Nat.reduceMul, Nat.reduceSub, reduceCtorEq, Int.reduceToNat]) ?_
            repeat' first | (refine Br.dec (fun h => ?_) (fun h => ?_) <;> try (exfalso; omega)) | (refine Br.eqi (fun h => ?_) (fun h => ?_) <;> try (exfalso; omega)) | (simp (disch := (first | omega | (simp only [vlen]; first | done | omega))) only [↓va0, ↓va1, ↓va2, ↓va3, vb0, vb1, vb2, vb3, vb4, vb5, vb6, vb7, vb8, vb9, vb10, vz0, vz1, vy0, vx0, ↓reduceIte, Nat.reduceBEq, Nat.reduceEqDiff, Nat.reduceLT, Nat.reduceLeDiff, Nat.reduceAdd, Nat.reduceMul, Nat.reduceSub, reduceCtorEq, Int.reduceToNat]) | (refine Br.mk (fun h => ?_) (fun h => ?_)) | (refine BrN.mk (fun h => ?_) ?_) | (refine AltVC.mk ?_ ?_)
            · have hb : badState m m.start = true := decide_eq_true (by assumption)
              exact fin_mk (by rw [mcode, if_neg (by omega), if_neg h3', if_pos (.inr hb)])
            · exact fin_mk (by rw [mcode, if_neg (by omega), if_neg h3', if_neg (by rw [h8, show badState m m.start = false from decide_eq_false (by assumption)]; simp), if_neg (by have := (fin_zero (n := m.n) hf (by omega)).1 (by assumption); omega)])
            · exact fin_mk (by rw [mcode, if_neg (by omega), if_neg h3', if_neg (by rw [h8, show badState m m.start = false from decide_eq_false (by assumption)]; simp), if_pos (by
                have hz : ¬ m.final.fdiv (2 ^ min m.n.toNat IntKind.u32.bits) = 0 := by assumption
                have : ¬ m.final.toNat < 2 ^ m.n.toNat := fun hl => hz ((fin_zero (n := m.n) hf (by omega)).2 hl)
                omega)])
    · exact fin_mk (by rw [mcode, if_neg (by omega), if_pos (.inl (by omega))])
    · exact fin_mk (by rw [r1 (by omega)])
  · exact fin_mk (by rw [r1 (by omega)])
set_option maxRecDepth 10000 in
set_option maxHeartbeats 4000000 in
theorem refMCheck_spec (m : Dm.Machine) (hm : m.ok) : Dm.Spec Try.prog 31 [.ag (macD m)] (· = iv .i64 (mcode m)) := by
  refine spec_of_vc mixed Try.func31 c31 (by rw [show Try.f31.ntmps = _ from Try.ntmps31]; simp) ?_
  unfold m31 r31
  have hr : m.next.length ≤ 9223372036854775807 := maxLen_le hm.2.2.1.1
  have hq : ∀ r, r ∈ m.next → r.length ≤ 9223372036854775807 := fun r h => maxLen_le (hm.2.2.1.2 r h).1
  have hf : 0 ≤ m.final ∧ m.final ≤ 4294967295 := hm.2.2.2.2
  have hfe : ((m.final.toNat : Nat) : Int) = m.final := by omega
  have r1 : ¬ (1 ≤ m.n ∧ m.n ≤ 7) ∨ ¬ (1 ≤ m.k ∧ m.k ≤ 3) → mcode m = 1 := fun h => by rw [mcode, if_pos h]
  repeat' first | (refine Br.dec (fun h => ?_) (fun h => ?_) <;> try (exfalso; omega)) | (refine Br.eqi (fun h => ?_) (fun h => ?_) <;> try (exfalso; omega)) | (simp (disch := (first | omega | (simp only [vlen]; first | done | omega))) only [↓va0, ↓va1, ↓va2, ↓va3, vb0, vb1, vb2, vb3, vb4, vb5, vb6, vb7, vb8, vb9, vb10, vz0, vz1, vy0, vx0, ↓reduceIte, Nat.reduceBEq, Nat.reduceEqDiff, Nat.reduceLT, Nat.reduceLeDiff, Nat.reduceAdd, Nat.reduceMul, Nat.reduceSub, reduceCtorEq, Int.reduceToNat]) | (refine Br.mk (fun h => ?_) (fun h => ?_)) | (refine BrN.mk (fun h => ?_) ?_) | (refine AltVC.mk ?_ ?_)
  all_goals first
    | exact fin_mk (by rw [r1 (by omega)])
    | exact fin_mk (by rw [mcode, if_neg (by omega), if_pos (.inl (by omega))])
    | skip
  refine LoopVC.mk (X := Nat) (fun i => [(36, iv .i64 i)]) (fun _ => [(0, mOb m)]) (fun i => m.next.length - i) (fun i => i ≤ m.next.length ∧ ∀ j, j < i → decide (((m.next.getD j default).length : Int) ≠ m.k) = false) 0 ⟨by omega, by omega⟩ ?_ ?_
  · (simp (disch := (first | omega | (simp only [vlen]; first | done | omega))) only [Fits_u, Fits_m, Fits_nil, List.length_append, ↓va0, ↓va1, ↓va2, ↓va3, vb0, vb1, vb2, vb3, vb4, vb5, vb6, vb7, vb8, vb9, vb10, vz0, vz1, vy0, vx0, ↓reduceIte, Nat.reduceBEq, Nat.reduceEqDiff, Nat.reduceLT, Nat.reduceLeDiff, Nat.reduceAdd, Nat.reduceMul, Nat.reduceSub, reduceCtorEq, Int.reduceToNat] <;> (repeat' first | rfl | apply And.intro))
  · rintro i ⟨h1, h2⟩
    repeat' first | (refine Br.dec (fun h => ?_) (fun h => ?_) <;> try (exfalso; omega)) | (refine Br.eqi (fun h => ?_) (fun h => ?_) <;> try (exfalso; omega)) | (simp (disch := (first | omega | (simp only [vlen]; first | done | omega))) only [↓va0, ↓va1, ↓va2, ↓va3, vb0, vb1, vb2, vb3, vb4, vb5, vb6, vb7, vb8, vb9, vb10, vz0, vz1, vy0, vx0, ↓reduceIte, Nat.reduceBEq, Nat.reduceEqDiff, Nat.reduceLT, Nat.reduceLeDiff, Nat.reduceAdd, Nat.reduceMul, Nat.reduceSub, reduceCtorEq, Int.reduceToNat]) | (refine Br.mk (fun h => ?_) (fun h => ?_)) | (refine BrN.mk (fun h => ?_) ?_) | (refine AltVC.mk ?_ ?_)
    · exact loopK.mk (i + 1) (by simp (disch := (first | omega | (simp only [vlen]; first | done | omega))) only [↓va0, ↓va1, ↓va2, ↓va3, vb0, vb1, vb2, vb3, vb4, vb5, vb6, vb7, vb8, vb9, vb10, vz0, vz1, vy0, vx0, ↓reduceIte, Nat.reduceBEq, Nat.reduceEqDiff, Nat.reduceLT, Nat.reduceLeDiff, Nat.reduceAdd, Nat.reduceMul, Nat.reduceSub, reduceCtorEq, Int.reduceToNat]) ⟨by omega, succ_all h2 (decide_eq_false (by omega))⟩ (by omega) (by (simp (disch := (first | omega | (simp only [vlen]; first | done | omega))) only [Fits_u, Fits_m, Fits_nil, List.length_append, ↓va0, ↓va1, ↓va2, ↓va3, vb0, vb1, vb2, vb3, vb4, vb5, vb6, vb7, vb8, vb9, vb10, vz0, vz1, vy0, vx0, ↓reduceIte, Nat.reduceBEq, Nat.reduceEqDiff, Nat.reduceLT, Nat.reduceLeDiff, Nat.reduceAdd, Nat.reduceMul, Nat.reduceSub, reduceCtorEq, Int.reduceToNat] <;> (repeat' first | rfl | apply And.intro)))
    · exact fin_mk (by rw [mcode, if_neg (by omega), if_pos (.inr (any_hit (p := fun l : List Int => decide ((l.length : Int) ≠ m.k)) (l := m.next) (i := i) (by omega) (decide_eq_true (by omega))))])
    · have h3 : (m.next.any fun l => decide ((l.length : Int) ≠ m.k)) = false := any_none (i := i) (by omega) h2
      have h3' : ¬ ((m.next.length : Int) ≠ m.n ∨ (m.next.any fun l => decide ((l.length : Int) ≠ m.k)) = true) := by rw [h3]; simp; omega
      refine LoopVC.mk (X := Nat) (fun i => [(49, iv .i64 i)]) (fun _ => [(0, mOb m)]) (fun i => m.next.length - i) (fun i => i ≤ m.next.length ∧ ∀ j, j < i → (m.next.getD j default).any (badState m) = false) 0 ⟨by omega, by omega⟩ ?_ ?_
      · (simp (disch := (first | omega | (simp only [vlen]; first | done | omega))) only [Fits_u, Fits_m, Fits_nil, List.length_append, ↓va0, ↓va1, ↓va2, ↓va3, vb0, vb1, vb2, vb3, vb4, vb5, vb6, vb7, vb8, vb9, vb10, vz0, vz1, vy0, vx0, ↓reduceIte, Nat.reduceBEq, Nat.reduceEqDiff, Nat.reduceLT, Nat.reduceLeDiff, Nat.reduceAdd, Nat.reduceMul, Nat.reduceSub, reduceCtorEq, Int.reduceToNat] <;> (repeat' first | rfl | apply And.intro))
      · rintro i ⟨h4, h5⟩
        repeat' first | (refine Br.dec (fun h => ?_) (fun h => ?_) <;> try (exfalso; omega)) | (refine Br.eqi (fun h => ?_) (fun h => ?_) <;> try (exfalso; omega)) | (simp (disch := (first | omega | (simp only [vlen]; first | done | omega))) only [↓va0, ↓va1, ↓va2, ↓va3, vb0, vb1, vb2, vb3, vb4, vb5, vb6, vb7, vb8, vb9, vb10, vz0, vz1, vy0, vx0, ↓reduceIte, Nat.reduceBEq, Nat.reduceEqDiff, Nat.reduceLT, Nat.reduceLeDiff, Nat.reduceAdd, Nat.reduceMul, Nat.reduceSub, reduceCtorEq, Int.reduceToNat]) | (refine Br.mk (fun h => ?_) (fun h => ?_)) | (refine BrN.mk (fun h => ?_) ?_) | (refine AltVC.mk ?_ ?_)
        · have hmem : m.next.getD i default ∈ m.next := getD_mem' (by omega)
          have hlen := hq _ hmem
          refine LoopVC.mk (X := Nat) (fun k => [(55, iv .i64 k)]) (fun _ => [(0, mOb m)]) (fun k => (m.next.getD i default).length - k) (fun k => k ≤ (m.next.getD i default).length ∧ ∀ j, j < k → badState m ((m.next.getD i default).getD j 0) = false) 0 ⟨by omega, by omega⟩ ?_ ?_
          · (simp (disch := (first | omega | (simp only [vlen]; first | done | omega))) only [Fits_u, Fits_m, Fits_nil, List.length_append, ↓va0, ↓va1, ↓va2, ↓va3, vb0, vb1, vb2, vb3, vb4, vb5, vb6, vb7, vb8, vb9, vb10, vz0, vz1, vy0, vx0, ↓reduceIte, Nat.reduceBEq, Nat.reduceEqDiff, Nat.reduceLT, Nat.reduceLeDiff, Nat.reduceAdd, Nat.reduceMul, Nat.reduceSub, reduceCtorEq, Int.reduceToNat] <;> (repeat' first | rfl | apply And.intro))
          · rintro k ⟨h6, h7⟩
            repeat' first | (refine Br.dec (fun h => ?_) (fun h => ?_) <;> try (exfalso; omega)) | (refine Br.eqi (fun h => ?_) (fun h => ?_) <;> try (exfalso; omega)) | (simp (disch := (first | omega | (simp only [vlen]; first | done | omega))) only [↓va0, ↓va1, ↓va2, ↓va3, vb0, vb1, vb2, vb3, vb4, vb5, vb6, vb7, vb8, vb9, vb10, vz0, vz1, vy0, vx0, ↓reduceIte, Nat.reduceBEq, Nat.reduceEqDiff, Nat.reduceLT, Nat.reduceLeDiff, Nat.reduceAdd, Nat.reduceMul, Nat.reduceSub, reduceCtorEq, Int.reduceToNat]) | (refine Br.mk (fun h => ?_) (fun h => ?_)) | (refine BrN.mk (fun h => ?_) ?_) | (refine AltVC.mk ?_ ?_)
            all_goals first
              | exact fin_mk (by rw [mcode, if_neg (by omega), if_neg h3', if_pos (.inl (any_hit (p := fun l : List Int => l.any (badState m)) (l := m.next) (i := i) (by omega) (any_hit (p := badState m) (l := m.next.getD i default) (i := k) (by omega) (decide_eq_true (by show (m.next.getD i default).getD k 0 < 0 ∨ m.n ≤ (m.next.getD i default).getD k 0; omega)))))])
              | exact loopK.mk (k + 1) (by simp (disch := (first | omega | (simp only [vlen]; first | done | omega))) only [↓va0, ↓va1, ↓va2, ↓va3, vb0, vb1, vb2, vb3, vb4, vb5, vb6, vb7, vb8, vb9, vb10, vz0, vz1, vy0, vx0, ↓reduceIte, Nat.reduceBEq, Nat.reduceEqDiff, Nat.reduceLT, Nat.reduceLeDiff, Nat.reduceAdd, Nat.reduceMul, Nat.reduceSub, reduceCtorEq, Int.reduceToNat]) ⟨by omega, succ_all h7 (decide_eq_false (by omega))⟩ (by omega) (by (simp (disch := (first | omega | (simp only [vlen]; first | done | omega))) only [Fits_u, Fits_m, Fits_nil, List.length_append, ↓va0, ↓va1, ↓va2, ↓va3, vb0, vb1, vb2, vb3, vb4, vb5, vb6, vb7, vb8, vb9, vb10, vz0, vz1, vy0, vx0, ↓reduceIte, Nat.reduceBEq, Nat.reduceEqDiff, Nat.reduceLT, Nat.reduceLeDiff, Nat.reduceAdd, Nat.reduceMul, Nat.reduceSub, reduceCtorEq, Int.reduceToNat] <;> (repeat' first | rfl | apply And.intro)))
              | exact loopK.mk (i + 1) (by simp (disch := (first | omega | (simp only [vlen]; first | done | omega))) only [↓va0, ↓va1, ↓va2, ↓va3, vb0, vb1, vb2, vb3, vb4, vb5, vb6, vb7, vb8, vb9, vb10, vz0, vz1, vy0, vx0, ↓reduceIte, Nat.reduceBEq, Nat.reduceEqDiff, Nat.reduceLT, Nat.reduceLeDiff, Nat.reduceAdd, Nat.reduceMul, Nat.reduceSub, reduceCtorEq, Int.reduceToNat]) ⟨by omega, succ_all h5 (any_none (i := k) (by omega) h7)⟩ (by omega) (by (simp (disch := (first | omega | (simp only [vlen]; first | done | omega))) only [Fits_u, Fits_m, Fits_nil, List.length_append, ↓va0, ↓va1, ↓va2, ↓va3, vb0, vb1, vb2, vb3, vb4, vb5, vb6, vb7, vb8, vb9, vb10, vz0, vz1, vy0, vx0, ↓reduceIte, Nat.reduceBEq, Nat.reduceEqDiff, Nat.reduceLT, Nat.reduceLeDiff, Nat.reduceAdd, Nat.reduceMul, Nat.reduceSub, reduceCtorEq, Int.reduceToNat] <;> (repeat' first | rfl | apply And.intro)))
              | skip
        all_goals
          have h8 : (m.next.any fun l => l.any (badState m)) = false := any_none (i := i) (by omega) h5
        · exact fin_mk (by rw [mcode, if_neg (by omega), if_neg h3', if_pos (.inr (decide_eq_true (by omega)))])
        · exact fin_mk (by rw [mcode, if_neg (by omega), if_neg h3', if_pos (.inr (decide_eq_true (by omega)))])
        · have hz : IntKind.u32.wrap (1 * 2 ^ min m.n.toNat IntKind.u32.bits) ≤ m.final := by assumption
          rw [shlN (by omega)] at hz
          exact fin_mk (by rw [mcode, if_neg (by omega), if_neg h3', if_neg (by rw [h8, show badState m m.start = false from decide_eq_false (by omega)]; simp), if_pos (by omega)])
        · have hz : ¬ IntKind.u32.wrap (1 * 2 ^ min m.n.toNat IntKind.u32.bits) ≤ m.final := by assumption
          rw [shlN (by omega)] at hz
          exact fin_mk (by rw [mcode, if_neg (by omega), if_neg h3', if_neg (by rw [h8, show badState m m.start = false from decide_eq_false (by omega)]; simp), if_neg (by omega)])
end Go.Proofs.Ytmhpfgklfpgniaa
