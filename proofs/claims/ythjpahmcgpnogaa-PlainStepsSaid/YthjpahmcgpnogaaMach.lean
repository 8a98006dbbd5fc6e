/-
  Machines: what is wrong with one; the law MachineChecks.
-/
import Derived.Test.YthjpahmcgpnogaaLibF
import Derived.Test.YthjpahmcgpnogaaBits
namespace Go.Proofs.Ythjpahmcgpnogaa
open Go.Dm
set_option linter.unusedSimpArgs false
set_option linter.unnecessarySimpa false
set_option linter.unusedVariables false

theorem any_hit {α : Type} [Inhabited α] {p : α → Bool} {l : List α} {i : Nat} (hi : i < l.length) (h : p (l.getD i default) = true) : l.any p = true :=
  List.any_eq_true.2 ⟨_, getD_mem' hi, h⟩
theorem succ_all {p : Nat → Prop} {i : Nat} (h : ∀ j, j < i → p j) (hi : p i) : ∀ j, j < i + 1 → p j := fun j hj => by
  by_cases e : j = i
  · rw [e]; exact hi
  · exact h j (by omega)
def badState (m : Dm.Machine) (x : Int) : Bool := decide (x < 0 ∨ m.n ≤ x)
def mcode (m : Dm.Machine) : Int :=
  if ¬ (1 ≤ m.n ∧ m.n ≤ 7) ∨ ¬ (1 ≤ m.k ∧ m.k ≤ 3) then 1
  else if (m.next.length : Int) ≠ m.n ∨ m.next.any (fun l => decide ((l.length : Int) ≠ m.k)) = true then 3
  else if m.next.any (fun l => l.any (badState m)) = true ∨ badState m m.start = true then 2
  else if 2 ^ m.n.toNat ≤ m.final.toNat then 4
  else 0
/-- A machine all of whose parts are in their bounds. -/
structure VM (m : Dm.Machine) : Prop where
  n : 1 ≤ m.n ∧ m.n ≤ 7
  k : 1 ≤ m.k ∧ m.k ≤ 3
  len : (m.next.length : Int) = m.n
  row : ∀ l, l ∈ m.next → (l.length : Int) = m.k
  to : ∀ l, l ∈ m.next → ∀ x, x ∈ l → 0 ≤ x ∧ x < m.n
  start : 0 ≤ m.start ∧ m.start < m.n
  final : 0 ≤ m.final ∧ m.final.toNat < 2 ^ m.n.toNat
theorem vm_of {m : Dm.Machine} (hf : 0 ≤ m.final) (h : mcode m = 0) : VM m := by
  unfold mcode at h
  split at h
  · omega
  · next h1 =>
    split at h
    · omega
    · next h2 =>
      split at h
      · omega
      · next h3 =>
        split at h
        · omega
        · next h4 =>
          have hb : ∀ x, ¬ badState m x = true → 0 ≤ x ∧ x < m.n := fun x hx => by
            unfold badState at hx; rw [decide_eq_true_eq] at hx; omega
          refine ⟨by omega, by omega, by omega, fun l hl => ?_, fun l hl x hx => hb x fun e => h3 (.inl (List.any_eq_true.2 ⟨l, hl, List.any_eq_true.2 ⟨x, hx, e⟩⟩)), hb _ fun e => h3 (.inr e), hf, by omega⟩
          by_cases e : (l.length : Int) = m.k
          · exact e
          · exact absurd (.inr (List.any_eq_true.2 ⟨l, hl, decide_eq_true e⟩)) h2
set_option maxRecDepth 10000 in
set_option maxHeartbeats 4000000 in
theorem within_spec (n lo hi : Int) : Dm.Spec Try.prog 86 [iv .i64 n, iv .i64 lo, iv .i64 hi] (· = .v (.bool (decide (lo ≤ n ∧ n ≤ hi)))) := by
  refine spec_of_vc mixed Try.func86 c86 (by rw [show Try.f86.ntmps = _ from Try.ntmps86]; simp) ?_
  unfold m86 r86
  repeat' first | (refine Br.dec (fun h => ?_) (fun h => ?_) <;> try (exfalso; omega)) | (refine Br.eqi (fun h => ?_) (fun h => ?_) <;> try (exfalso; omega)) | (simp (disch := (first | omega | (simp only [vlen]; first | done | omega))) only [↓va0, ↓va1, ↓va2, ↓va3, vb0, vb1, vb2, vb3, vb4, vb5, vb6, vb7, vb8, vb9, vb10, vz0, vz1, vy0, vx0, ↓reduceIte, Nat.reduceBEq, Nat.reduceEqDiff, Nat.reduceLT, Nat.reduceLeDiff, Nat.reduceAdd, Nat.reduceMul, Nat.reduceSub, reduceCtorEq, Int.reduceToNat]) | (refine Br.mk (fun h => ?_) (fun h => ?_)) | (refine BrN.mk (fun h => ?_) ?_) | (refine AltVC.mk ?_ ?_)
  · exact fin_mk (vbEq (dec_iff (by omega)))
  · exact fin_mk (vbEq (decide_eq_false (by omega)).symm)
theorem fin_zero {f n : Int} (hf : 0 ≤ f ∧ f ≤ 4294967295) (hn : 0 ≤ n ∧ n ≤ 32) : f.fdiv (2 ^ (min n.toNat IntKind.u32.bits)) = 0 ↔ f.toNat < 2 ^ n.toNat := by
  rw [shr32 hf hn, ← shr_zero]
  omega
abbrev mOb (m : Dm.Machine) : Ob := ⟨5, [[iv .i64 m.n, iv .i64 m.k, .sl 1 (rows i64s m.next), iv .i64 m.start, iv .u32 m.final]], true, false, .fix⟩
end Go.Proofs.Ythjpahmcgpnogaa
