/-
  Machines: which states some word tells apart (plain).
-/
import Derived.Test.YtbbpmodfbdibcaaMRun
namespace Go.Proofs.Ytbbpmodfbdibcaa
open Go.Dm
set_option linter.unusedSimpArgs false
set_option linter.unnecessarySimpa false
set_option linter.unusedVariables false

/-- A machine, or two of them in one. -/
structure WM (m : Dm.Machine) : Prop where
  n : 1 ≤ m.n ∧ m.n ≤ 14
  k : 1 ≤ m.k ∧ m.k ≤ 3
  len : (m.next.length : Int) = m.n
  row : ∀ l, l ∈ m.next → (l.length : Int) = m.k
  to : ∀ l, l ∈ m.next → ∀ x, x ∈ l → 0 ≤ x ∧ x < m.n
  final : 0 ≤ m.final ∧ m.final ≤ 4294967295
theorem VM.wm {m : Dm.Machine} (hv : VM m) : WM m where
  n := by have := hv.n; omega
  k := hv.k
  len := hv.len
  row := hv.row
  to := hv.to
  final := by
    have := hv.final
    have hn := hv.n
    have h2 : 2 ^ m.n.toNat ≤ 2 ^ 7 := Nat.pow_le_pow_right (by omega) (by omega)
    omega
theorem WM.st {m : Dm.Machine} (hv : WM m) {p s : Int} (hp : 0 ≤ p ∧ p < m.n) : 0 ≤ mstep m p s ∧ mstep m p s < m.n := by
  have := hv.len
  exact getD_ok (by have := hv.n; omega) (hv.to _ (getD_mem' (by omega))) _
/-- Where a symbol leads. -/
def nx (m : Dm.Machine) (i s : Nat) : Nat := ((m.next.getD i default).getD s 0).toNat
def bitF (m : Dm.Machine) (i : Nat) : Bool := m.final.toNat.testBit i
theorem nx_lt {m : Dm.Machine} (hv : WM m) {i : Nat} (s : Nat) (hi : i < m.n.toNat) : nx m i s < m.n.toNat := by
  have h1 := hv.st (p := (i : Int)) (s := (s : Int)) (by omega)
  unfold mstep at h1
  rw [Int.toNat_natCast, Int.toNat_natCast] at h1
  unfold nx
  omega
theorem nx_int {m : Dm.Machine} (hv : WM m) {i s : Nat} (hi : i < m.n.toNat) : (m.next.getD i default).getD s 0 = (nx m i s : Int) := by
  have h1 := hv.st (p := (i : Int)) (s := (s : Int)) (by omega)
  unfold mstep at h1
  rw [Int.toNat_natCast, Int.toNat_natCast] at h1
  unfold nx
  omega
/-- A word of n symbols tells two states apart. -/
def DN (m : Dm.Machine) : Nat → Nat → Nat → Prop
  | 0, i, k => bitF m i ≠ bitF m k
  | n + 1, i, k => ∃ s, s < m.k.toNat ∧ DN m n (nx m i s) (nx m k s)
def Dst (m : Dm.Machine) (i k : Nat) : Prop := ∃ n, DN m n i k
def RN (m : Dm.Machine) (n i k : Nat) : Prop := ∃ l, l ≤ n ∧ DN m l i k
section
variable {m : Dm.Machine}
theorem dn_refl : ∀ {n i : Nat}, ¬ DN m n i i
  | 0, i, h => h rfl
  | n + 1, i, ⟨s, _, h⟩ => dn_refl h
theorem dn_symm : ∀ {n i k : Nat}, DN m n i k → DN m n k i
  | 0, i, k, h => Ne.symm h
  | n + 1, i, k, ⟨s, hs, h⟩ => ⟨s, hs, dn_symm h⟩
theorem dn_tri : ∀ {n i j k : Nat}, DN m n i k → DN m n i j ∨ DN m n j k
  | 0, i, j, k, h => by
    unfold DN at *
    cases h1 : bitF m i <;> cases h2 : bitF m j <;> cases h3 : bitF m k <;> simp_all
  | n + 1, i, j, k, ⟨s, hs, h⟩ => (dn_tri (j := nx m j s) h).imp (fun h => ⟨s, hs, h⟩) (fun h => ⟨s, hs, h⟩)
theorem rn_refl {n i : Nat} : ¬ RN m n i i := fun ⟨_, _, h⟩ => dn_refl h
theorem rn_symm {n i k : Nat} : RN m n i k → RN m n k i := fun ⟨l, h1, h2⟩ => ⟨l, h1, dn_symm h2⟩
theorem rn_tri {n i k : Nat} (j : Nat) : RN m n i k → RN m n i j ∨ RN m n j k := fun ⟨l, h1, h2⟩ => (dn_tri (j := j) h2).imp (fun h => ⟨l, h1, h⟩) (fun h => ⟨l, h1, h⟩)
theorem rn_mono {n n' i k : Nat} (h : n ≤ n') : RN m n i k → RN m n' i k := fun ⟨l, h1, h2⟩ => ⟨l, by omega, h2⟩
theorem rn_succ {n i k : Nat} : RN m (n + 1) i k ↔ RN m 0 i k ∨ ∃ s, s < m.k.toNat ∧ RN m n (nx m i s) (nx m k s) := by
  constructor
  · rintro ⟨l, h1, h2⟩
    cases l with
    | zero => exact .inl ⟨0, by omega, h2⟩
    | succ l => obtain ⟨s, hs, h⟩ := h2; exact .inr ⟨s, hs, l, by omega, h⟩
  · rintro (⟨l, h1, h2⟩ | ⟨s, hs, l, h1, h2⟩)
    · exact ⟨l, by omega, h2⟩
    · exact ⟨l + 1, by omega, s, hs, h2⟩
theorem rn_stable (hv : WM m) {n : Nat} (h : ∀ i k, i < m.n.toNat → k < m.n.toNat → RN m (n + 1) i k → RN m n i k) : ∀ {n' : Nat}, n ≤ n' → ∀ i k, i < m.n.toNat → k < m.n.toNat → RN m n' i k → RN m n i k := by
  intro n' hn
  induction n' with
  | zero => intro i k _ _ hr; rw [show n = 0 by omega]; exact hr
  | succ n' ih =>
    intro i k hi hk hr
    by_cases e : n = n' + 1
    · rw [e]; exact hr
    · rcases rn_succ.1 hr with h0 | ⟨s, hs, h1⟩
      · exact rn_mono (Nat.zero_le _) h0
      · exact h i k hi hk (rn_succ.2 (.inr ⟨s, hs, ih (by omega) _ _ (nx_lt hv s hi) (nx_lt hv s hk) h1⟩))
open Classical in
/-- The least of its class. -/
noncomputable def repB (m : Dm.Machine) (n i : Nat) : Bool := decide (∀ j, j < i → RN m n j i)
noncomputable def reps (m : Dm.Machine) (n : Nat) : Nat := ((List.range m.n.toNat).filter (repB m n)).length
theorem least_of {p : Nat → Prop} {x : Nat} (h : p x) : ∃ r, r ≤ x ∧ p r ∧ ∀ j, j < r → ¬ p j := by
  induction x using Nat.strongRecOn with
  | _ x ih =>
    by_cases hx : ∃ j, j < x ∧ p j
    · obtain ⟨j, h1, h2⟩ := hx
      obtain ⟨r, h3, h4⟩ := ih j h1 h2
      exact ⟨r, by omega, h4⟩
    · exact ⟨x, Nat.le_refl _, h, fun j hj hp => hx ⟨j, hj, hp⟩⟩
open Classical in
theorem reps_step {n : Nat} (h : ¬ ∀ i k, i < m.n.toNat → k < m.n.toNat → RN m (n + 1) i k → RN m n i k) : reps m n < reps m (n + 1) := by
  simp only [Classical.not_forall] at h
  obtain ⟨i, k, hi, hk, hr, hn⟩ := h
  obtain ⟨r, r1, r2, r3⟩ := least_of (p := fun j => ¬ RN m n j i) (x := i) rn_refl
  obtain ⟨x, hx, hxr, hxn⟩ : ∃ x, x < m.n.toNat ∧ RN m (n + 1) r x ∧ ¬ RN m n r x := by
    rcases rn_tri r hr with h | h
    · exact ⟨i, hi, rn_symm h, r2⟩
    · exact ⟨k, hk, h, fun e => (rn_tri i e).elim r2 hn⟩
  obtain ⟨y, y1, y2, y3⟩ := least_of (p := fun j => ¬ RN m (n + 1) j x) (x := x) rn_refl
  have hyn : ¬ RN m n y x := fun e => y2 (rn_mono (by omega) e)
  have hry : ¬ RN m n r y := fun e => (rn_tri x e).elim hxn (fun e => hyn (rn_symm e))
  have hyi : ¬ RN m n y i := fun e => (rn_tri r e).elim (fun e => hry (rn_symm e)) r2
  have hlt : r < y := by
    rcases Nat.lt_trichotomy r y with h | h | h
    · exact h
    · exact absurd hxr (h ▸ y2)
    · exact absurd hyi (fun e => e (Classical.not_not.1 (r3 y h)))
  unfold reps
  refine Go.Dm.filter_lt (fun j hj => ?_) (List.mem_range.2 (show y < m.n.toNat by omega)) ?_ ?_
  · unfold repB at *
    rw [decide_eq_true_eq] at *
    exact fun q hq => rn_mono (by omega) (hj q hq)
  · unfold repB
    rw [decide_eq_true_eq]
    intro j hj
    have h1 := Classical.not_not.1 (y3 j hj)
    rcases rn_tri y h1 with h | h
    · exact h
    · exact absurd h y2
  · unfold repB
    rw [decide_eq_false_iff_not]
    exact fun e => hry (e r hlt)
open Classical in
/-- Words shorter than the number of states tell all. -/
theorem dst_short (hv : WM m) {i k : Nat} (hi : i < m.n.toNat) (hk : k < m.n.toNat) : Dst m i k ↔ ∃ n, n < m.n.toNat ∧ DN m n i k := by
  constructor
  · rintro ⟨n, hn⟩
    have hst : ∃ q, q < m.n.toNat ∧ ∀ i k, i < m.n.toNat → k < m.n.toNat → RN m (q + 1) i k → RN m q i k := by
      have hcon : ∀ q, q ≤ m.n.toNat → (∃ p, p < q ∧ ∀ i k, i < m.n.toNat → k < m.n.toNat → RN m (p + 1) i k → RN m p i k) ∨ q + 1 ≤ reps m q := by
        intro q
        induction q with
        | zero =>
          intro _
          right
          have : 0 ∈ (List.range m.n.toNat).filter (repB m 0) := by
            rw [List.mem_filter]
            refine ⟨List.mem_range.2 (by have := hv.n; omega), ?_⟩
            unfold repB
            simp
          exact List.length_pos_of_mem this
        | succ q ih =>
          intro hq
          rcases ih (by omega) with ⟨p, h1, h2⟩ | h1
          · exact .inl ⟨p, by omega, h2⟩
          · by_cases hs : ∀ i k, i < m.n.toNat → k < m.n.toNat → RN m (q + 1) i k → RN m q i k
            · exact .inl ⟨q, by omega, hs⟩
            · right
              have := reps_step hs
              omega
      rcases hcon m.n.toNat (Nat.le_refl _) with h | h
      · exact h
      · have : reps m m.n.toNat ≤ m.n.toNat := by
          unfold reps
          exact Nat.le_trans (List.length_filter_le _ _) (by simp)
        omega
    obtain ⟨q, hq, hs⟩ := hst
    obtain ⟨l, h1, h2⟩ := rn_stable hv hs (n' := max n q) (by omega) i k hi hk ⟨n, by omega, hn⟩
    exact ⟨l, by omega, h2⟩
  · rintro ⟨n, _, h⟩; exact ⟨n, h⟩
/-- What is closed has all that is apart. -/
theorem dst_closed (hv : WM m) {C : Nat → Nat → Prop} (h0 : ∀ i k, i < m.n.toNat → k < m.n.toNat → bitF m i ≠ bitF m k → C i k)
    (h1 : ∀ i k s, i < m.n.toNat → k < m.n.toNat → s < m.k.toNat → C (nx m i s) (nx m k s) → C i k) : ∀ n i k, i < m.n.toNat → k < m.n.toNat → DN m n i k → C i k
  | 0, i, k, hi, hk, h => h0 i k hi hk h
  | n + 1, i, k, hi, hk, ⟨s, hs, h⟩ => h1 i k s hi hk hs (dst_closed hv h0 h1 n _ _ (nx_lt hv s hi) (nx_lt hv s hk) h)
theorem dst_bit {i k : Nat} (h : bitF m i ≠ bitF m k) : Dst m i k := ⟨0, h⟩
theorem dst_sym {i k s : Nat} (hs : s < m.k.toNat) (h : Dst m (nx m i s) (nx m k s)) : Dst m i k := let ⟨n, h⟩ := h; ⟨n + 1, s, hs, h⟩
end
end Go.Proofs.Ytbbpmodfbdibcaa
