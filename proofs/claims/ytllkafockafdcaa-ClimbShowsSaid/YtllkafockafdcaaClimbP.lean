/-
  Operators: reading with a stack, and by the operator that is applied last.
-/
import Derived.Test.YtllkafockafdcaaDmX
namespace Go.Dm
set_option linter.unusedSimpArgs false
set_option linter.unusedVariables false
def lv (ops : List Opr) (x : Int) : Int := (ops.getD x.toNat default).level
def rg (ops : List Opr) (x : Int) : Bool := (ops.getD x.toNat default).right
/-- Is a applied before b that comes behind it? -/
def bef (ops : List Opr) (a b : Int) : Bool := decide (lv ops b < lv ops a) || (decide (lv ops a = lv ops b) && !rg ops a)
def isO (x : Int) : Prop := 0 ≤ x ∧ x < 100
instance (x : Int) : Decidable (isO x) := inferInstanceAs (Decidable (_ ∧ _))
def vS (ops : List Opr) (x : Int) : Prop := (0 ≤ x ∧ x < ops.length) ∨ 100 ≤ x ∨ x = -1 ∨ x = -2
/-- Operators of one level go the same way. -/
def ConsO (ops : List Opr) : Prop := ∀ x y, 0 ≤ x → x < (ops.length : Int) → 0 ≤ y → y < (ops.length : Int) → lv ops x = lv ops y → rg ops x = rg ops y
def dp1 (x : Int) : Int := if x = -1 then 1 else if x = -2 then -1 else 0
def dep : List Int → Int
  | [] => 0
  | x :: l => dp1 x + dep l
theorem dep_app {a b : List Int} : dep (a ++ b) = dep a + dep b := by
  induction a with
  | nil => simp [dep]
  | cons x a ih => simp only [List.cons_append, dep, ih]; omega
theorem dep_succ {l : List Int} {k : Nat} (h : k < l.length) : dep (l.take (k + 1)) = dep (l.take k) + dp1 (l.getD k 0) := by
  rw [take_succ_getD h 0, dep_app]; simp [dep]
theorem dp1_op {x : Int} (h : isO x) : dp1 x = 0 := by
  unfold dp1; rw [if_neg (by have := h.1; omega), if_neg (by have := h.1; omega)]
/-! ### By the stack -/
def pp (ops : List Opr) (s t : Int) : Bool := !(decide (t = -1) || !bef ops t s)
def nO (t : Int) : Bool := decide (t ≠ -1)
abbrev CSt := List Int × List Int × Bool
def stp (ops : List Opr) (s : Int) (c : CSt) : Option CSt :=
  if c.2.2 ≠ decide (100 ≤ s ∨ s = -1) then none
  else if 100 ≤ s then some (c.1 ++ [s], c.2.1, false)
  else if s = -1 then some (c.1, -1 :: c.2.1, true)
  else if s = -2 then (match c.2.1.dropWhile nO with
    | [] => none
    | _ :: r => some (c.1 ++ c.2.1.takeWhile nO, r, false))
  else some (c.1 ++ c.2.1.takeWhile (pp ops s), s :: c.2.1.dropWhile (pp ops s), true)
def runC (ops : List Opr) : List Int → CSt → Option CSt
  | [], c => some c
  | s :: l, c => (stp ops s c).bind (runC ops l)
theorem runC_app {ops : List Opr} {a b : List Int} {c : CSt} : runC ops (a ++ b) c = (runC ops a c).bind (runC ops b) := by
  induction a generalizing c with
  | nil => rfl
  | cons s a ih =>
    simp only [List.cons_append, runC]
    cases stp ops s c with
    | none => rfl
    | some d => exact ih
def accC (ops : List Opr) (l : List Int) : Option (List Int) := match runC ops l ([], [], true) with
  | none => none
  | some c => if c.2.2 then none else if c.2.1.dropWhile nO = [] then some (c.1 ++ c.2.1.takeWhile nO) else none
theorem tw_all {p : Int → Bool} {P T : List Int} (h : ∀ t, t ∈ P → p t = true) (hT : ∀ t, T.head? = some t → p t = false) : (P ++ T).takeWhile p = P ∧ (P ++ T).dropWhile p = T := by
  induction P with
  | nil =>
    cases T with
    | nil => exact ⟨rfl, rfl⟩
    | cons t T => have := hT t rfl; simp [List.takeWhile, List.dropWhile, this]
  | cons x P ih =>
    have hx := h x (by simp)
    have := ih fun t ht => h t (List.mem_cons_of_mem _ ht)
    simp only [List.cons_append, List.takeWhile, List.dropWhile, hx]
    exact ⟨by rw [this.1], this.2⟩
/-! ### By the last -/
def chs (ops : List Opr) (x y : Int) : Bool := decide (lv ops x < lv ops y) || (decide (lv ops x = lv ops y) && !rg ops x)
def scC (ops : List Opr) (l : List Int) : Nat → Option (Int × Int)
  | 0 => some (0, -1)
  | k + 1 => match scC ops l k with
    | none => none
    | some c =>
      if l.getD k 0 = -2 ∧ c.1 + dp1 (l.getD k 0) < 0 then none
      else some (c.1 + dp1 (l.getD k 0), if c.1 + dp1 (l.getD k 0) = 0 ∧ isO (l.getD k 0) ∧ (c.2 < 0 ∨ chs ops (l.getD k 0) (l.getD c.2.toNat 0) = true) then (k : Int) else c.2)
/-- What is known of the operator that is applied last among so many signs. -/
structure LaC (ops : List Opr) (l : List Int) (k n : Nat) : Prop where
  lt : n < k
  op : isO (l.getD n 0)
  de : dep (l.take n) = 0
  be : ∀ i, i < n → isO (l.getD i 0) → dep (l.take i) = 0 → bef ops (l.getD i 0) (l.getD n 0) = true
  af : ∀ i, n < i → i < k → isO (l.getD i 0) → dep (l.take i) = 0 → bef ops (l.getD n 0) (l.getD i 0) = false
theorem vS_op {ops : List Opr} {l : List Int} {i : Nat} (hv : ∀ s, s ∈ l → vS ops s) (hi : i < l.length) (h : isO (l.getD i 0)) : 0 ≤ l.getD i 0 ∧ l.getD i 0 < ops.length := by
  have := hv _ (show l.getD i 0 ∈ l from getD_mem' hi)
  unfold isO at h
  rcases this with h1 | h1 | h1 | h1 <;> omega
theorem bef_iff {ops : List Opr} {a b : Int} : bef ops a b = true ↔ lv ops b < lv ops a ∨ (lv ops a = lv ops b ∧ rg ops a = false) := by
  unfold bef; simp [Bool.not_eq_true]
theorem chs_iff {ops : List Opr} {a b : Int} : chs ops a b = true ↔ lv ops a < lv ops b ∨ (lv ops a = lv ops b ∧ rg ops a = false) := by
  unfold chs; simp [Bool.not_eq_true]
theorem scC_spec {ops : List Opr} {l : List Int} (hc : ConsO ops) (hv : ∀ s, s ∈ l → vS ops s) : ∀ {k : Nat}, k ≤ l.length → ∀ {d la : Int}, scC ops l k = some (d, la) →
    d = dep (l.take k) ∧ (∀ m, m ≤ k → 0 ≤ dep (l.take m)) ∧ ((la = -1 ∧ ∀ i, i < k → isO (l.getD i 0) → dep (l.take i) ≠ 0) ∨ ∃ n : Nat, la = n ∧ LaC ops l k n)
  | 0, _, d, la, h => by
    simp only [scC, Option.some.injEq, Prod.mk.injEq] at h
    obtain ⟨rfl, rfl⟩ := h
    exact ⟨by simp [dep], fun m hm => by rw [show m = 0 by omega]; simp [dep], .inl ⟨rfl, fun i hi => absurd hi (Nat.not_lt_zero _)⟩⟩
  | k + 1, hk, d, la, h => by
    simp only [scC] at h
    cases hs : scC ops l k with
    | none => rw [hs] at h; cases h
    | some c =>
      obtain ⟨d0, l0⟩ := c
      rw [hs] at h
      simp only at h
      obtain ⟨h1, h2, h3⟩ := scC_spec hc hv (show k ≤ l.length by omega) hs
      have hd := dep_succ (l := l) (k := k) (by omega)
      split at h
      · cases h
      · next hneg =>
        simp only [Option.some.injEq, Prod.mk.injEq] at h
        obtain ⟨rfl, hla⟩ := h
        have hnn : 0 ≤ d0 + dp1 (l.getD k 0) := by
          have := h2 k (Nat.le_refl _)
          by_cases e : l.getD k 0 = -2
          · have : ¬ d0 + dp1 (l.getD k 0) < 0 := fun h => hneg ⟨e, h⟩
            omega
          · have : 0 ≤ dp1 (l.getD k 0) := by unfold dp1; split <;> simp [e]
            omega
        refine ⟨by rw [hd, ← h1], fun m hm => ?_, ?_⟩
        · by_cases e : m = k + 1
          · rw [e, hd, ← h1]; exact hnn
          · exact h2 m (by omega)
        · by_cases hop : isO (l.getD k 0)
          · have e0 := dp1_op hop
            rw [e0, Int.add_zero] at hla
            by_cases hd0 : d0 = 0
            · rcases h3 with ⟨hl0, hno⟩ | ⟨n, hl0, hL⟩
              · rw [if_pos ⟨hd0, hop, .inl (by omega)⟩] at hla
                exact .inr ⟨k, hla.symm, Nat.lt_succ_self _, hop, by omega, fun i hi ho hde => absurd hde (hno i hi ho), fun i h1 h2 => absurd h2 (by omega)⟩
              · subst hl0
                have on := vS_op hv (show n < l.length by have := hL.lt; omega) hL.op
                have ok' := vS_op hv (show k < l.length by omega) hop
                rw [Int.toNat_natCast] at hla
                by_cases hch : chs ops (l.getD k 0) (l.getD n 0) = true
                · rw [if_pos ⟨hd0, hop, .inr hch⟩] at hla
                  refine .inr ⟨k, hla.symm, Nat.lt_succ_self _, hop, by omega, fun i hi ho hde => ?_, fun i h1 h2 => absurd h2 (by omega)⟩
                  have oi := vS_op hv (show i < l.length by omega) ho
                  have hch := chs_iff.mp hch
                  rw [bef_iff]
                  have ekn : lv ops (l.getD k 0) = lv ops (l.getD n 0) → rg ops (l.getD k 0) = rg ops (l.getD n 0) := hc _ _ ok'.1 ok'.2 on.1 on.2
                  have ein : lv ops (l.getD i 0) = lv ops (l.getD n 0) → rg ops (l.getD i 0) = rg ops (l.getD n 0) := hc _ _ oi.1 oi.2 on.1 on.2
                  rcases Nat.lt_trichotomy i n with hin | hin | hin
                  · have := bef_iff.mp (hL.be i hin ho hde)
                    rcases hch with h5 | ⟨h5, h6⟩
                    · left; rcases this with h7 | ⟨h7, _⟩ <;> omega
                    · rcases this with h7 | ⟨h7, h8⟩
                      · left; omega
                      · right; exact ⟨by omega, h8⟩
                  · subst hin
                    rcases hch with h5 | ⟨h5, h6⟩
                    · left; omega
                    · right; exact ⟨h5.symm, by rw [← ekn h5]; exact h6⟩
                  · have hb := hL.af i hin (by omega) ho hde
                    have hb2 : ¬ (lv ops (l.getD i 0) < lv ops (l.getD n 0) ∨ (lv ops (l.getD n 0) = lv ops (l.getD i 0) ∧ rg ops (l.getD n 0) = false)) := fun h => by rw [bef_iff.mpr h] at hb; cases hb
                    rcases hch with h5 | ⟨h5, h6⟩
                    · left; omega
                    · rw [ekn h5] at h6
                      by_cases e : lv ops (l.getD i 0) = lv ops (l.getD n 0)
                      · exact absurd (.inr ⟨e.symm, h6⟩) hb2
                      · left; have : ¬ lv ops (l.getD i 0) < lv ops (l.getD n 0) := fun h => hb2 (.inl h); omega
                · rw [if_neg (fun h => by rcases h.2.2 with h | h; omega; exact hch h)] at hla
                  refine .inr ⟨n, hla.symm, by have := hL.lt; omega, hL.op, hL.de, hL.be, fun i h1 h2 ho hde => ?_⟩
                  by_cases e : i = k
                  · subst e
                    cases hb : bef ops (l.getD n 0) (l.getD i 0) with
                    | false => rfl
                    | true =>
                      exfalso
                      refine hch (chs_iff.mpr ?_)
                      have ekn : lv ops (l.getD i 0) = lv ops (l.getD n 0) → rg ops (l.getD i 0) = rg ops (l.getD n 0) := hc _ _ ok'.1 ok'.2 on.1 on.2
                      rcases bef_iff.mp hb with h5 | ⟨h5, h6⟩
                      · exact .inl h5
                      · exact .inr ⟨h5.symm, by rw [ekn h5.symm]; exact h6⟩
                  · exact hL.af i h1 (by omega) ho hde
            · rw [if_neg (fun h => hd0 h.1)] at hla
              subst hla
              rcases h3 with ⟨hl0, hno⟩ | ⟨n, hl0, hL⟩
              · refine .inl ⟨hl0, fun i hi ho => ?_⟩
                by_cases e : i = k
                · subst e; omega
                · exact hno i (by omega) ho
              · refine .inr ⟨n, hl0, by have := hL.lt; omega, hL.op, hL.de, hL.be, fun i h1' h2' ho hde => ?_⟩
                by_cases e : i = k
                · subst e; omega
                · exact hL.af i h1' (by omega) ho hde
          · rw [if_neg (fun h => hop h.2.1)] at hla
            subst hla
            rcases h3 with ⟨hl0, hno⟩ | ⟨n, hl0, hL⟩
            · refine .inl ⟨hl0, fun i hi ho => ?_⟩
              by_cases e : i = k
              · subst e; exact absurd ho hop
              · exact hno i (by omega) ho
            · refine .inr ⟨n, hl0, by have := hL.lt; omega, hL.op, hL.de, hL.be, fun i h1' h2' ho hde => ?_⟩
              by_cases e : i = k
              · subst e; exact absurd ho hop
              · exact hL.af i h1' (by omega) ho hde
theorem scC_none {ops : List Opr} {l : List Int} : ∀ {k : Nat}, k ≤ l.length → (∀ m, m ≤ k → 0 ≤ dep (l.take m)) → ∃ c, scC ops l k = some c ∧ c.1 = dep (l.take k)
  | 0, _, _ => ⟨(0, -1), rfl, by simp [dep]⟩
  | k + 1, hk, h => by
    obtain ⟨c, h1, h2⟩ := scC_none (ops := ops) (show k ≤ l.length by omega) fun m hm => h m (by omega)
    have hd := dep_succ (l := l) (k := k) (by omega)
    have h3 := h (k + 1) (Nat.le_refl _)
    simp only [scC, h1]
    rw [if_neg (fun h => by rw [hd] at h3; omega)]
    exact ⟨_, rfl, by show c.1 + _ = _; rw [hd, h2]⟩
end Go.Dm
