/-
  The least of the longest common subsequences (plain).
-/
import Derived.Test.YtdcdldfleeilnaaCompare
namespace Go.Proofs.Ytdcdldfleeilnaa
open Go.Dm

theorem bcmp_self : ∀ {a : List UInt8}, bcmp a a = 0
  | [] => rfl
  | x :: a => by rw [bcmp, if_pos rfl]; exact bcmp_self
theorem bcmp_trans : ∀ {a b c : List UInt8}, bcmp a b ≤ 0 → bcmp b c ≤ 0 → bcmp a c ≤ 0
  | [], _, [], _, _ => by simp [bcmp]
  | [], _, _ :: _, _, _ => by simp [bcmp]
  | _ :: _, [], _, h, _ => by simp [bcmp] at h
  | _ :: _, _ :: _, [], _, h => by simp [bcmp] at h
  | x :: a, y :: b, z :: c, h1, h2 => by
    rw [bcmp] at h1 h2 ⊢
    by_cases e1 : x = y
    · subst e1
      rw [if_pos rfl] at h1
      by_cases e2 : x = z
      · rw [if_pos e2] at h2 ⊢; exact bcmp_trans h1 h2
      · rw [if_neg e2] at h2 ⊢; exact h2
    · rw [if_neg e1] at h1
      have l1 : x < y := by
        by_cases h : x < y
        · exact h
        · rw [if_neg h] at h1; omega
      by_cases e2 : y = z
      · subst e2
        rw [if_neg e1, if_pos l1]; omega
      · rw [if_neg e2] at h2
        have l2 : y < z := by
          by_cases h : y < z
          · exact h
          · rw [if_neg h] at h2; omega
        have l3 : x < z := UInt8.lt_trans l1 l2
        have n3 : x ≠ z := fun e => by rw [e] at l3; exact UInt8.lt_irrefl _ l3
        rw [if_neg n3, if_pos l3]; omega
theorem bcmp_total : ∀ {a b : List UInt8}, ¬ bcmp a b ≤ 0 → bcmp b a ≤ 0
  | [], [], h => by simp [bcmp] at h
  | [], _ :: _, h => by simp [bcmp] at h
  | _ :: _, [], _ => by simp [bcmp]
  | x :: a, y :: b, h => by
    rw [bcmp] at h ⊢
    by_cases e : x = y
    · subst e
      rw [if_pos rfl] at h ⊢; exact bcmp_total h
    · rw [if_neg e] at h
      rw [if_neg (Ne.symm e)]
      by_cases l : x < y
      · rw [if_pos l] at h; omega
      · rw [if_pos (by
          apply UInt8.lt_iff_toNat_lt.2
          have l' : ¬ x.toNat < y.toNat := fun k => l (UInt8.lt_iff_toNat_lt.2 k)
          have e' : x.toNat ≠ y.toNat := fun k => e (UInt8.toNat_inj.1 k)
          omega)]; omega
/-- As good as: longer, or as long and no later. -/
def Bt (a b : List UInt8) : Prop := b.length < a.length ∨ (a.length = b.length ∧ bcmp a b ≤ 0)
instance {a b : List UInt8} : Decidable (Bt a b) := inferInstanceAs (Decidable (_ ∨ _))
theorem Bt.refl {a : List UInt8} : Bt a a := .inr ⟨rfl, by rw [bcmp_self]; omega⟩
theorem Bt.trans {a b c : List UInt8} (h1 : Bt a b) (h2 : Bt b c) : Bt a c := by
  rcases h1 with h1 | ⟨h1, k1⟩ <;> rcases h2 with h2 | ⟨h2, k2⟩
  · exact .inl (by omega)
  · exact .inl (by omega)
  · exact .inl (by omega)
  · exact .inr ⟨by omega, bcmp_trans k1 k2⟩
theorem Bt.total {a b : List UInt8} (h : ¬ Bt a b) : Bt b a := by
  by_cases h1 : a.length < b.length
  · exact .inl h1
  · by_cases h2 : a.length = b.length
    · exact .inr ⟨h2.symm, bcmp_total fun k => h (.inr ⟨h2, k⟩)⟩
    · exact absurd (.inl (by omega)) h
theorem Bt.cons {x : UInt8} {a b : List UInt8} (h : Bt a b) : Bt (x :: a) (x :: b) := by
  rcases h with h | ⟨h, k⟩
  · exact .inl (by simp; omega)
  · exact .inr ⟨by simp [h], by rw [bcmp, if_pos rfl]; exact k⟩
def bet (a b : List UInt8) : List UInt8 := if Bt a b then a else b
theorem bet_l {a b : List UInt8} : Bt (bet a b) a := by
  unfold bet
  split
  · exact Bt.refl
  · next h => exact Bt.total h
theorem bet_r {a b : List UInt8} : Bt (bet a b) b := by
  unfold bet
  split
  · next h => exact h
  · exact Bt.refl
theorem bet_or {p : List UInt8 → Prop} {a b : List UInt8} (ha : p a) (hb : p b) : p (bet a b) := by
  unfold bet
  split
  · exact ha
  · exact hb
def sh : List UInt8 → List UInt8 → List UInt8
  | [], _ => []
  | _ :: _, [] => []
  | a :: u, b :: v => if a = b then bet (bet (sh u (b :: v)) (sh (a :: u) v)) (a :: sh u v) else bet (sh u (b :: v)) (sh (a :: u) v)
termination_by u v => u.length + v.length
theorem sh_sub : ∀ (n : Nat) (u v : List UInt8), u.length + v.length ≤ n → (sh u v).Sublist u ∧ (sh u v).Sublist v
  | _, [], v, _ => by rw [sh]; exact ⟨List.nil_sublist _, List.nil_sublist _⟩
  | _, _ :: _, [], _ => by rw [sh]; exact ⟨List.nil_sublist _, List.nil_sublist _⟩
  | 0, _ :: _, _ :: _, h => by simp at h
  | n + 1, a :: u, b :: v, h => by
    simp only [List.length_cons] at h
    have h1 := sh_sub n u (b :: v) (by simp; omega)
    have h2 := sh_sub n (a :: u) v (by simp; omega)
    have h3 := sh_sub n u v (by omega)
    have hb : (bet (sh u (b :: v)) (sh (a :: u) v)).Sublist (a :: u) ∧ (bet (sh u (b :: v)) (sh (a :: u) v)).Sublist (b :: v) :=
      bet_or (p := fun s => s.Sublist (a :: u) ∧ s.Sublist (b :: v)) ⟨h1.1.cons _, h1.2⟩ ⟨h2.1, h2.2.cons _⟩
    rw [sh]
    split
    · next e =>
      subst e
      exact bet_or (p := fun s => s.Sublist (a :: u) ∧ s.Sublist (a :: v)) hb ⟨h3.1.cons_cons _, h3.2.cons_cons _⟩
    · exact hb
theorem sh_best : ∀ (n : Nat) (u v : List UInt8), u.length + v.length ≤ n → ∀ s : List UInt8, s.Sublist u → s.Sublist v → Bt (sh u v) s
  | _, [], v, _, s, h1, _ => by rw [sh, List.sublist_nil.1 h1]; exact Bt.refl
  | _, _ :: _, [], _, s, _, h2 => by rw [sh, List.sublist_nil.1 h2]; exact Bt.refl
  | 0, _ :: _, _ :: _, h, _, _, _ => by simp at h
  | n + 1, a :: u, b :: v, h, s, h1, h2 => by
    simp only [List.length_cons] at h
    have i1 := sh_best n u (b :: v) (by simp; omega) s
    have i2 := sh_best n (a :: u) v (by simp; omega) s
    have i3 := sh_best n u v (by omega)
    have hb : ∀ x, Bt (bet (sh u (b :: v)) (sh (a :: u) v)) x → Bt (sh (a :: u) (b :: v)) x := fun x hx => by
      rw [sh]
      split
      · exact Bt.trans bet_l hx
      · exact hx
    rcases List.sublist_cons_iff.1 h1 with k1 | ⟨s1, rfl, k1⟩
    · exact hb _ (Bt.trans bet_l (i1 k1 h2))
    · rcases List.sublist_cons_iff.1 h2 with k2 | ⟨s2, e, k2⟩
      · exact hb _ (Bt.trans bet_r (i2 h1 k2))
      · injection e with e1 e2
        subst e1; subst e2
        rw [sh, if_pos rfl]
        exact Bt.trans bet_r (Bt.cons (i3 _ k1 k2))
theorem bcmp_anti : ∀ {a b : List UInt8}, bcmp a b ≤ 0 → bcmp b a ≤ 0 → a = b
  | [], [], _, _ => rfl
  | [], _ :: _, _, h => by simp [bcmp] at h
  | _ :: _, [], h, _ => by simp [bcmp] at h
  | x :: a, y :: b, h1, h2 => by
    rw [bcmp] at h1 h2
    by_cases e : x = y
    · subst e
      rw [if_pos rfl] at h1 h2
      rw [bcmp_anti h1 h2]
    · rw [if_neg e] at h1
      rw [if_neg (Ne.symm e)] at h2
      have l1 : x < y := by
        by_cases h : x < y
        · exact h
        · rw [if_neg h] at h1; omega
      have l2 : y < x := by
        by_cases h : y < x
        · exact h
        · rw [if_neg h] at h2; omega
      have a1 := UInt8.lt_iff_toNat_lt.1 l1
      have a2 := UInt8.lt_iff_toNat_lt.1 l2
      omega
theorem Bt.anti {a b : List UInt8} (h1 : Bt a b) (h2 : Bt b a) : a = b := by
  rcases h1 with h1 | ⟨h1, k1⟩ <;> rcases h2 with h2 | ⟨h2, k2⟩
  · omega
  · omega
  · omega
  · exact bcmp_anti k1 k2
theorem Bt.tail {x : UInt8} {a b : List UInt8} (h : Bt (x :: a) (x :: b)) : Bt a b := by
  rcases h with h | ⟨h, k⟩
  · exact .inl (by simpa using h)
  · exact .inr ⟨by simpa using h, by rw [bcmp, if_pos rfl] at k; exact k⟩
/-- What comes behind the first b. -/
def aft (b : UInt8) : List UInt8 → Option (List UInt8)
  | [] => none
  | x :: l => if x = b then some l else aft b l
theorem aft_sub {b : UInt8} : ∀ {U : List UInt8} {s : List UInt8}, (b :: s).Sublist U → ∃ U', aft b U = some U' ∧ s.Sublist U'
  | [], s, h => by cases h
  | x :: U, s, h => by
    rw [aft]
    by_cases e : x = b
    · subst e
      rw [if_pos rfl]
      exact ⟨U, rfl, List.cons_sublist_cons.1 h⟩
    · rw [if_neg e]
      rcases List.sublist_cons_iff.1 h with k | ⟨r, hr, k⟩
      · exact aft_sub k
      · injection hr with h1 h2
        exact absurd h1.symm e
theorem sub_aft {b : UInt8} : ∀ {U U' s : List UInt8}, aft b U = some U' → s.Sublist U' → (b :: s).Sublist U
  | [], _, _, h, _ => by cases h
  | x :: U, U', s, h, k => by
    rw [aft] at h
    by_cases e : x = b
    · subst e
      rw [if_pos rfl] at h
      injection h with h
      subst h
      exact k.cons_cons _
    · rw [if_neg e] at h
      exact (sub_aft h k).cons _
theorem sh_next {U V s : List UInt8} {c : UInt8} (h : sh U V = c :: s) : ∃ U' V', aft c U = some U' ∧ aft c V = some V' ∧ sh U' V' = s := by
  have ⟨h1, h2⟩ := sh_sub _ U V (Nat.le_refl _)
  rw [h] at h1 h2
  obtain ⟨U', a1, b1⟩ := aft_sub h1
  obtain ⟨V', a2, b2⟩ := aft_sub h2
  refine ⟨U', V', a1, a2, ?_⟩
  have k1 := sh_best _ U' V' (Nat.le_refl _) s b1 b2
  have ⟨q1, q2⟩ := sh_sub _ U' V' (Nat.le_refl _)
  have k2 := sh_best _ U V (Nat.le_refl _) _ (sub_aft a1 q1) (sub_aft a2 q2)
  rw [h] at k2
  exact Bt.anti k1 k2.tail
theorem sh_least {U V s U' V' : List UInt8} {b c : UInt8} (h : sh U V = c :: s) (a1 : aft b U = some U') (a2 : aft b V = some V') (hl : (sh U' V').length + 1 = (sh U V).length) : c ≤ b := by
  have ⟨q1, q2⟩ := sh_sub _ U' V' (Nat.le_refl _)
  have k := sh_best _ U V (Nat.le_refl _) _ (sub_aft a1 q1) (sub_aft a2 q2)
  rw [h] at k hl
  rcases k with k | ⟨_, k⟩
  · simp at k hl; omega
  · rw [bcmp] at k
    by_cases e : c = b
    · rw [e]; exact UInt8.le_refl _
    · rw [if_neg e] at k
      by_cases l : c < b
      · exact UInt8.le_of_lt l
      · rw [if_neg l] at k; omega
theorem sh_none {U V : List UInt8} {b : UInt8} (h : sh U V = []) : ¬ (∃ U' V', aft b U = some U' ∧ aft b V = some V') := by
  rintro ⟨U', V', a1, a2⟩
  have k := sh_best _ U V (Nat.le_refl _) [b] (sub_aft a1 (List.nil_sublist _)) (sub_aft a2 (List.nil_sublist _))
  rw [h] at k
  rcases k with k | ⟨k, _⟩
  · simp at k
  · simp at k
end Go.Proofs.Ytdcdldfleeilnaa
