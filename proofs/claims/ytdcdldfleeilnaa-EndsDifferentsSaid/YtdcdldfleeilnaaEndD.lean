/-
  How many words stand in a word (plain).
-/
import Derived.Test.YtdcdldfleeilnaaOrdP
import Derived.Test.YtdcdldfleeilnaaDmX
namespace Go.Proofs.Ytdcdldfleeilnaa
open Go.Dm
set_option linter.unusedSimpArgs false
set_option linter.unnecessarySimpa false
set_option linter.unusedVariables false
/-! ### Choosing one of each class -/
theorem nodup_sub_len {α : Type} : ∀ {l m : List α}, l.Nodup → (∀ x, x ∈ l → x ∈ m) → l.length ≤ m.length
  | [], _, _, _ => Nat.zero_le _
  | x :: l, m, hn, hs => by
    obtain ⟨a, b, rfl⟩ := List.append_of_mem (hs x (by simp))
    rw [List.nodup_cons] at hn
    have := nodup_sub_len (l := l) (m := a ++ b) hn.2 fun y hy => by
      have h1 := hs y (by simp [hy])
      have h2 : y ≠ x := fun e => hn.1 (e ▸ hy)
      simp [h2] at h1 ⊢
      exact h1
    simp only [List.length_cons, List.length_append] at this ⊢
    omega
theorem nodup_filter' {α : Type} {l : List α} (h : l.Nodup) (p : α → Bool) : (l.filter p).Nodup := h.sublist List.filter_sublist
theorem nodup_map_on {α β : Type} {f : α → β} : ∀ {l : List α}, l.Nodup → (∀ x, x ∈ l → ∀ y, y ∈ l → f x = f y → x = y) → (l.map f).Nodup
  | [], _, _ => by simp
  | x :: l, hn, hi => by
    rw [List.nodup_cons] at hn
    rw [List.map_cons, List.nodup_cons]
    refine ⟨fun hm => ?_, nodup_map_on hn.2 fun a ha b hb => hi a (by simp [ha]) b (by simp [hb])⟩
    obtain ⟨y, hy, e⟩ := List.mem_map.1 hm
    have := hi y (by simp [hy]) x (by simp) e
    exact hn.1 (this ▸ hy)
/-- Those ahead of which no like one stands. -/
def fsts {β : Type} [DecidableEq β] (l : List Nat) (lt : Nat → Nat → Bool) (f : Nat → β) : List Nat := l.filter fun i => l.all fun j => !(lt j i && decide (f j = f i))
theorem fsts_mem {β : Type} [DecidableEq β] {l : List Nat} {lt : Nat → Nat → Bool} {f : Nat → β} {i : Nat} : i ∈ fsts l lt f ↔ i ∈ l ∧ ∀ j, j ∈ l → lt j i = true → f j ≠ f i := by
  unfold fsts
  simp only [List.mem_filter, List.all_eq_true, Bool.not_eq_true', Bool.and_eq_false_iff, decide_eq_false_iff_not]
  constructor
  · rintro ⟨h1, h2⟩
    refine ⟨h1, fun j hj hl he => ?_⟩
    rcases h2 j hj with h | h
    · rw [hl] at h; cases h
    · exact h he
  · rintro ⟨h1, h2⟩
    refine ⟨h1, fun j hj => ?_⟩
    by_cases h : lt j i = true
    · exact .inr (h2 j hj h)
    · exact .inl (by simpa using h)
/-- An order in which the place of each is a number. -/
structure Ranks (l : List Nat) (lt : Nat → Nat → Bool) (r : Nat → Nat) : Prop where
  lt : ∀ i, i ∈ l → ∀ j, j ∈ l → (lt i j = true ↔ r i < r j)
  inj : ∀ i, i ∈ l → ∀ j, j ∈ l → r i = r j → i = j
theorem least_of {p : Nat → Prop} {r : Nat → Nat} : ∀ (n i : Nat), p i → r i ≤ n → ∃ j, p j ∧ ∀ k, p k → r j ≤ r k
  | 0, i, hp, hi => ⟨i, hp, fun k _ => by omega⟩
  | n + 1, i, hp, hi => by
    by_cases h : ∃ k, p k ∧ r k < r i
    · obtain ⟨k, hk, hl⟩ := h
      exact least_of n k hk (by omega)
    · exact ⟨i, hp, fun k hk => by
        by_cases e : r k < r i
        · exact absurd ⟨k, hk, e⟩ h
        · omega⟩
theorem fsts_cover {β : Type} [DecidableEq β] {l : List Nat} {lt : Nat → Nat → Bool} {f : Nat → β} {r : Nat → Nat} (h : Ranks l lt r) {i : Nat} (hi : i ∈ l) : ∃ j, j ∈ fsts l lt f ∧ f j = f i := by
  obtain ⟨j, ⟨hj, he⟩, hm⟩ := least_of (p := fun j => j ∈ l ∧ f j = f i) (r := r) (r i) i ⟨hi, rfl⟩ (Nat.le_refl _)
  refine ⟨j, fsts_mem.2 ⟨hj, fun k hk hl e => ?_⟩, he⟩
  have := hm k ⟨hk, by rw [e, he]⟩
  have := (h.lt k hk j hj).1 hl
  omega
theorem fsts_nodup {β : Type} [DecidableEq β] {l : List Nat} {lt : Nat → Nat → Bool} {f : Nat → β} {r : Nat → Nat} (h : Ranks l lt r) (hn : l.Nodup) : ((fsts l lt f).map f).Nodup := by
  refine nodup_map_on (nodup_filter' hn _) fun x hx y hy e => ?_
  obtain ⟨hx1, hx2⟩ := fsts_mem.1 hx
  obtain ⟨hy1, hy2⟩ := fsts_mem.1 hy
  refine h.inj x hx1 y hy1 ?_
  have h1 : ¬ r x < r y := fun k => hy2 x hx1 ((h.lt x hx1 y hy1).2 k) e
  have h2 : ¬ r y < r x := fun k => hx2 y hy1 ((h.lt y hy1 x hx1).2 k) e.symm
  omega
/-- How many are the first of their kind does not depend on the order. -/
theorem fsts_len {β : Type} [DecidableEq β] {l : List Nat} {lt lt' : Nat → Nat → Bool} {f : Nat → β} {r r' : Nat → Nat} (h : Ranks l lt r) (h' : Ranks l lt' r') (hn : l.Nodup) : (fsts l lt f).length = (fsts l lt' f).length := by
  have key : ∀ {lt lt' : Nat → Nat → Bool} {r r' : Nat → Nat}, Ranks l lt r → Ranks l lt' r' → (fsts l lt f).length ≤ (fsts l lt' f).length := fun {lt lt' r r'} h h' => by
    have := nodup_sub_len (l := (fsts l lt f).map f) (m := (fsts l lt' f).map f) (fsts_nodup h hn) fun x hx => by
      obtain ⟨i, hi, rfl⟩ := List.mem_map.1 hx
      obtain ⟨j, hj, e⟩ := fsts_cover (f := f) h' (fsts_mem.1 hi).1
      exact List.mem_map.2 ⟨j, hj, e⟩
    simpa using this
  exact Nat.le_antisymm (key h h') (key h' h)

/-! ### The stretches of a length -/
/-- Ends with m letters or more, of a list. -/
def lgs (u : List UInt8) (l : List Nat) (m : Nat) : List Nat := l.filter fun i => decide (i + m ≤ u.length)
def stretch (u : List UInt8) (m i : Nat) : List UInt8 := (u.drop i).take m
theorem slt_rk {u : List UInt8} {l : List Nat} (h : OrdOk u l) {i j : Nat} (hi : i < u.length) (hj : j < u.length) : slt u i j = true ↔ rk u i u.length < rk u j u.length := by
  obtain ⟨h1, h2⟩ := h.at_ hi
  obtain ⟨h3, h4⟩ := h.at_ hj
  constructor
  · intro hs
    rcases Nat.lt_trichotomy (rk u i u.length) (rk u j u.length) with k | k | k
    · exact k
    · rw [k, h4] at h2
      subst h2
      rw [slt_iff, bcmp_self] at hs; omega
    · have := h.srt _ _ k h1
      rw [h2, h4, hs] at this; cases this
  · intro k
    have := h.strict k h3
    rwa [h2, h4] at this
theorem ranks_ord {u : List UInt8} {l L : List Nat} (h : OrdOk u l) (hL : ∀ i, i ∈ L → i < u.length) : Ranks L (slt u) fun i => rk u i u.length :=
  ⟨fun i hi j hj => slt_rk h (hL i hi) (hL j hj), fun i hi j hj e => by
    have h1 := (h.at_ (hL i hi)).2
    have h2 := (h.at_ (hL j hj)).2
    rw [show rk u i u.length = rk u j u.length from e, h2] at h1
    exact h1.symm⟩
theorem ranks_nat {L : List Nat} : Ranks L (fun i j => decide (i < j)) fun i => i := ⟨fun _ _ _ _ => decide_eq_true_iff, fun _ _ _ _ e => e⟩

/-! ### Ends that begin alike stand side by side -/
theorem alk_take {a b : List UInt8} : ∀ {m : Nat}, m ≤ a.length → m ≤ b.length → (m ≤ alk a b ↔ a.take m = b.take m) := by
  induction a generalizing b with
  | nil => intro m h1 h2; have : m = 0 := by simpa using h1
           subst this; simp
  | cons x a ih =>
    cases b with
    | nil => intro m h1 h2; have : m = 0 := by simpa using h2
             subst this; simp
    | cons y b =>
      intro m h1 h2
      match m with
      | 0 => simp
      | m + 1 =>
        simp only [List.length_cons, Nat.add_le_add_iff_right] at h1 h2
        simp only [alk, List.take_succ_cons, List.cons.injEq]
        by_cases e : x = y
        · rw [if_pos e, Nat.add_le_add_iff_right, ih h1 h2]
          exact ⟨fun h => ⟨e, h⟩, fun h => h.2⟩
        · rw [if_neg e]
          exact ⟨fun h => absurd h (by omega), fun h => absurd h.1 e⟩
theorem alk_le {a b : List UInt8} : alk a b ≤ a.length ∧ alk a b ≤ b.length := by
  induction a generalizing b with
  | nil => simp [alk]
  | cons x a ih =>
    cases b with
    | nil => simp [alk]
    | cons y b =>
      simp only [alk]
      have := @ih b
      split <;> simp <;> omega
theorem sandwich {a b c : List UInt8} {m : Nat} (hab : bcmp a b ≤ 0) (hbc : bcmp b c ≤ 0) (ha : m ≤ a.length) (hc : m ≤ c.length) (h : a.take m = c.take m) : m ≤ b.length ∧ b.take m = c.take m := by
  induction m generalizing a b c with
  | zero => simp
  | succ m ih =>
    match a, b, c with
    | [], _, _ => simp at ha
    | _ :: _, _, [] => simp at hc
    | _ :: _, [], _ :: _ => simp [bcmp] at hab
    | x :: a, y :: b, z :: c =>
      simp only [List.take_succ_cons, List.cons.injEq] at h
      obtain ⟨rfl, h⟩ := h
      rw [bcmp] at hab hbc
      have e : x = y := by
        by_cases e : x = y
        · exact e
        · rw [if_neg e] at hab
          rw [if_neg (fun k => e k.symm)] at hbc
          exfalso
          split at hab
          · rename_i k
            split at hbc
            · rename_i k2
              exact absurd (UInt8.lt_trans k k2) (UInt8.lt_irrefl _)
            · omega
          · omega
      subst e
      rw [if_pos rfl] at hab hbc
      simp only [List.length_cons, Nat.add_le_add_iff_right] at ha hc
      obtain ⟨h1, h2⟩ := ih hab hbc ha hc h
      exact ⟨by simp; omega, by simp [h2]⟩
/-- What the p-th end begins with like the one ahead of it. -/
def lcpN (u : List UInt8) (l : List Nat) (p : Nat) : Nat := if p = 0 then 0 else alk (u.drop (l.getD (p - 1) 0)) (u.drop (l.getD p 0))
theorem fst_iff_lcp {u : List UInt8} {l : List Nat} (h : OrdOk u l) {p m : Nat} (hp : p < l.length) (hm : l.getD p 0 + m ≤ u.length) : (∀ j, j < u.length → j + m ≤ u.length → slt u j (l.getD p 0) = true → stretch u m j ≠ stretch u m (l.getD p 0)) ↔ lcpN u l p < m ∨ (m = 0 ∧ p = 0) := by
  have hl := h.lt hp
  unfold lcpN
  by_cases h0 : p = 0
  · subst h0
    rw [if_pos rfl]
    constructor
    · intro _; omega
    · intro _ j hj _ hs
      exfalso
      have h2 := slt_rk h hj hl
      rw [h.rank hp] at h2
      have := h2.1 hs
      omega
  · rw [if_neg h0]
    have hq := h.lt (i := p - 1) (by omega)
    have hst : slt u (l.getD (p - 1) 0) (l.getD p 0) = true := h.strict (by omega) hp
    have hb := slt_iff.1 hst
    constructor
    · intro hf
      left
      by_cases k : alk (u.drop (l.getD (p - 1) 0)) (u.drop (l.getD p 0)) < m
      · exact k
      · exfalso
        have hle := @alk_le (u.drop (l.getD (p - 1) 0)) (u.drop (l.getD p 0))
        rw [List.length_drop, List.length_drop] at hle
        refine hf _ hq (by omega) hst ?_
        exact (alk_take (by rw [List.length_drop]; omega) (by rw [List.length_drop]; omega)).1 (by omega)
    · rintro (k | k)
      · intro j hj hjm hs e
        have hjr := (slt_rk h hj hl).1 hs
        rw [h.rank hp] at hjr
        obtain ⟨hj1, hj2⟩ := h.at_ hj
        have hjp : bcmp (u.drop j) (u.drop (l.getD (p - 1) 0)) ≤ 0 := by
          by_cases e2 : rk u j u.length = p - 1
          · rw [← e2, hj2, bcmp_self]; omega
          · have := slt_iff.1 (h.strict (i := rk u j u.length) (j := p - 1) (by omega) (by omega))
            rw [hj2] at this; omega
        obtain ⟨k1, k2⟩ := sandwich hjp (Int.le_of_lt hb) (by rw [List.length_drop]; omega) (by rw [List.length_drop]; omega) e
        have := (alk_take k1 (by rw [List.length_drop]; omega)).2 k2
        omega
      · omega

/-! ### The sums -/
def sumN (n : Nat) (f : Nat → Nat) : Nat := match n with | 0 => 0 | n + 1 => sumN n f + f n
theorem sumN_congr {n : Nat} {f g : Nat → Nat} (h : ∀ i, i < n → f i = g i) : sumN n f = sumN n g := by
  induction n with
  | zero => rfl
  | succ n ih => rw [sumN, sumN, ih fun i hi => h i (by omega), h n (by omega)]
theorem sumN_add {n : Nat} {f g : Nat → Nat} : sumN n (fun i => f i + g i) = sumN n f + sumN n g := by
  induction n with
  | zero => rfl
  | succ n ih => rw [sumN, sumN, sumN, ih]; omega
theorem sumN_zero {n : Nat} : sumN n (fun _ => 0) = 0 := by
  induction n with
  | zero => rfl
  | succ n ih => rw [sumN, ih]
theorem sumN_swap {n m : Nat} {f : Nat → Nat → Nat} : sumN n (fun i => sumN m (f i)) = sumN m fun j => sumN n fun i => f i j := by
  induction n with
  | zero => exact (sumN_zero (n := m)).symm
  | succ n ih => rw [sumN, ih, ← sumN_add]; rfl
/-- How many letters of a range. -/
theorem sumN_btw {n a b : Nat} (hab : a ≤ b) (hb : b ≤ n) : sumN n (fun m => if a < m + 1 ∧ m + 1 ≤ b then 1 else 0) = b - a := by
  induction n generalizing b with
  | zero => simp [sumN]; omega
  | succ n ih =>
    rw [sumN]
    by_cases e : b = n + 1
    · subst e
      by_cases e2 : a = n + 1
      · subst e2
        rw [if_neg (by omega), sumN_congr (g := fun _ => 0) (fun i hi => by rw [if_neg (by omega)]), sumN_zero]; omega
      · have := ih (b := n) (by omega) (by omega)
        rw [if_pos (by omega), sumN_congr (g := fun m => if a < m + 1 ∧ m + 1 ≤ n then 1 else 0) (fun i hi => by
          by_cases k : a < i + 1
          · rw [if_pos (by omega), if_pos (by omega)]
          · rw [if_neg (by omega), if_neg (by omega)]), this]
        omega
    · rw [ih hab (by omega), if_neg (by omega)]; omega
theorem len_filter {n : Nat} {p : Nat → Bool} : ((List.range n).filter p).length = sumN n fun i => if p i = true then 1 else 0 := by
  induction n with
  | zero => rfl
  | succ n ih =>
    rw [List.range_succ, List.filter_append, List.length_append, ih, sumN]
    by_cases e : p n = true <;> simp [e]
theorem len_filter_perm {l m : List Nat} (h : l.Perm m) {p : Nat → Bool} : (l.filter p).length = (m.filter p).length := (h.filter p).length_eq
theorem sum_list {l : List Nat} {p : Nat → Bool} : (l.filter p).length = sumN l.length fun q => if p (l.getD q 0) = true then 1 else 0 := by
  induction l with
  | nil => rfl
  | cons x l ih =>
    have key : ∀ (n : Nat) (f : Nat → Nat), sumN (n + 1) f = f 0 + sumN n fun i => f (i + 1) := by
      intro n f
      induction n with
      | zero => simp [sumN]
      | succ n ih => rw [sumN, ih, sumN]; omega
    rw [List.length_cons, key, List.filter_cons]
    simp only [List.getD_cons_zero, List.getD_cons_succ]
    rw [← ih]
    split <;> simp <;> omega
/-- Does the stretch of a length at i stand ahead? -/
def newAt (u : List UInt8) (i m : Nat) : Bool := decide (∀ j, j < i → stretch u m j ≠ stretch u m i)
theorem mem_lgs {u : List UInt8} {m i : Nat} {l : List Nat} : i ∈ lgs u l m ↔ i ∈ l ∧ i + m ≤ u.length := by
  unfold lgs; rw [List.mem_filter, decide_eq_true_iff]
theorem count_m {u : List UInt8} {l : List Nat} (h : OrdOk u l) {m : Nat} (hm : 0 < m) : (sumN u.length fun i => if i + m ≤ u.length ∧ newAt u i m = true then 1 else 0) = sumN u.length fun p => if lcpN u l p < m ∧ l.getD p 0 + m ≤ u.length then 1 else 0 := by
  have hL : ∀ i, i ∈ lgs u (List.range u.length) m → i < u.length := fun i hi => List.mem_range.1 (mem_lgs.1 hi).1
  have hn : (lgs u (List.range u.length) m).Nodup := nodup_filter' List.nodup_range _
  have key := fsts_len (f := stretch u m) (ranks_nat (L := lgs u (List.range u.length) m)) (ranks_ord h hL) hn
  have e1 : (fsts (lgs u (List.range u.length) m) (fun i j => decide (i < j)) (stretch u m)).length = sumN u.length fun i => if i + m ≤ u.length ∧ newAt u i m = true then 1 else 0 := by
    have : fsts (lgs u (List.range u.length) m) (fun i j => decide (i < j)) (stretch u m) = (List.range u.length).filter fun i => decide (i + m ≤ u.length ∧ newAt u i m = true) := by
      unfold fsts
      conv => lhs; arg 2; unfold lgs
      rw [List.filter_filter]
      refine List.filter_congr fun i hi => ?_
      rw [List.mem_range] at hi
      rw [Bool.eq_iff_iff, Bool.and_eq_true, decide_eq_true_iff, decide_eq_true_iff, List.all_eq_true]
      constructor
      · rintro ⟨h1, h2⟩
        refine ⟨h2, decide_eq_true fun j hj e => ?_⟩
        have := h1 j (mem_lgs.2 ⟨List.mem_range.2 (by omega), by omega⟩)
        simp [hj, e] at this
      · rintro ⟨h1, h2⟩
        refine ⟨fun j hj => ?_, h1⟩
        have h3 := of_decide_eq_true h2
        by_cases k : j < i
        · simp [k, h3 j k]
        · simp [k]
    rw [this, len_filter]
    exact sumN_congr fun i hi => by simp only [decide_eq_true_iff]
  have e2 : (fsts (lgs u (List.range u.length) m) (slt u) (stretch u m)).length = sumN u.length fun p => if lcpN u l p < m ∧ l.getD p 0 + m ≤ u.length then 1 else 0 := by
    have : fsts (lgs u (List.range u.length) m) (slt u) (stretch u m) = (List.range u.length).filter fun i => decide (i + m ≤ u.length ∧ ∀ j, j < u.length → j + m ≤ u.length → slt u j i = true → stretch u m j ≠ stretch u m i) := by
      unfold fsts
      conv => lhs; arg 2; unfold lgs
      rw [List.filter_filter]
      refine List.filter_congr fun i hi => ?_
      rw [List.mem_range] at hi
      rw [Bool.eq_iff_iff, Bool.and_eq_true, decide_eq_true_iff, decide_eq_true_iff, List.all_eq_true]
      constructor
      · rintro ⟨h1, h2⟩
        refine ⟨h2, fun j hj hjm hs e => ?_⟩
        have := h1 j (mem_lgs.2 ⟨List.mem_range.2 hj, hjm⟩)
        simp [hs, e] at this
      · rintro ⟨h1, h2⟩
        refine ⟨fun j hj => ?_, h1⟩
        obtain ⟨hj1, hj2⟩ := mem_lgs.1 hj
        by_cases k : slt u j i = true
        · simp [k, h2 j (List.mem_range.1 hj1) hj2 k]
        · simp [k]
    rw [this, ← len_filter_perm h.perm, sum_list, h.len]
    refine sumN_congr fun p hp => ?_
    simp only [decide_eq_true_iff]
    have hpl : p < l.length := by rw [h.len]; exact hp
    by_cases k : l.getD p 0 + m ≤ u.length
    · have hf := fst_iff_lcp h hpl k
      by_cases k2 : lcpN u l p < m
      · rw [if_pos ⟨k, hf.2 (.inl k2)⟩, if_pos ⟨k2, k⟩]
      · rw [if_neg (fun c => by have := hf.1 c.2; omega), if_neg (fun c => k2 c.1)]
    · rw [if_neg (fun c => k c.1), if_neg (fun c => k c.2)]
  rw [← e1, ← e2, key]
/-- What the reference counts is what is left of all stretches. -/
theorem diff_eq {u : List UInt8} {l : List Nat} (h : OrdOk u l) : (sumN u.length fun i => sumN u.length fun m => if i + (m + 1) ≤ u.length ∧ newAt u i (m + 1) = true then 1 else 0) + (sumN u.length fun p => lcpN u l p) = sumN u.length fun i => u.length - i := by
  rw [sumN_swap, sumN_congr (g := fun m => sumN u.length fun p => if lcpN u l p < m + 1 ∧ m + 1 ≤ u.length - l.getD p 0 then 1 else 0) (fun m _ => by
    rw [count_m h (Nat.succ_pos m)]
    exact sumN_congr fun p hp => by
      have := h.lt (i := p) (by rw [h.len]; exact hp)
      by_cases k : lcpN u l p < m + 1 ∧ l.getD p 0 + (m + 1) ≤ u.length
      · rw [if_pos k, if_pos ⟨k.1, by omega⟩]
      · rw [if_neg k, if_neg (fun c => k ⟨c.1, by omega⟩)]), sumN_swap]
  have hle : ∀ p, p < u.length → lcpN u l p ≤ u.length - l.getD p 0 := fun p hp => by
    unfold lcpN
    split
    · omega
    · have := (@alk_le (u.drop (l.getD (p - 1) 0)) (u.drop (l.getD p 0))).2
      rw [List.length_drop] at this; exact this
  rw [sumN_congr (g := fun p => u.length - l.getD p 0 - lcpN u l p) (fun p hp => sumN_btw (hle p hp) (by omega)), ← sumN_add, sumN_congr (g := fun p => u.length - l.getD p 0) (fun p hp => by have := hle p hp; omega)]
  have hs : ∀ (l m : List Nat), l.Perm m → (sumN l.length fun p => u.length - l.getD p 0) = sumN m.length fun p => u.length - m.getD p 0 := by
    have e : ∀ l : List Nat, (sumN l.length fun p => u.length - l.getD p 0) = (l.map fun i => u.length - i).sum := by
      intro l
      induction l with
      | nil => rfl
      | cons x l ih =>
        have key : ∀ (n : Nat) (f : Nat → Nat), sumN (n + 1) f = f 0 + sumN n fun i => f (i + 1) := by
          intro n f
          induction n with
          | zero => simp [sumN]
          | succ n ih => rw [sumN, ih, sumN]; omega
        rw [List.length_cons, key, List.map_cons, List.sum_cons, ← ih]
        simp only [List.getD_cons_zero, List.getD_cons_succ]
    intro l m hp
    rw [e, e]
    exact (hp.map _).sum_nat
  have := hs _ _ h.perm
  rw [h.len, List.length_range] at this
  rw [this]
  exact sumN_congr fun i hi => by simp [List.getD, hi]
theorem sum_down {n : Nat} : (sumN n fun i => n - i) = n * (n + 1) / 2 := by
  have key : ∀ k, k ≤ n → 2 * (sumN k fun i => n - i) = k * (2 * n + 1 - k) := by
    intro k
    induction k with
    | zero => intro _; simp [sumN]
    | succ k ih =>
      intro hk
      rw [sumN, Nat.mul_add, ih (by omega)]
      obtain ⟨d, rfl⟩ : ∃ d, n = k + 1 + d := ⟨n - (k + 1), by omega⟩
      rw [show 2 * (k + 1 + d) + 1 - k = k + 2 * d + 3 by omega, show 2 * (k + 1 + d) + 1 - (k + 1) = k + 2 * d + 2 by omega, show k + 1 + d - k = d + 1 by omega]
      rw [Nat.add_mul]
      simp only [Nat.mul_add, Nat.one_mul, Nat.mul_one]
      omega
  have := key n (Nat.le_refl _)
  rw [show 2 * n + 1 - n = n + 1 by omega] at this
  omega
end Go.Proofs.Ytdcdldfleeilnaa
