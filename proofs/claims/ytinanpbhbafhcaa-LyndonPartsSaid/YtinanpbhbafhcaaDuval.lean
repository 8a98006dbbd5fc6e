/-
  Words in order, and Duval's factors: plain laws.
-/
import Derived.Test.YtinanpbhbafhcaaLyndon
namespace Go.Proofs.Ytinanpbhbafhcaa
open Go.Dm
set_option linter.unusedSimpArgs false
set_option linter.unnecessarySimpa false
set_option linter.unusedVariables false

/-- Where two words part. -/
def Parts (a b : List UInt8) (t : Nat) : Prop := t ≤ a.length ∧ t ≤ b.length ∧ (∀ s, s < t → a.getD s 0 = b.getD s 0) ∧
  ((t = a.length ∧ t = b.length ∧ bcmp a b = 0) ∨ (t = a.length ∧ t < b.length ∧ bcmp a b = -1) ∨ (t < a.length ∧ t = b.length ∧ bcmp a b = 1) ∨
   (t < a.length ∧ t < b.length ∧ (a.getD t 0).toNat < (b.getD t 0).toNat ∧ bcmp a b = -1) ∨ (t < a.length ∧ t < b.length ∧ (b.getD t 0).toNat < (a.getD t 0).toNat ∧ bcmp a b = 1))
theorem parts_ex : ∀ (a b : List UInt8), ∃ t, Parts a b t
  | [], [] => ⟨0, by simp, by simp, by simp, .inl ⟨rfl, rfl, rfl⟩⟩
  | [], _ :: _ => ⟨0, by simp, by simp, by simp, .inr (.inl ⟨rfl, by simp, rfl⟩)⟩
  | _ :: _, [] => ⟨0, by simp, by simp, by simp, .inr (.inr (.inl ⟨by simp, rfl, rfl⟩))⟩
  | x :: a, y :: b => by
    by_cases e : x = y
    · subst e
      obtain ⟨t, h1, h2, h3, h4⟩ := parts_ex a b
      refine ⟨t + 1, by simp; omega, by simp; omega, fun s hs => ?_, ?_⟩
      · cases s with
        | zero => rfl
        | succ s => simpa using h3 s (by omega)
      · have hb : bcmp (x :: a) (x :: b) = bcmp a b := by rw [bcmp, if_pos rfl]
        rw [hb]
        simpa using h4
    · refine ⟨0, by simp, by simp, fun s hs => by omega, ?_⟩
      have hb : bcmp (x :: a) (y :: b) = if x < y then -1 else 1 := by rw [bcmp, if_neg e]
      have hne : x.toNat ≠ y.toNat := fun h => e (UInt8.toNat_inj.1 h)
      rw [hb]
      by_cases hl : x < y
      · rw [if_pos hl]
        exact .inr (.inr (.inr (.inl ⟨by simp, by simp, by simpa using UInt8.lt_iff_toNat_lt.1 hl, rfl⟩)))
      · rw [if_neg hl]
        refine .inr (.inr (.inr (.inr ⟨by simp, by simp, ?_, rfl⟩)))
        have : ¬ x.toNat < y.toNat := fun h => hl (UInt8.lt_iff_toNat_lt.2 h)
        simp; omega
/-- A difference decides. -/
theorem bcmp_of {a b : List UInt8} {t : Nat} (ha : t < a.length) (hb : t < b.length) (h : ∀ s, s < t → a.getD s 0 = b.getD s 0) (hd : (a.getD t 0).toNat < (b.getD t 0).toNat) : bcmp a b < 0 := by
  obtain ⟨u, h1, h2, h3, h4⟩ := parts_ex a b
  rcases Nat.lt_trichotomy u t with hl | rfl | hl
  · have := h u hl
    rcases h4 with ⟨_, _, _⟩ | ⟨_, _, _⟩ | ⟨_, _, _⟩ | ⟨_, _, h5, _⟩ | ⟨_, _, h5, _⟩ <;> first | omega | (rw [this] at h5; omega)
  · rcases h4 with ⟨_, _, h5⟩ | ⟨_, _, h5⟩ | ⟨_, _, h5⟩ | ⟨_, _, _, h5⟩ | ⟨_, _, h6, h5⟩ <;> omega
  · have := h3 t hl
    rw [this] at hd; omega
theorem bcmp_not {a b : List UInt8} {t : Nat} (ha : t < a.length) (hb : t < b.length) (h : ∀ s, s < t → a.getD s 0 = b.getD s 0) (hd : (b.getD t 0).toNat < (a.getD t 0).toNat) : ¬ bcmp a b < 0 := by
  obtain ⟨u, h1, h2, h3, h4⟩ := parts_ex a b
  rcases Nat.lt_trichotomy u t with hl | rfl | hl
  · have := h u hl
    rcases h4 with ⟨_, _, _⟩ | ⟨_, _, _⟩ | ⟨_, _, _⟩ | ⟨_, _, h5, _⟩ | ⟨_, _, h5, _⟩ <;> first | omega | (rw [this] at h5; omega)
  · rcases h4 with ⟨_, _, h5⟩ | ⟨_, _, h5⟩ | ⟨_, _, h5⟩ | ⟨_, _, h6, h5⟩ | ⟨_, _, _, h5⟩ <;> omega
  · have := h3 t hl
    rw [this] at hd; omega
/-- Nothing is less than one of its beginnings. -/
theorem bcmp_pre {a b : List UInt8} (hb : b.length ≤ a.length) (h : ∀ s, s < b.length → a.getD s 0 = b.getD s 0) : ¬ bcmp a b < 0 := by
  obtain ⟨u, h1, h2, h3, h4⟩ := parts_ex a b
  rcases h4 with ⟨_, _, h5⟩ | ⟨_, _, h5⟩ | ⟨_, _, h5⟩ | ⟨_, h6, h5, _⟩ | ⟨_, _, h6, h5⟩
  · omega
  · omega
  · omega
  · rw [h u h6] at h5; omega
  · omega
theorem bcmp_lt {a b : List UInt8} (h : bcmp a b < 0) : ∃ t, (∀ s, s < t → a.getD s 0 = b.getD s 0) ∧ ((t = a.length ∧ t < b.length) ∨ (t < a.length ∧ t < b.length ∧ (a.getD t 0).toNat < (b.getD t 0).toNat)) := by
  obtain ⟨u, h1, h2, h3, h4⟩ := parts_ex a b
  refine ⟨u, h3, ?_⟩
  rcases h4 with ⟨_, _, h5⟩ | ⟨h6, h7, h5⟩ | ⟨_, _, h5⟩ | ⟨h6, h7, h8, h5⟩ | ⟨_, _, _, h5⟩
  · omega
  · exact .inl ⟨h6, h7⟩
  · omega
  · exact .inr ⟨h6, h7, h8⟩
  · omega

/-- A low word is less than each later part of itself at a byte. -/
theorem lyn_at {u : List UInt8} (h : isLyn u) {r : Nat} (h1 : 1 ≤ r) (h2 : r < u.length) : ∃ t, r + t < u.length ∧ (∀ s, s < t → u.getD s 0 = u.getD (r + s) 0) ∧ (u.getD t 0).toNat < (u.getD (r + t) 0).toNat := by
  obtain ⟨t, h3, h4⟩ := bcmp_lt (h.1 r h2 h1)
  simp only [getD_drop', List.length_drop] at h3 h4
  rcases h4 with ⟨h5, h6⟩ | ⟨h5, h6, h7⟩
  · omega
  · exact ⟨t, by omega, h3, h7⟩
theorem ext0' {a b : List UInt8} (hl : a.length = b.length) (h : ∀ i, i < a.length → a.getD i 0 = b.getD i 0) : a = b := by
  apply List.ext_getElem hl
  intro i h1 h2
  have := h i h1
  simpa [List.getD, h1, h2] using this
theorem bcmp_self : ∀ a : List UInt8, bcmp a a = 0
  | [] => rfl
  | x :: a => by rw [bcmp, if_pos rfl, bcmp_self a]
/-- A stretch that is low. -/
def LynAt (w : List UInt8) (i p : Nat) : Prop := ∀ r, 1 ≤ r → r < p → ∃ t, r + t < p ∧ (∀ s, s < t → w.getD (i + s) 0 = w.getD (i + r + s) 0) ∧ (w.getD (i + t) 0).toNat < (w.getD (i + r + t) 0).toNat
/-- A stretch with a period. -/
def PerAt (w : List UInt8) (i p j : Nat) : Prop := ∀ t, i + p ≤ t → t < j → w.getD t 0 = w.getD (t - p) 0
theorem per_mod {w : List UInt8} {i p j : Nat} (hp : 1 ≤ p) (h : PerAt w i p j) : ∀ a, i + a < j → w.getD (i + a) 0 = w.getD (i + a % p) 0 := by
  intro a
  induction a using Nat.strongRecOn with
  | _ a ih =>
    intro ha
    by_cases e : a < p
    · rw [Nat.mod_eq_of_lt e]
    · have h1 := h (i + a) (by omega) ha
      rw [h1, show i + a - p = i + (a - p) by omega, ih (a - p) (by omega) (by omega)]
      congr 2
      conv => rhs; rw [show a = (a - p) + p by omega, Nat.add_mod_right]
theorem duv_eq {w : List UInt8} {i p j : Nat} (hp : 1 ≤ p) (hj : i + p ≤ j) (h : PerAt w i p j) (he : w.getD (j - p) 0 = w.getD j 0) : PerAt w i p (j + 1) := fun t h1 h2 => by
  by_cases e : t = j
  · subst e; exact he.symm
  · exact h t h1 (by omega)
theorem duv_less {w : List UInt8} {i p j : Nat} (hp : 1 ≤ p) (hj : i + p ≤ j) (h : PerAt w i p j) (hl : LynAt w i p) (hc : (w.getD (j - p) 0).toNat < (w.getD j 0).toNat) : LynAt w i (j + 1 - i) := by
  have hm := per_mod hp h
  intro r h1 h2
  -- what stands at j - p
  have hk : w.getD (j - p) 0 = w.getD (i + (j - i) % p) 0 := by
    have := hm (j - i - p) (by omega)
    rw [show i + (j - i - p) = j - p by omega] at this
    rw [this]
    congr 2
    conv => rhs; rw [show j - i = (j - i - p) + p by omega, Nat.add_mod_right]
  by_cases e : r % p = 0
  · refine ⟨j - i - r, by omega, fun s hs => ?_, ?_⟩
    · have a1 := hm s (by omega)
      have a2 := hm (r + s) (by omega)
      rw [a1, show i + r + s = i + (r + s) by omega, a2]
      congr 2
      rw [Nat.add_mod, e, Nat.zero_add, Nat.mod_mod]
    · have a1 := hm (j - i - r) (by omega)
      rw [show i + r + (j - i - r) = j by omega, a1]
      have a2 : (j - i - r) % p = (j - i) % p := by
        conv => rhs; rw [show j - i = (j - i - r) + r by omega, Nat.add_mod, e, Nat.add_zero, Nat.mod_mod]
      rw [a2, ← hk]
      exact hc
  · obtain ⟨t, h3, h4, h5⟩ := hl (r % p) (by omega) (Nat.mod_lt _ (by omega))
    have hrs : ∀ s, r % p + s < p → r + s < j - i → w.getD (i + r + s) 0 = w.getD (i + r % p + s) 0 := fun s hs1 hs2 => by
      have a2 := hm (r + s) (by omega)
      rw [show i + r + s = i + (r + s) by omega, a2, show i + r % p + s = i + (r % p + s) by omega]
      congr 2
      rw [Nat.add_mod, Nat.mod_eq_of_lt (show s < p by omega), Nat.mod_eq_of_lt hs1]
    by_cases e2 : r + t < j - i
    · refine ⟨t, by omega, fun s hs => ?_, ?_⟩
      · rw [hrs s (by omega) (by omega)]; exact h4 s hs
      · rw [hrs t (by omega) (by omega)]; exact h5
    · refine ⟨j - i - r, by omega, fun s hs => ?_, ?_⟩
      · rw [hrs s (by omega) (by omega)]; exact h4 s (by omega)
      · rw [show i + r + (j - i - r) = j by omega]
        have a2 : (j - i) % p = r % p + (j - i - r) := by
          conv => lhs; rw [show j - i = r + (j - i - r) by omega, Nat.add_mod, Nat.mod_eq_of_lt (show j - i - r < p by omega), Nat.mod_eq_of_lt (show r % p + (j - i - r) < p by omega)]
        rw [a2, show i + (r % p + (j - i - r)) = i + r % p + (j - i - r) by omega] at hk
        rw [hk] at hc
        by_cases e3 : j - i - r = t
        · rw [e3] at hc ⊢; omega
        · rw [h4 _ (by omega)]; exact hc
theorem stretch_get {w : List UInt8} {i p s : Nat} (h : s < p) : ((w.drop i).take p).getD s 0 = w.getD (i + s) 0 := by
  simp [List.getD, List.getElem?_take, h]
theorem stretch_len {w : List UInt8} {i p : Nat} (h : i + p ≤ w.length) : ((w.drop i).take p).length = p := by
  rw [List.length_take, List.length_drop]; omega
theorem lyn_of {w : List UInt8} {i p : Nat} (hp : 1 ≤ p) (hn : i + p ≤ w.length) (h : LynAt w i p) : isLyn ((w.drop i).take p) := by
  have hl := stretch_len hn
  refine ⟨fun r h1 h2 => ?_, by omega⟩
  rw [hl] at h1
  obtain ⟨t, h3, h4, h5⟩ := h r h2 h1
  refine bcmp_of (t := t) (by omega) (by rw [List.length_drop]; omega) (fun s hs => ?_) ?_
  · rw [getD_drop', stretch_get (by omega), stretch_get (by omega), h4 s hs, Nat.add_assoc]
  · rw [getD_drop', stretch_get (by omega), stretch_get (by omega), ← Nat.add_assoc]; exact h5
/-- The same stretch, some periods on. -/
theorem stretch_same {w : List UInt8} {i p j c : Nat} (hp : 1 ≤ p) (h : PerAt w i p j) (hj : i + c * p + p ≤ j) (hn : j ≤ w.length) : (w.drop (i + c * p)).take p = (w.drop i).take p := by
  have hm := per_mod hp h
  refine ext0' ?_ ?_
  · rw [stretch_len (by omega), stretch_len (by omega)]
  · intro s hs
    rw [stretch_len (by omega)] at hs
    rw [stretch_get hs, stretch_get hs, Nat.add_assoc, hm (c * p + s) (by omega), hm s (by omega)]
    congr 2
    rw [Nat.add_comm, Nat.add_mul_mod_self_right]
/-- None is less than the next one. -/
def Falls (L : List (List UInt8)) : Prop := ∀ a, a + 1 < L.length → ¬ bcmp (L.getD a []) (L.getD (a + 1) []) < 0
structure Factors (w : List UInt8) (i : Nat) (L : List (List UInt8)) : Prop where
  all : L.flatten = w.take i
  low : ∀ v, v ∈ L → isLyn v
  falls : Falls L
  next : 0 < L.length → ∀ m, ¬ bcmp (L.getD (L.length - 1) []) ((w.drop i).take m) < 0
theorem falls_app {L : List (List UInt8)} {v : List UInt8} (h : Falls L) (hv : 0 < L.length → ¬ bcmp (L.getD (L.length - 1) []) v < 0) : Falls (L ++ [v]) := fun a ha => by
  rw [List.length_append, List.length_singleton] at ha
  by_cases e : a + 1 < L.length
  · have e1 : (L ++ [v]).getD a [] = L.getD a [] := by simp [List.getD, List.getElem?_append_left (show a < L.length by omega)]
    have e2 : (L ++ [v]).getD (a + 1) [] = L.getD (a + 1) [] := by simp [List.getD, List.getElem?_append_left e]
    rw [e1, e2]; exact h a e
  · have e0 : a = L.length - 1 := by omega
    have e1 : (L ++ [v]).getD a [] = L.getD (L.length - 1) [] := by rw [e0]; simp [List.getD, List.getElem?_append_left (show L.length - 1 < L.length by omega)]
    have e2 : (L ++ [v]).getD (a + 1) [] = v := by rw [show a + 1 = L.length by omega]; simp [List.getD]
    rw [e1, e2]; exact hv (by omega)
theorem rep_factors {w : List UInt8} {i p j : Nat} {L : List (List UInt8)} (hp : 1 ≤ p) (hj : j ≤ w.length) (h : PerAt w i p j) (hl : LynAt w i p) (hF : Factors w i L) : ∀ c, i + c * p ≤ j →
    (L ++ List.replicate c ((w.drop i).take p)).flatten = w.take (i + c * p) ∧ (∀ v, v ∈ L ++ List.replicate c ((w.drop i).take p) → isLyn v) ∧ Falls (L ++ List.replicate c ((w.drop i).take p))
  | 0, _ => by simpa using ⟨hF.all, hF.low, hF.falls⟩
  | c + 1, hc => by
    have hc2 : i + c * p + p ≤ j := by rw [Nat.add_mul] at hc; omega
    obtain ⟨h1, h2, h3⟩ := rep_factors hp hj h hl hF c (by omega)
    have e : L ++ List.replicate (c + 1) ((w.drop i).take p) = (L ++ List.replicate c ((w.drop i).take p)) ++ [(w.drop i).take p] := by
      rw [List.replicate_succ', List.append_assoc]
    rw [e]
    refine ⟨?_, fun v hv => ?_, falls_app h3 fun _ => ?_⟩
    · rw [List.flatten_append, h1, List.flatten_singleton, ← stretch_same hp h hc2 hj, show i + (c + 1) * p = (i + c * p) + p by rw [Nat.add_mul]; omega]
      exact List.take_add.symm
    · rcases List.mem_append.1 hv with hv | hv
      · exact h2 v hv
      · rw [List.mem_singleton] at hv; rw [hv]; exact lyn_of hp (by omega) hl
    · cases c with
      | zero =>
        rw [List.replicate_zero, List.append_nil] at *
        by_cases e : 0 < L.length
        · exact hF.next e p
        · have : L = [] := List.eq_nil_of_length_eq_zero (by omega)
          rw [this]
          have hlen := stretch_len (w := w) (i := i) (p := p) (by omega)
          obtain ⟨x, l, ex⟩ : ∃ x l, (w.drop i).take p = x :: l := by
            cases h : (w.drop i).take p with
            | nil => rw [h] at hlen; simp at hlen; omega
            | cons x l => exact ⟨x, l, rfl⟩
          rename_i hpos
          rw [this] at hpos
          simp at hpos
      | succ c =>
        have e5 : (L ++ List.replicate (c + 1) ((w.drop i).take p)).getD ((L ++ List.replicate (c + 1) ((w.drop i).take p)).length - 1) [] = (w.drop i).take p := by
          rw [List.replicate_succ', ← List.append_assoc]
          simp [List.getD]
        rw [e5, bcmp_self]; omega
theorem factors_step {w : List UInt8} {i p j c : Nat} {L : List (List UInt8)} (hp : 1 ≤ p) (hj : j ≤ w.length) (h : PerAt w i p j) (hl : LynAt w i p) (hF : Factors w i L) (h1 : 1 ≤ c) (hc : i + c * p ≤ j) (hx : j < i + c * p + p)
    (hs : j = w.length ∨ (w.getD j 0).toNat < (w.getD (j - p) 0).toNat) : Factors w (i + c * p) (L ++ List.replicate c ((w.drop i).take p)) := by
  obtain ⟨a1, a2, a3⟩ := rep_factors hp hj h hl hF c hc
  refine ⟨a1, a2, a3, fun _ m => ?_⟩
  have hm := per_mod hp h
  have e5 : (L ++ List.replicate c ((w.drop i).take p)).getD ((L ++ List.replicate c ((w.drop i).take p)).length - 1) [] = (w.drop i).take p := by
    obtain ⟨c, rfl⟩ : ∃ d, c = d + 1 := ⟨c - 1, by omega⟩
    rw [List.replicate_succ', ← List.append_assoc]
    simp [List.getD]
  rw [e5]
  have hcp : 1 * p ≤ c * p := Nat.mul_le_mul_right p h1
  rw [Nat.one_mul] at hcp
  have hlen := stretch_len (w := w) (i := i) (p := p) (by omega)
  have hget : ∀ s, s < p → i + c * p + s < j → w.getD (i + c * p + s) 0 = w.getD (i + s) 0 := fun s hs1 hs2 => by
    rw [Nat.add_assoc, hm (c * p + s) (by omega), hm s (by omega)]
    congr 2
    rw [Nat.add_comm, Nat.add_mul_mod_self_right]
  by_cases e : m ≤ j - (i + c * p) ∨ j = w.length
  · refine bcmp_pre ?_ fun s hs2 => ?_
    · rw [hlen, List.length_take, List.length_drop]; omega
    · rw [List.length_take, List.length_drop] at hs2
      rw [stretch_get (by omega), stretch_get (by omega), hget s (by omega) (by omega)]
  · have hs' : (w.getD j 0).toNat < (w.getD (j - p) 0).toNat := by omega
    refine bcmp_not (t := j - (i + c * p)) (by omega) (by rw [List.length_take, List.length_drop]; omega) (fun s hs2 => ?_) ?_
    · rw [stretch_get (by omega), stretch_get (by omega), hget s (by omega) (by omega)]
    · rw [stretch_get (by omega), stretch_get (by omega), show i + c * p + (j - (i + c * p)) = j by omega]
      have e6 : w.getD (j - p) 0 = w.getD (i + (j - (i + c * p))) 0 := by
        have b1 := hm (j - p - i) (by omega)
        rw [show i + (j - p - i) = j - p by omega] at b1
        rw [b1]
        congr 2
        have : j - p - i = (j - (i + c * p)) + (c - 1) * p := by
          obtain ⟨c, rfl⟩ : ∃ d, c = d + 1 := ⟨c - 1, by omega⟩
          rw [Nat.add_sub_cancel]
          rw [Nat.add_mul, Nat.one_mul] at *
          omega
        rw [this, Nat.add_mul_mod_self_right, Nat.mod_eq_of_lt (by omega)]
      rw [← e6]; exact hs'
end Go.Proofs.Ytinanpbhbafhcaa
