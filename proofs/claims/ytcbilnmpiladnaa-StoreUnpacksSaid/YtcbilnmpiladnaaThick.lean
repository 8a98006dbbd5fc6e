/-
  Thickets: which spots are sound, orders of them.
-/
import Derived.Test.YtcbilnmpiladnaaDmX
namespace Go.Dm
set_option linter.unusedSimpArgs false
set_option linter.unusedVariables false
/-- The ways of a spot. -/
def wys (t : Thicket) (i : Nat) : List (List Int) := (t.spots.getD i default).ways
/-- The spots of a way. -/
def tl (w : List Int) : List Int := w.drop 1
def Ed (t : Thicket) (i k : Nat) : Prop := ∃ w, w ∈ wys t i ∧ (k : Int) ∈ tl w
def Rg (t : Thicket) (n : Nat) : Prop := ∀ i, i < n → ∀ w, w ∈ wys t i → ∀ x, x ∈ tl w → 0 ≤ x ∧ x < n
inductive Okk (t : Thicket) (n : Nat) : Nat → Prop
  | mk {i : Nat} (hi : i < n) (hp : ∀ w, w ∈ wys t i → ∀ x, x ∈ tl w → 0 ≤ x) (h : ∀ w, w ∈ wys t i → ∀ x, x ∈ tl w → Okk t n x.toNat) : Okk t n i
inductive Tr (t : Thicket) : Nat → Nat → Prop
  | one {i k : Nat} (h : Ed t i k) : Tr t i k
  | snoc {i j k : Nat} (h : Tr t i j) (e : Ed t j k) : Tr t i k
theorem Tr.first {t : Thicket} {i j : Nat} (h : Tr t i j) : ∃ k, Ed t i k ∧ (k = j ∨ Tr t k j) := by
  induction h with
  | one h => exact ⟨_, h, .inl rfl⟩
  | snoc h e ih =>
    obtain ⟨k, h1, h2⟩ := ih
    exact ⟨k, h1, .inr (h2.elim (fun h => h ▸ .one e) fun h => .snoc h e)⟩
theorem ok_loop {t : Thicket} {n i : Nat} (h : Okk t n i) : ¬ Tr t i i := by
  induction h with
  | @mk i hi hp h ih =>
    intro hc
    obtain ⟨k, ⟨w, h1, h2⟩, h3⟩ := hc.first
    have h4 := ih w h1 _ h2
    rw [Int.toNat_natCast] at h4
    exact h4 (h3.elim (fun e => e ▸ .one ⟨w, e ▸ h1, e ▸ h2⟩) fun h => .snoc h ⟨w, h1, h2⟩)
theorem ok_kid {t : Thicket} {n i k : Nat} (h : Okk t n i) (e : Ed t i k) : Okk t n k := by
  cases h with
  | mk hi hp h =>
    obtain ⟨w, h1, h2⟩ := e
    have := h w h1 _ h2
    rwa [Int.toNat_natCast] at this
/-- Each spot stands behind those of its ways. -/
def Topo (t : Thicket) (out : List Nat) : Prop := ∀ j, j < out.length → ∀ k, Ed t (out.getD j 0) k → ∃ j', j' < j ∧ out.getD j' 0 = k
theorem topo_nil {t : Thicket} : Topo t [] := fun j h => absurd h (by simp)
theorem mem_getD0 {l : List Nat} {x : Nat} : x ∈ l ↔ ∃ j, j < l.length ∧ l.getD j 0 = x := by
  constructor
  · intro h
    obtain ⟨j, hj, e⟩ := List.getElem_of_mem h
    exact ⟨j, hj, by simp [List.getD, hj, e]⟩
  · rintro ⟨j, hj, e⟩
    rw [← e]
    simp only [List.getD, List.getElem?_eq_getElem hj, Option.getD_some]
    exact List.getElem_mem hj
theorem getD_app0 {a b : List Nat} {j : Nat} (h : j < a.length) : (a ++ b).getD j 0 = a.getD j 0 := by simp [List.getD, List.getElem?_append_left h]
theorem getD_end0 {a : List Nat} {x : Nat} : (a ++ [x]).getD a.length 0 = x := by simp [List.getD]
theorem Topo.snoc {t : Thicket} {out : List Nat} {i : Nat} (h : Topo t out) (hi : ∀ k, Ed t i k → k ∈ out) : Topo t (out ++ [i]) := fun j hj k hk => by
  rw [List.length_append, List.length_singleton] at hj
  by_cases e : j < out.length
  · rw [getD_app0 e] at hk
    obtain ⟨j', h1, h2⟩ := h j e k hk
    exact ⟨j', h1, by rw [getD_app0 (by omega)]; exact h2⟩
  · have e : j = out.length := by omega
    subst e
    rw [getD_end0] at hk
    obtain ⟨j', h1, h2⟩ := mem_getD0.mp (hi k hk)
    exact ⟨j', h1, by rw [getD_app0 h1]; exact h2⟩
theorem Topo.ok {t : Thicket} {n : Nat} {out : List Nat} (h : Topo t out) (hr : Rg t n) (hn : ∀ x, x ∈ out → x < n) : ∀ x, x ∈ out → Okk t n x := by
  have : ∀ j, j < out.length → Okk t n (out.getD j 0) := by
    intro j
    induction j using Nat.strongRecOn with
    | _ j ih =>
      intro hj
      have hx := hn _ (mem_getD0.mpr ⟨j, hj, rfl⟩)
      refine .mk hx (fun w hw x hxw => (hr _ hx w hw x hxw).1) fun w hw x hxw => ?_
      have h1 := hr _ hx w hw x hxw
      obtain ⟨j', h2, h3⟩ := h j hj x.toNat ⟨w, hw, by rw [show ((x.toNat : Nat) : Int) = x by omega]; exact hxw⟩
      rw [← h3]
      exact ih j' h2 (by omega)
  intro x hx
  obtain ⟨j, hj, e⟩ := mem_getD0.mp hx
  exact e ▸ this j hj
/-- A search: what is known of states (1: on the way, 2: done) and of what is done. -/
structure VI (t : Thicket) (n : Nat) (st : Nat → Nat) (out : List Nat) : Prop where
  le : ∀ j, st j ≤ 2
  mem : ∀ j, j ∈ out ↔ (j < n ∧ st j = 2)
  nd : out.Nodup
  to : Topo t out
/-- How many are not begun. -/
def zc (n : Nat) (st : Nat → Nat) : Nat := ((List.range n).filter fun j => st j == 0).length
def upd (st : Nat → Nat) (i v : Nat) : Nat → Nat := fun j => if j = i then v else st j
theorem upd_at {st : Nat → Nat} {i v : Nat} : upd st i v i = v := if_pos rfl
theorem upd_ne {st : Nat → Nat} {i v j : Nat} (h : j ≠ i) : upd st i v j = st j := if_neg h
theorem fil_le {p q : Nat → Bool} : ∀ {l : List Nat}, (∀ x, q x = true → p x = true) → (l.filter q).length ≤ (l.filter p).length
  | [], _ => by simp
  | x :: l, h => by
    have ih := fil_le (l := l) h
    rw [List.filter_cons, List.filter_cons]
    have hx := h x
    cases hq : q x <;> cases hp : p x
    · simpa using ih
    · simp; omega
    · exact absurd (hx hq) (by rw [hp]; simp)
    · simp; omega
theorem fil_lt {p q : Nat → Bool} {i : Nat} : ∀ {l : List Nat}, (∀ x, q x = true → p x = true) → i ∈ l → p i = true → q i = false → (l.filter q).length < (l.filter p).length
  | [], _, h, _, _ => absurd h (by simp)
  | x :: l, h, hm, h1, h2 => by
    rw [List.filter_cons, List.filter_cons]
    rcases List.mem_cons.mp hm with e | hm
    · subst e
      have := fil_le (l := l) h
      rw [if_neg (by rw [h2]; simp), if_pos h1]
      simp; omega
    · have ih := fil_lt (l := l) h hm h1 h2
      have hx := h x
      cases hq : q x <;> cases hp : p x
      · simpa using ih
      · simp; omega
      · exact absurd (hx hq) (by rw [hp]; simp)
      · simp; omega
theorem zc_upd {n : Nat} {st : Nat → Nat} {i : Nat} (hi : i < n) (h : st i = 0) : zc n (upd st i 1) < zc n st := by
  refine fil_lt (i := i) (fun x hx => ?_) (List.mem_range.mpr hi) (by simp [h]) (by simp [upd_at])
  by_cases e : x = i
  · subst e; rw [upd_at] at hx; simp at hx
  · rw [upd_ne e] at hx; exact hx
/-- One search is behind another one: what was begun stays begun, what was on the way is so still, what was done is done. -/
structure VB (st : Nat → Nat) (out : List Nat) (st' : Nat → Nat) (out' : List Nat) : Prop where
  gr : ∀ j, st' j = 1 ↔ st j = 1
  dn : ∀ j, st j = 2 → st' j = 2
theorem VB.refl {st : Nat → Nat} {out : List Nat} : VB st out st out := ⟨fun _ => .rfl, fun _ h => h⟩
theorem VB.trans {st st' st'' : Nat → Nat} {out out' out'' : List Nat} (h : VB st out st' out') (k : VB st' out' st'' out'') : VB st out st'' out'' := ⟨fun j => (k.gr j).trans (h.gr j), fun j e => k.dn j (h.dn j e)⟩
theorem VB.zc {n : Nat} {st st' : Nat → Nat} {out out' : List Nat} (h : VB st out st' out') (hl : ∀ j, st j ≤ 2) : zc n st' ≤ zc n st := by
  refine fil_le fun x hx => ?_
  have h1 := h.gr x
  have h2 := h.dn x
  have h3 := hl x
  simp only [beq_iff_eq] at hx ⊢
  rcases (show st x = 0 ∨ st x = 1 ∨ st x = 2 by omega) with e | e | e
  · exact e
  · have := h1.mpr e; omega
  · have := h2 e; omega
/-- The last step of a search from i. -/
theorem VI.fin {t : Thicket} {n i : Nat} {st : Nat → Nat} {out : List Nat} (h : VI t n st out) (hi : i < n) (h1 : st i = 1) (hk : ∀ k, Ed t i k → st k = 2 ∧ k < n) : VI t n (upd st i 2) (out ++ [i]) := by
  have hno : i ∉ out := fun hm => by have := ((h.mem i).mp hm).2; omega
  refine ⟨fun j => ?_, fun j => ?_, ?_, h.to.snoc fun k e => (h.mem k).mpr ⟨(hk k e).2, (hk k e).1⟩⟩
  · by_cases e : j = i
    · subst e; rw [upd_at]; omega
    · rw [upd_ne e]; exact h.le j
  · rw [List.mem_append, List.mem_singleton]
    by_cases e : j = i
    · subst e; rw [upd_at]; simp [hi]
    · rw [upd_ne e, ← h.mem j]; simp [e]
  · rw [List.nodup_append]
    exact ⟨h.nd, by simp, fun a ha b hb e => by rw [List.mem_singleton] at hb; subst hb; subst e; exact hno ha⟩
theorem VI.start {t : Thicket} {n i : Nat} {st : Nat → Nat} {out : List Nat} (h : VI t n st out) (h0 : st i = 0) : VI t n (upd st i 1) out := by
  refine ⟨fun j => ?_, fun j => ?_, h.nd, h.to⟩
  · by_cases e : j = i
    · subst e; rw [upd_at]; omega
    · rw [upd_ne e]; exact h.le j
  · by_cases e : j = i
    · subst e; rw [upd_at, h.mem j]; omega
    · rw [upd_ne e]; exact h.mem j
theorem nodup_len : ∀ (n : Nat) (l : List Nat), l.Nodup → (∀ x, x ∈ l → x < n) → l.length ≤ n
  | 0, l, _, h => by
    cases l with
    | nil => simp
    | cons x l => have := h x (by simp); omega
  | n + 1, l, hd, h => by
    by_cases e : n ∈ l
    · have := nodup_len n (l.erase n) (hd.erase n) fun x hx => by
        have h1 := (hd.mem_erase_iff).1 hx
        have := h x h1.2
        have := h1.1
        omega
      rw [List.length_erase_of_mem e] at this
      omega
    · have := nodup_len n l hd fun x hx => by
        have h1 := h x hx
        have : x ≠ n := fun h => e (h ▸ hx)
        omega
      omega
end Go.Dm
