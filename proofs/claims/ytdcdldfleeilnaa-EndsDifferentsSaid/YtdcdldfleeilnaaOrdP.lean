/-
  The ends of a word, in order (plain).
-/
import Derived.Test.YtdcdldfleeilnaaShare
namespace Go.Proofs.Ytdcdldfleeilnaa
open Go.Dm
set_option linter.unusedSimpArgs false
set_option linter.unnecessarySimpa false
set_option linter.unusedVariables false
theorem bcmp_zero {a b : List UInt8} (h : bcmp a b = 0) : a = b := by
  have h1 : bcmp a b ≤ 0 := by omega
  refine bcmp_anti h1 ?_
  by_cases h2 : bcmp b a ≤ 0
  · exact h2
  · exfalso
    clear h1
    induction a generalizing b with
    | nil =>
      cases b with
      | nil => simp [bcmp] at h2
      | cons y b => simp [bcmp] at h
    | cons x a ih =>
      cases b with
      | nil => simp [bcmp] at h
      | cons y b =>
        rw [bcmp] at h h2
        by_cases e : x = y
        · subst e
          rw [if_pos rfl] at h h2
          exact ih h h2
        · rw [if_neg e] at h
          split at h <;> omega
theorem bcmp_neg {a b : List UInt8} : bcmp a b < 0 ↔ bcmp a b ≤ 0 ∧ a ≠ b := by
  constructor
  · intro h
    refine ⟨by omega, fun e => ?_⟩
    subst e
    rw [bcmp_self] at h; omega
  · rintro ⟨h, hn⟩
    by_cases e : bcmp a b = 0
    · exact absurd (bcmp_zero e) hn
    · omega
theorem bcmp_nneg {a b : List UInt8} (h : ¬ bcmp a b < 0) : bcmp b a ≤ 0 := by
  by_cases e : bcmp a b = 0
  · rw [bcmp_zero e, bcmp_self]; omega
  · exact bcmp_total (by omega)
theorem bcmp_lt_trans {a b c : List UInt8} (h : bcmp a b < 0) (k : bcmp b c < 0) : bcmp a c < 0 := by
  obtain ⟨h1, h2⟩ := bcmp_neg.1 h
  obtain ⟨k1, k2⟩ := bcmp_neg.1 k
  refine bcmp_neg.2 ⟨bcmp_trans h1 k1, fun e => ?_⟩
  subst e
  exact h2 (bcmp_anti h1 k1)
theorem bcmp_ge_trans {a b c : List UInt8} (h : ¬ bcmp a b < 0) (k : ¬ bcmp b c < 0) : ¬ bcmp a c < 0 := fun e => by
  have h1 := bcmp_trans (bcmp_nneg k) (bcmp_nneg h)
  obtain ⟨e1, e2⟩ := bcmp_neg.1 e
  exact e2 (bcmp_anti e1 h1)
theorem bcmp_asymm {a b : List UInt8} (h : bcmp a b < 0) : ¬ bcmp b a < 0 := fun k => by
  have := bcmp_lt_trans h k
  rw [bcmp_self] at this; omega
/-- An end stands ahead of another one. -/
def slt (u : List UInt8) (i j : Nat) : Bool := decide (bcmp (u.drop i) (u.drop j) < 0)
theorem slt_iff {u : List UInt8} {i j : Nat} : slt u i j = true ↔ bcmp (u.drop i) (u.drop j) < 0 := by unfold slt; exact decide_eq_true_iff
theorem slt_total {u : List UInt8} {i j : Nat} (hi : i < u.length) (hj : j < u.length) (h : i ≠ j) (hn : slt u j i = false) : slt u i j = true := by
  rw [slt_iff]
  refine bcmp_neg.2 ⟨bcmp_nneg fun k => ?_, fun e => ?_⟩
  · rw [slt_iff.2 k] at hn; cases hn
  · have := congrArg List.length e
    rw [List.length_drop, List.length_drop] at this; omega
/-- These are the ends, in order. -/
structure OrdOk (u : List UInt8) (l : List Nat) : Prop where
  perm : l.Perm (List.range u.length)
  srt : ∀ i j, i < j → j < l.length → slt u (l.getD j 0) (l.getD i 0) = false
theorem OrdOk.len {u : List UInt8} {l : List Nat} (h : OrdOk u l) : l.length = u.length := by rw [h.perm.length_eq, List.length_range]
theorem OrdOk.lt {u : List UInt8} {l : List Nat} (h : OrdOk u l) {i : Nat} (hi : i < l.length) : l.getD i 0 < u.length := by
  have : l.getD i 0 ∈ l := by rw [List.getD_eq_getElem?_getD, List.getElem?_eq_getElem hi]; exact List.getElem_mem hi
  exact List.mem_range.1 (h.perm.mem_iff.1 this)
theorem OrdOk.nodup {u : List UInt8} {l : List Nat} (h : OrdOk u l) : l.Nodup := h.perm.symm.nodup List.nodup_range
theorem OrdOk.inj {u : List UInt8} {l : List Nat} (h : OrdOk u l) {i j : Nat} (hi : i < l.length) (hj : j < l.length) (e : l.getD i 0 = l.getD j 0) : i = j := by
  rw [List.getD_eq_getElem?_getD, List.getD_eq_getElem?_getD, List.getElem?_eq_getElem hi, List.getElem?_eq_getElem hj] at e
  exact (List.getElem_inj h.nodup).1 (by simpa using e)
theorem OrdOk.strict {u : List UInt8} {l : List Nat} (h : OrdOk u l) {i j : Nat} (hij : i < j) (hj : j < l.length) : slt u (l.getD i 0) (l.getD j 0) = true :=
  slt_total (h.lt (by omega)) (h.lt hj) (fun e => by have := h.inj (by omega) hj e; omega) (h.srt i j hij hj)
/-- How many ends stand ahead. -/
def rk (u : List UInt8) (i : Nat) (n : Nat) : Nat := (List.range n).countP fun j => slt u j i
theorem rk_zero {u : List UInt8} {i : Nat} : rk u i 0 = 0 := rfl
theorem rk_succ {u : List UInt8} {i n : Nat} : rk u i (n + 1) = rk u i n + if slt u n i = true then 1 else 0 := by
  unfold rk
  rw [List.range_succ, List.countP_append, List.countP_singleton]
theorem rk_le {u : List UInt8} {i n : Nat} : rk u i n ≤ n := by
  unfold rk
  exact Nat.le_trans List.countP_le_length (by simp)
theorem getD_take' {l : List Nat} {q i : Nat} (h : i < q) : (l.take q).getD i 0 = l.getD i 0 := by
  simp only [List.getD_eq_getElem?_getD, List.getElem?_take, h, if_true]
theorem getD_dropN {l : List Nat} {q i : Nat} : (l.drop q).getD i 0 = l.getD (q + i) 0 := by
  simp only [List.getD_eq_getElem?_getD, List.getElem?_drop]
theorem countP_all {l : List Nat} {p : Nat → Bool} (h : ∀ i, i < l.length → p (l.getD i 0) = true) : l.countP p = l.length := by
  rw [List.countP_eq_length]
  intro a ha
  obtain ⟨i, hi, e⟩ := List.getElem_of_mem ha
  have := h i hi
  rw [List.getD_eq_getElem?_getD, List.getElem?_eq_getElem hi] at this
  rw [← e]; exact this
theorem countP_none {l : List Nat} {p : Nat → Bool} (h : ∀ i, i < l.length → p (l.getD i 0) = false) : l.countP p = 0 := by
  rw [List.countP_eq_zero]
  intro a ha
  obtain ⟨i, hi, e⟩ := List.getElem_of_mem ha
  have := h i hi
  rw [List.getD_eq_getElem?_getD, List.getElem?_eq_getElem hi] at this
  rw [← e]; simpa using this
/-- An end's place is how many stand ahead of it. -/
theorem OrdOk.rank {u : List UInt8} {l : List Nat} (h : OrdOk u l) {p : Nat} (hp : p < l.length) : rk u (l.getD p 0) u.length = p := by
  unfold rk
  rw [← h.perm.countP_eq]
  obtain ⟨x, hx⟩ : ∃ x, l.getD p 0 = x := ⟨_, rfl⟩
  rw [hx]
  have e := List.take_append_drop p l
  conv => lhs; rw [← e]
  rw [List.countP_append, countP_all, countP_none, Nat.add_zero, List.length_take]
  · omega
  · intro i hi
    rw [List.length_drop] at hi
    rw [getD_dropN]
    by_cases hz : i = 0
    · subst hz
      rw [Nat.add_zero, hx]
      unfold slt
      rw [bcmp_self]; rfl
    · rw [← hx]; exact h.srt p (p + i) (by omega) (by omega)
  · intro i hi
    rw [List.length_take] at hi
    rw [getD_take' (q := p) (by omega), ← hx]
    exact h.strict (by omega) hp
theorem OrdOk.at_ {u : List UInt8} {l : List Nat} (h : OrdOk u l) {i : Nat} (hi : i < u.length) : rk u i u.length < l.length ∧ l.getD (rk u i u.length) 0 = i := by
  have hm : i ∈ l := h.perm.mem_iff.2 (List.mem_range.2 hi)
  obtain ⟨p, hp, e⟩ := List.getElem_of_mem hm
  have e' : l.getD p 0 = i := by rw [List.getD_eq_getElem?_getD, List.getElem?_eq_getElem hp]; exact e
  have := h.rank hp
  rw [e'] at this
  rw [this]; exact ⟨hp, e'⟩
end Go.Proofs.Ytdcdldfleeilnaa
