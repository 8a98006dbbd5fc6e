/-
  Lists that grow by what is new (plain).
-/
import Derived.Test.YtbbpmodfbdibcaaIns
import Derived.Test.YtbbpmodfbdibcaaMRun
namespace Go.Proofs.Ytbbpmodfbdibcaa
open Go.Dm
set_option linter.unusedSimpArgs false
set_option linter.unnecessarySimpa false
set_option linter.unusedVariables false
set_option linter.defProp false

def niD (x : Nat) : List D := [iv .i64 x]
theorem niD_eq {x : Nat} : niD x = [iv .i64 x] := (rfl)
theorem niD_snoc {l : List Nat} {x : Nat} : tbl niD l ++ [[D.v (.int .i64 (x : Int))]] = tbl niD (l ++ [x]) := by rw [tbl_app]; rfl
theorem nodup_len : ∀ (n : Nat) (l : List Nat), l.Nodup → (∀ x, x ∈ l → x < n) → l.length ≤ n
  | 0, l, _, h => by
    cases l with
    | nil => simp
    | cons x l => have := h x (by simp); omega
  | n + 1, l, hd, h => by
    by_cases e : n ∈ l
    · have := nodup_len n (l.erase n) (hd.erase n) fun x hx => by
        have h1 := (hd.mem_erase_iff).1 hx
        have := h x h1.2
        have := h1.1
        omega
      rw [List.length_erase_of_mem e] at this
      omega
    · have := nodup_len n l hd fun x hx => by
        have h1 := h x hx
        have : x ≠ n := fun h => e (h ▸ hx)
        omega
      omega
theorem ins_nd {l : List Nat} {x : Nat} (h : l.Nodup) : (ins l x).Nodup := by
  unfold ins
  split
  · exact h
  · rename_i hx
    refine List.nodup_append.mpr ⟨h, by simp, fun a ha b hb e => hx ?_⟩
    rw [← List.mem_singleton.mp hb, ← e]; exact ha
def addG (f : Nat → Nat) : Nat → List Nat → List Nat
  | 0, l => l
  | s + 1, l => ins (addG f s l) (f s)
def setG (f : Nat → Nat → Nat) (k x0 : Nat) : Nat → List Nat
  | 0 => [x0]
  | i + 1 => addG (f ((setG f k x0 i).getD i 0)) k (setG f k x0 i)
def rowG (f : Nat → Nat) (l : List Nat) (s : Nat) : Int := ((addG f s l).idxOf (f s) : Nat)
def rowsG (f : Nat → Nat → Nat) (k x0 : Nat) : Nat → List (List Int)
  | 0 => []
  | i + 1 => rowsG f k x0 i ++ [tab k (rowG (f ((setG f k x0 i).getD i 0)) (setG f k x0 i))]
def goG (f : Nat → Nat → Nat) (k x0 : Nat) : Nat → Nat → Nat
  | 0, i => i
  | q + 1, i => if i < (setG f k x0 i).length then goG f k x0 q (i + 1) else i
section
variable {f : Nat → Nat} {l : List Nat}
theorem addG_len : ∀ {s : Nat}, (addG f s l).length ≤ l.length + s ∧ l.length ≤ (addG f s l).length
  | 0 => by simp [addG]
  | s + 1 => by
    have h1 := @addG_len s
    have h2 := @ins_len (addG f s l) (f s)
    rw [addG]; omega
theorem addG_get {i : Nat} (h : i < l.length) : ∀ {s : Nat}, (addG f s l).getD i 0 = l.getD i 0
  | 0 => rfl
  | s + 1 => by
    have h1 := @addG_len f l s
    rw [addG, ins_get (by omega), addG_get h]
theorem addG_nd (h : l.Nodup) : ∀ {s : Nat}, (addG f s l).Nodup
  | 0 => h
  | s + 1 => ins_nd (addG_nd h)
theorem addG_lt {N : Nat} (h : ∀ x, x ∈ l → x < N) : ∀ {s : Nat}, (∀ t, t < s → f t < N) → ∀ x, x ∈ addG f s l → x < N
  | 0, _ => h
  | s + 1, hf => fun x hx => by
    rw [addG] at hx
    rcases ins_mem hx with h1 | h1
    · exact addG_lt h (fun t ht => hf t (by omega)) x h1
    · rw [h1]; exact hf s (by omega)
end
section
variable {f : Nat → Nat → Nat} {k x0 N : Nat}
theorem setG_nd : ∀ {i : Nat}, (setG f k x0 i).Nodup
  | 0 => by simp [setG]
  | i + 1 => addG_nd setG_nd
theorem getD_lt {l : List Nat} {i : Nat} (hN : 0 < N) (h : ∀ x, x ∈ l → x < N) : l.getD i 0 < N := by
  by_cases hi : i < l.length
  · exact h _ (getD_mem' hi)
  · simp [List.getD, show l[i]? = none from List.getElem?_eq_none (by omega)]; exact hN
theorem setG_lt (h0 : x0 < N) (hf : ∀ x s, x < N → s < k → f x s < N) : ∀ {i : Nat}, ∀ x, x ∈ setG f k x0 i → x < N
  | 0 => fun x hx => by
    have : x = x0 := by simpa [setG] using hx
    rw [this]; exact h0
  | i + 1 => addG_lt (setG_lt h0 hf) fun t ht => hf _ _ (getD_lt (by omega) (setG_lt h0 hf)) ht
theorem setG_len (h0 : x0 < N) (hf : ∀ x s, x < N → s < k → f x s < N) {i : Nat} : (setG f k x0 i).length ≤ N := nodup_len _ _ setG_nd (setG_lt h0 hf)
theorem rowsG_len : ∀ {i : Nat}, (rowsG f k x0 i).length = i
  | 0 => rfl
  | i + 1 => by simp [rowsG, rowsG_len (i := i)]
theorem rowsG_row : ∀ {i : Nat} {l : List Int}, l ∈ rowsG f k x0 i → l.length = k
  | 0, l, h => by simp [rowsG] at h
  | i + 1, l, h => by
    rw [rowsG] at h
    rcases List.mem_append.mp h with h | h
    · exact rowsG_row h
    · rw [List.mem_singleton.mp h]; simp [tab]
end
/-- Where a thing stands, of those that were looked at. -/
def atG (l : List Nat) (x j : Nat) : Int := if l.idxOf x < j then (l.idxOf x : Nat) else -1
theorem idx_le' {l : List Nat} {x i : Nat} (hi : i < l.length) (he : l.getD i 0 = x) : l.idxOf x ≤ i := by
  induction l generalizing i with
  | nil => simp at hi
  | cons a l ih =>
    rw [List.idxOf_cons]
    by_cases h0 : a = x
    · simp [h0]
    · have hb' : (a == x) = false := by simpa using h0
      rw [hb']
      cases i with
      | zero => simp at he; omega
      | succ i =>
        have := ih (by simpa using hi) (by simpa using he)
        simp; omega
theorem atG_set {l : List Nat} {x j : Nat} (hd : l.Nodup) (hi : j < l.length) (he : l.getD j 0 = x) : atG l x (j + 1) = j := by
  have h1 := hd.idxOf_getElem j hi
  have h2 : l[j] = x := by simpa [List.getD, hi] using he
  rw [h2] at h1
  unfold atG
  rw [h1, if_pos (by omega)]
theorem atG_skip {l : List Nat} {x j : Nat} (hi : j < l.length) (he : l.getD j 0 ≠ x) : atG l x (j + 1) = atG l x j := by
  unfold atG
  by_cases h : l.idxOf x < j
  · rw [if_pos h, if_pos (by omega)]
  · rw [if_neg h]
    by_cases h2 : l.idxOf x < j + 1
    · have e : l.idxOf x = j := by omega
      have hl : l.idxOf x < l.length := by omega
      have := List.getElem_idxOf hl
      simp only [e] at this
      exact absurd (by simp [List.getD, hi, this]) he
    · rw [if_neg h2]
theorem atG_out {l : List Nat} {x j : Nat} (hj : j = l.length) (ha : atG l x j < 0) : x ∉ l ∧ l.idxOf x = l.length := by
  unfold atG at *
  have h : ¬ l.idxOf x < j := fun h => by rw [if_pos h] at ha; omega
  have h2 : x ∉ l := fun h2 => by have := List.idxOf_lt_length_iff.mpr h2; omega
  exact ⟨h2, List.idxOf_eq_length h2⟩
theorem atG_in {l : List Nat} {x j : Nat} (hj : j = l.length) (ha : ¬ atG l x j < 0) : x ∈ l ∧ atG l x j = (l.idxOf x : Nat) := by
  unfold atG at *
  by_cases h : l.idxOf x < j
  · exact ⟨List.idxOf_lt_length_iff.mp (by omega), if_pos h⟩
  · rw [if_neg h] at ha; omega
end Go.Proofs.Ytbbpmodfbdibcaa
