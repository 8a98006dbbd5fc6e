/-
  coppicerref.splits: the ways of signs over a stretch.
-/
import Derived.Test.YtjekkbpdgnohcaaBush
import Derived.Test.YtjekkbpdgnohcaaNth
namespace Go.Dm
def splN (g : Grammar) (w : List Int) : List Int → Nat → Nat → List (List Nat)
  | [], i, j => if i = j then [[]] else []
  | x :: l, i, j => (List.range (j - i)).flatMap fun q => if trees g w x i (i + 1 + q) = 0 ∨ rowN g w l (i + 1 + q) j = 0 then [] else (splN g w l (i + 1 + q) j).map fun r => (i + 1 + q) :: r
def splP (g : Grammar) (w : List Int) (x : Int) (l : List Int) (i j n : Nat) : List (List Nat) := (List.range n).flatMap fun q => if trees g w x i (i + 1 + q) = 0 ∨ rowN g w l (i + 1 + q) j = 0 then [] else (splN g w l (i + 1 + q) j).map fun r => (i + 1 + q) :: r
theorem splN_cons {g : Grammar} {w : List Int} {x : Int} {l : List Int} {i j : Nat} : splN g w (x :: l) i j = splP g w x l i j (j - i) := rfl
theorem splP_succ {g : Grammar} {w : List Int} {x : Int} {l : List Int} {i j n : Nat} : splP g w x l i j (n + 1) = splP g w x l i j n ++ (if trees g w x i (i + 1 + n) = 0 ∨ rowN g w l (i + 1 + n) j = 0 then [] else (splN g w l (i + 1 + n) j).map fun r => (i + 1 + n) :: r) := by
  unfold splP
  rw [List.range_succ, List.flatMap_append]; simp
theorem flatMap_congr' {α β : Type} {f k : α → List β} : ∀ {l : List α}, (∀ x, x ∈ l → f x = k x) → l.flatMap f = l.flatMap k
  | [], _ => rfl
  | x :: l, h => by rw [List.flatMap_cons, List.flatMap_cons, h x (by simp), flatMap_congr' fun y hy => h y (by simp [hy])]
theorem filter_flat {α β : Type} {f : α → List β} {p : β → Bool} : ∀ {l : List α}, (l.flatMap f).filter p = l.flatMap fun x => (f x).filter p
  | [] => rfl
  | x :: l => by rw [List.flatMap_cons, List.filter_append, List.flatMap_cons, filter_flat]
theorem sumL_zero {α : Type} {f : α → Nat} : ∀ {l : List α}, sumL f l = 0 → ∀ x, x ∈ l → f x = 0
  | [], _, x, hx => by cases hx
  | y :: l, h, x, hx => by
    rw [sumL] at h
    rcases List.mem_cons.1 hx with rfl | hx
    · omega
    · exact sumL_zero (l := l) (by omega) x hx
theorem splN_cut {g : Grammar} {w : List Int} (hp : Proper g) : ∀ (l : List Int) (i j : Nat), l ≠ [] → splN g w l i j = (cutN (l.length - 1) i j).filter fun c => decide (prT g w l i c ≠ 0)
  | [], _, _, h => absurd rfl h
  | [x], i, j, _ => by
    have e1 : cutN ([x].length - 1) i j = [[j]] := rfl
    rw [e1, splN_cons]
    have e2 : ∀ n, n ≤ j - i → splP g w x [] i j n = if n = j - i ∧ i < j ∧ trees g w x i j ≠ 0 then [[j]] else [] := by
      intro n
      induction n with
      | zero => intro _; rw [if_neg (fun h => by omega)]; rfl
      | succ n ih =>
        intro hn
        rw [splP_succ, ih (by omega), if_neg (fun h => by omega), List.nil_append, rowN_nil]
        by_cases h : n + 1 = j - i
        · have e : i + 1 + n = j := by omega
          rw [e, if_pos rfl]
          by_cases ht : trees g w x i j = 0
          · rw [if_pos (.inl ht), if_neg (fun c => c.2.2 ht)]
          · rw [if_neg (fun c => c.elim ht (fun c => by omega)), if_pos ⟨h, by omega, ht⟩]
            simp [splN]
        · rw [if_pos (.inr (if_neg (by omega))), if_neg (fun c => h c.1)]
    rw [e2 _ (Nat.le_refl _)]
    simp only [prT_cons, prT_nil, Nat.mul_one, List.filter_cons, List.filter_nil, decide_eq_true_eq]
    by_cases h : i < j
    · by_cases ht : trees g w x i j = 0
      · rw [if_neg (fun c => c.2.2 ht), if_neg (fun c => c ht)]
      · simp [h, ht]
    · rw [if_neg (fun c => h c.2.1), if_neg (fun c => c (trees_none hp (by omega)))]
  | x :: y :: l, i, j, _ => by
    rw [splN_cons]
    show splP g w x (y :: l) i j (j - i) = (cutN (l.length + 1) i j).filter _
    unfold cutN
    rw [filter_flat]
    have key : ∀ q, (if trees g w x i (i + 1 + q) = 0 ∨ rowN g w (y :: l) (i + 1 + q) j = 0 then [] else (splN g w (y :: l) (i + 1 + q) j).map fun r => (i + 1 + q) :: r) = ((cutN l.length (i + 1 + q) j).map fun r => (i + 1 + q) :: r).filter fun c => decide (prT g w (x :: y :: l) i c ≠ 0) := fun q => by
      rw [List.filter_map]
      have hs := cut_sum (g := g) (w := w) (y :: l) (i + 1 + q) j (by simp)
      by_cases hc : trees g w x i (i + 1 + q) = 0 ∨ rowN g w (y :: l) (i + 1 + q) j = 0
      · rw [if_pos hc]
        symm
        rw [List.map_eq_nil_iff, List.filter_eq_nil_iff]
        intro r hr
        simp only [Function.comp, decide_eq_true_eq, ne_eq, Decidable.not_not]
        rw [prT_cons]
        rcases hc with hc | hc
        · rw [hc, Nat.zero_mul]
        · have := sumL_zero (hs.trans hc) r hr
          rw [this, Nat.mul_zero]
      · rw [if_neg hc, splN_cut hp (y :: l) _ _ (by simp)]
        refine congrArg _ (List.filter_congr fun r _ => ?_)
        have ht : trees g w x i (i + 1 + q) ≠ 0 := fun h => hc (.inl h)
        simp only [Function.comp, prT_cons (l := y :: l), ne_eq, Nat.mul_eq_zero, ht, false_or]
    have hsm : splP g w x (y :: l) i j (j - i) = splP g w x (y :: l) i j (j - (i + 1)) := by
      by_cases h : i < j
      · have h0 : rowN g w (y :: l) (i + 1 + (j - (i + 1))) j = 0 := by
          rw [show i + 1 + (j - (i + 1)) = j by omega]
          exact rowN_short hp (by simp)
        rw [show j - i = (j - (i + 1)) + 1 by omega, splP_succ, if_pos (.inr h0), List.append_nil]
      · rw [show j - i = 0 by omega, show j - (i + 1) = 0 by omega]
    rw [hsm]
    exact flatMap_congr' fun q _ => key q
theorem flat_len {α β : Type} {f : α → List β} {c : Nat} : ∀ {l : List α}, (∀ x, x ∈ l → (f x).length ≤ c) → (l.flatMap f).length ≤ l.length * c
  | [], _ => by simp
  | x :: l, h => by
    rw [List.flatMap_cons, List.length_append, List.length_cons, Nat.succ_mul]
    have := h x (by simp)
    have := flat_len (l := l) fun y hy => h y (by simp [hy])
    omega
theorem splN_len {g : Grammar} {w : List Int} : ∀ {l : List Int} {i j : Nat}, j - i ≤ 12 → (splN g w l i j).length ≤ 13 ^ l.length
  | [], i, j, _ => by unfold splN; split <;> simp
  | x :: l, i, j, h => by
    unfold splN
    refine Nat.le_trans (flat_len (c := 13 ^ l.length) fun q _ => ?_) ?_
    · split
      · simp
      · rw [List.length_map]; exact splN_len (by omega)
    · rw [List.length_range, List.length_cons, Nat.pow_succ, Nat.mul_comm]
      exact Nat.mul_le_mul_left _ (by omega)
theorem splN_small {g : Grammar} {w : List Int} {l : List Int} {i j : Nat} (hl : l.length ≤ 3) (h : j - i ≤ 12) : (splN g w l i j).length ≤ 2197 :=
  Nat.le_trans (splN_len h) (Nat.le_trans (Nat.pow_le_pow_right (by omega) hl) (by omega))
theorem splN_wlen {g : Grammar} {w : List Int} : ∀ {l : List Int} {i j : Nat} {c : List Nat}, c ∈ splN g w l i j → c.length = l.length
  | [], i, j, c, h => by
    unfold splN at h
    split at h
    · simp at h; subst h; rfl
    · cases h
  | x :: l, i, j, c, h => by
    unfold splN at h
    obtain ⟨q, _, hq⟩ := List.mem_flatMap.1 h
    split at hq
    · cases hq
    · obtain ⟨r, hr, rfl⟩ := List.mem_map.1 hq
      rw [List.length_cons, List.length_cons, splN_wlen hr]
end Go.Dm
