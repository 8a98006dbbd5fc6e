/-
  Grammars: how many trees a sign has over a stretch of a word.
-/
import Derived.Test.YtplkkacfjepgpaaDmX
set_option linter.unusedVariables false
set_option linter.unusedSimpArgs false
namespace Go.Dm
def nsum (f : Nat → Nat) : Nat → Nat
  | 0 => 0
  | n + 1 => nsum f n + f n
theorem nsum_le_of {f g : Nat → Nat} : ∀ {n : Nat}, (∀ m, m < n → f m ≤ g m) → nsum f n ≤ nsum g n
  | 0, _ => Nat.le_refl _
  | n + 1, h => by
    have h1 := @nsum_le_of f g n fun m hm => h m (by omega)
    have h2 := h n (by omega)
    show nsum f n + f n ≤ nsum g n + g n
    omega
theorem nsum_lt_of {f g : Nat → Nat} : ∀ {n m : Nat}, (∀ m, m < n → f m ≤ g m) → m < n → f m < g m → nsum f n < nsum g n
  | 0, m, _, h, _ => absurd h (Nat.not_lt_zero _)
  | n + 1, m, h, hm, hl => by
    show nsum f n + f n < nsum g n + g n
    by_cases e : m = n
    · subst e
      have h1 := @nsum_le_of f g m fun k hk => h k (by omega)
      omega
    · have h1 := @nsum_lt_of f g n m (fun k hk => h k (by omega)) (by omega) hl
      have h2 := h n (by omega)
      omega
theorem nsum_const {c : Nat} {f : Nat → Nat} : ∀ {n : Nat}, (∀ m, m < n → f m ≤ c) → nsum f n ≤ n * c
  | 0, _ => Nat.zero_le _
  | n + 1, h => by
    have h1 := @nsum_const c f n fun m hm => h m (by omega)
    have h2 := h n (by omega)
    show nsum f n + f n ≤ (n + 1) * c
    rw [Nat.succ_mul]; omega
def tsum (f : Nat → Nat) (a b : Nat) : Nat := nsum (fun m => if a ≤ m then f m else 0) b
def rowT (T : Int → Nat → Nat → Nat) : List Int → Nat → Nat → Nat
  | [], i, j => if i = j then 1 else 0
  | [s], i, j => T s i j
  | s :: s' :: l, i, j => tsum (fun m => T s i m * rowT T (s' :: l) m j) (i + 1) j
def symV (w : List Int) (x : Int) (i j : Nat) : Nat := if j = i + 1 ∧ w.getD i 0 = x then 1 else 0
def treeF (g : Grammar) (w : List Int) : Nat → Int → Nat → Nat → Nat
  | 0, x, i, j => if x < g.k then symV w x i j else 0
  | f + 1, x, i, j => if x < g.k then symV w x i j else nsum (fun q => if (g.rules.getD q default).left = x - g.k then rowT (treeF g w f) (g.rules.getD q default).right i j else 0) g.rules.length
def trees (g : Grammar) (w : List Int) (x : Int) (i j : Nat) : Nat := treeF g w (j - i + 1) x i j
end Go.Dm
