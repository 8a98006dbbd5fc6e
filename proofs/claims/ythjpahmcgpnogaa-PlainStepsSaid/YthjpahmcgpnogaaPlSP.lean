/-
  Plain grammars: leftmost derivations out of what is known of stretches.
-/
import Derived.Test.YthjpahmcgpnogaaDer
import Derived.Test.YthjpahmcgpnogaaFollow
namespace Go.Dm
set_option linter.unusedSimpArgs false
set_option linter.unusedVariables false
/-- Each rule has a letter, or two names. -/
def PlainG (g : Grammar) : Prop := ∀ q, q < g.rules.length → (∃ x, (g.rules.getD q default).right = [x] ∧ 0 ≤ x ∧ x < g.k) ∨ ∃ x y, (g.rules.getD q default).right = [x, y] ∧ g.k ≤ x ∧ g.k ≤ y
theorem PlainG.pos {g : Grammar} {w : List Int} (h : PlainG g) {s : List Int} {i j : Nat} (hd : Der g w s i j) : i + s.length ≤ j := by
  induction hd with
  | nil => simp
  | sym _ _ _ _ ih => rw [List.length_cons]; omega
  | @name x s i m j q hx hq hl _ _ ih1 ih2 =>
    rw [List.length_cons]
    have : 1 ≤ (g.rules.getD q default).right.length := by
      rcases h q hq with ⟨x, e, _⟩ | ⟨x, y, e, _⟩ <;> rw [e] <;> simp
    omega
def sg (w : List Int) (i j : Nat) : List Int := (w.drop i).take (j - i)
theorem sg_one {w : List Int} {i : Nat} (h : i < w.length) : sg w i (i + 1) = [w.getD i 0] := by
  unfold sg
  rw [show i + 1 - i = 1 by omega]
  apply List.ext_getElem
  · simp; omega
  · intro k h1 h2
    have : k = 0 := by simpa using h2
    subst this
    simp [List.getD, h]
theorem sg_app {w : List Int} {i m j : Nat} (h1 : i ≤ m) (h2 : m ≤ j) : sg w i m ++ sg w m j = sg w i j := by
  unfold sg
  rw [show w.drop m = (w.drop i).drop (m - i) by rw [List.drop_drop]; congr 1; omega]
  rw [show j - i = (m - i) + (j - m) by omega, List.take_add]
theorem sg_all {w : List Int} : sg w 0 w.length = w := by simp [sg]
/-- Steps that make a name's stretch. -/
def MakesS (g : Grammar) (w : List Int) (a : Int) (i j : Nat) (S : List Int) : Prop := S.length + 1 ≤ 2 * (j - i) ∧ ∀ r, Pr g [g.k + a] (S ++ r) (sg w i j) r
theorem makesS_one {g : Grammar} {w : List Int} {a x : Int} {q i j : Nat} (ha : 0 ≤ a) (hq : q < g.rules.length) (hl : (g.rules.getD q default).left = a) (hr : (g.rules.getD q default).right = [x]) (hx : x < g.k) (hd : Der g w [x] i j) : MakesS g w a i j [(q : Int)] := by
  obtain ⟨rfl, hi, hw⟩ := (der_sym hx).mp hd
  refine ⟨by simp only [List.length_cons, List.length_nil]; omega, fun r => ?_⟩
  refine .name (by omega) ⟨by omega, by omega, by rw [Int.toNat_natCast, hl]; omega⟩ ?_
  rw [Int.toNat_natCast, hr, sg_one hi, hw]
  exact .sym hx .nil
theorem makesS_two {g : Grammar} {w : List Int} {a b c : Int} {q i m j : Nat} {S1 S2 : List Int} (ha : 0 ≤ a) (hq : q < g.rules.length) (hl : (g.rules.getD q default).left = a) (hr : (g.rules.getD q default).right = [g.k + b, g.k + c]) (h1 : i < m) (h2 : m < j) (k1 : MakesS g w b i m S1) (k2 : MakesS g w c m j S2) : MakesS g w a i j ((q : Int) :: (S1 ++ S2)) := by
  refine ⟨by simp only [List.length_cons, List.length_append]; have := k1.1; have := k2.1; omega, fun r => ?_⟩
  refine .name (by omega) ⟨by omega, by omega, by rw [Int.toNat_natCast, hl]; omega⟩ ?_
  rw [Int.toNat_natCast, hr, ← sg_app (m := m) (by omega) (by omega)]
  show Pr g ([g.k + b] ++ [g.k + c]) ((S1 ++ S2) ++ r) _ r
  rw [List.append_assoc]
  exact Pr.app (k1.2 (S2 ++ r)) (k2.2 r)
/-- A rule does not make a stretch. -/
def NoR (g : Grammar) (w : List Int) (a : Int) (i j q : Nat) : Prop := (g.rules.getD q default).left = a → ¬ Der g w (g.rules.getD q default).right i j
theorem noR_all {g : Grammar} {w : List Int} {a : Int} {i j : Nat} (ha : 0 ≤ a) (h : ∀ q, q < g.rules.length → NoR g w a i j q) : ¬ Der g w [g.k + a] i j := fun hd => by
  obtain ⟨q, hq, hl, hd⟩ := (der_name (by omega)).mp hd
  exact h q hq (by omega) hd
theorem der_two {g : Grammar} {w : List Int} (h : PlainG g) {x y : Int} {i j : Nat} (hd : Der g w [x, y] i j) : ∃ m, i < m ∧ m < j ∧ Der g w [x] i m ∧ Der g w [y] m j := by
  obtain ⟨m, h1, h2⟩ := hd.cons
  have := h.pos h1
  have := h.pos h2
  simp only [List.length_cons, List.length_nil] at *
  exact ⟨m, by omega, by omega, h1, h2⟩
end Go.Dm
