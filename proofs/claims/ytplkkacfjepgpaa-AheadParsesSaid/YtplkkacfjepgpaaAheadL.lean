/-
  ahead: the laws of the sets.
-/
import Derived.Test.YtplkkacfjepgpaaAheadP
set_option linter.unusedVariables false
set_option linter.unusedSimpArgs false
set_option linter.unnecessarySimpa false
namespace Go.Proofs.Ytplkkacfjepgpaa
open Go.Dm
set_option linter.defProp false
def hds (g : Grammar) (N : Nat) : List Int → List Int
  | [] => []
  | x :: l => x :: (if x < g.k then [] else if N.testBit (x - g.k).toNat then hds g N l else [])
theorem hds_cons {g : Grammar} {N : Nat} {x : Int} {l : List Int} : hds g N (x :: l) = x :: (if x < g.k then [] else if N.testBit (x - g.k).toNat then hds g N l else []) := by rw [hds]
theorem hds_sub {g : Grammar} {N : Nat} : ∀ {l : List Int} {y : Int}, y ∈ hds g N l → y ∈ l
  | [], y, h => by simp [hds] at h
  | x :: l, y, h => by
    rw [hds_cons] at h
    rcases List.mem_cons.1 h with h | h
    · rw [h]; simp
    · split at h
      · cases h
      · split at h
        · exact List.mem_cons_of_mem _ (hds_sub h)
        · cases h
def sgn (g : Grammar) (f : Nat → Nat → Prop) (y : Int) (x : Nat) : Prop := (y < g.k ∧ y.toNat = x) ∨ (¬ y < g.k ∧ f (y - g.k).toNat x)
theorem beg_bit {g : Grammar} {F : List Nat} {N x : Nat} : ∀ {l : List Int}, (beg g F N l).testBit x = true ↔ ∃ y, y ∈ hds g N l ∧ sgn g (fun n x => (F.getD n default).testBit x = true) y x
  | [] => by simp [beg_nil, hds]
  | y :: l => by
    rw [beg_cons, hds_cons]
    by_cases h : y < g.k
    · rw [if_pos h, if_pos h]
      simp only [List.mem_singleton, exists_eq_left, sgn, h, true_and, not_true, false_and, or_false]
      constructor
      · intro h2
        by_cases e : y.toNat = x
        · exact e
        · rw [Nat.testBit_two_pow_of_ne e] at h2; cases h2
      · rintro rfl; exact Nat.testBit_two_pow_self
    · rw [if_neg h, if_neg h, Nat.testBit_or, Bool.or_eq_true]
      constructor
      · rintro (h2 | h2)
        · exact ⟨y, by simp, .inr ⟨h, h2⟩⟩
        · split at h2
          · next hb =>
            obtain ⟨z, hz, h3⟩ := beg_bit.1 h2
            exact ⟨z, by rw [if_pos hb]; simp [hz], h3⟩
          · simp at h2
      · rintro ⟨z, hz, h3⟩
        rcases List.mem_cons.1 hz with rfl | hz
        · rcases h3 with h3 | h3
          · exact absurd h3.1 h
          · exact .inl h3.2
        · split at hz
          · next hb => right; rw [if_pos hb]; exact beg_bit.2 ⟨z, hz, h3⟩
          · cases hz
inductive Fst (g : Grammar) (N : Nat) : Nat → Nat → Prop
  | sym (r : Rule) (y : Int) (hr : r ∈ g.rules) (hy : y ∈ hds g N r.right) (h : y < g.k) : Fst g N r.left.toNat y.toNat
  | nam (r : Rule) (y : Int) (x : Nat) (hr : r ∈ g.rules) (hy : y ∈ hds g N r.right) (h : ¬ y < g.k) (hf : Fst g N (y - g.k).toNat x) : Fst g N r.left.toNat x
theorem Fst.of {g : Grammar} {N : Nat} {r : Rule} {y : Int} {x : Nat} (hr : r ∈ g.rules) (hy : y ∈ hds g N r.right) (h : sgn g (Fst g N) y x) : Fst g N r.left.toNat x := by
  rcases h with ⟨h, rfl⟩ | ⟨h, h2⟩
  · exact .sym r y hr hy h
  · exact .nam r y x hr hy h h2
def FstL (g : Grammar) (N : Nat) (l : List Int) (x : Nat) : Prop := ∃ y, y ∈ hds g N l ∧ sgn g (Fst g N) y x
theorem sgn_mono {g : Grammar} {f f' : Nat → Nat → Prop} {y : Int} {x : Nat} (h : ∀ n x, f n x → f' n x) (k : sgn g f y x) : sgn g f' y x := k.imp id fun k => ⟨k.1, h _ _ k.2⟩
def SndF (g : Grammar) (N : Nat) (F : List Nat) : Prop := ∀ n x, (F.getD n default).testBit x = true → Fst g N n x
theorem beg_snd {g : Grammar} {N : Nat} {F : List Nat} (h : SndF g N F) {l : List Int} {x : Nat} (hb : (beg g F N l).testBit x = true) : FstL g N l x :=
  let ⟨y, hy, h2⟩ := beg_bit.1 hb; ⟨y, hy, sgn_mono h h2⟩
theorem getD_set' {F : List Nat} {i n v : Nat} : (F.set i v).getD n default = if n = i ∧ i < F.length then v else F.getD n default := by
  simp only [List.getD_eq_getElem?_getD, List.getElem?_set]
  by_cases h : i = n
  · subst h
    by_cases h2 : i < F.length
    · simp [h2]
    · simp [h2]
  · have : ¬ n = i := fun e => h e.symm
    simp [h, this]
theorem SndF.step {g : Grammar} {N : Nat} {F : List Nat} (h : SndF g N F) {r : Rule} (hr : r ∈ g.rules) : SndF g N (F.set r.left.toNat (F.getD r.left.toNat default ||| beg g F N r.right)) := fun n x hb => by
  rw [getD_set'] at hb
  split at hb
  · next e =>
    rw [e.1]
    rw [Nat.testBit_or, Bool.or_eq_true] at hb
    rcases hb with hb | hb
    · exact h _ _ hb
    · obtain ⟨y, hy, h2⟩ := beg_snd h hb
      exact Fst.of hr hy h2
  · exact h n x hb
def ClsF (g : Grammar) (N : Nat) (F : List Nat) (r : Rule) : Prop := F.getD r.left.toNat default ||| beg g F N r.right = F.getD r.left.toNat default
theorem or_sub {a b x : Nat} (h : a ||| b = a) (hb : b.testBit x = true) : a.testBit x = true := by rw [← h, Nat.testBit_or, hb, Bool.or_true]
theorem fst_all {g : Grammar} {N : Nat} {F : List Nat} (h : ∀ r, r ∈ g.rules → ClsF g N F r) {n x : Nat} (hf : Fst g N n x) : (F.getD n default).testBit x = true := by
  induction hf with
  | sym r y hr hy hk => exact or_sub (h r hr) (beg_bit.2 ⟨y, hy, .inl ⟨hk, rfl⟩⟩)
  | nam r y x hr hy hk hf ih => exact or_sub (h r hr) (beg_bit.2 ⟨y, hy, .inr ⟨hk, ih⟩⟩)
inductive Fol (g : Grammar) (N : Nat) : Nat → Nat → Prop
  | start : Fol g N g.start.toNat g.k.toNat
  | fst (r : Rule) (p x : Nat) (hr : r ∈ g.rules) (hc : Rch g r.left.toNat) (hp : p < r.right.length) (hk : ¬ r.right.getD p 0 < g.k) (h : FstL g N (r.right.drop (p + 1)) x) : Fol g N (r.right.getD p 0 - g.k).toNat x
  | pas (r : Rule) (p x : Nat) (hr : r ∈ g.rules) (hc : Rch g r.left.toNat) (hp : p < r.right.length) (hk : ¬ r.right.getD p 0 < g.k) (he : emp g N (r.right.drop (p + 1)) = true) (h : Fol g N r.left.toNat x) : Fol g N (r.right.getD p 0 - g.k).toNat x
def SndW (g : Grammar) (N : Nat) (W : List Nat) : Prop := ∀ n x, (W.getD n default).testBit x = true → Fol g N n x
theorem aft_bit {g : Grammar} {F : List Nat} {N A0 k x : Nat} {l : List Int} : (aft g F N A0 l k).testBit x = true ↔ (beg g F N (l.drop (l.length - k))).testBit x = true ∨ (emp g N (l.drop (l.length - k)) = true ∧ A0.testBit x = true) := by
  unfold aft
  rw [Nat.testBit_or, Bool.or_eq_true]
  cases emp g N (l.drop (l.length - k)) <;> simp
theorem pas_snd {g : Grammar} {F W : List Nat} {N : Nat} (hF : SndF g N F) (hW : SndW g N W) {r : Rule} (hr : r ∈ g.rules) (hc : Rch g r.left.toNat) : ∀ {k : Nat}, k ≤ r.right.length → SndW g N (pasW g F N (W.getD r.left.toNat default) W r.right k)
  | 0, _ => hW
  | k + 1, hk => by
    have ih := pas_snd hF hW hr hc (k := k) (by omega)
    unfold pasW
    split
    · exact ih
    · next hno =>
      intro n x hb
      rw [getD_set'] at hb
      split at hb
      · next e =>
        rw [e.1]
        rw [Nat.testBit_or, Bool.or_eq_true] at hb
        rcases hb with hb | hb
        · exact ih _ _ hb
        · rw [aft_bit] at hb
          have e2 : r.right.length - k = r.right.length - 1 - k + 1 := by omega
          rw [e2] at hb
          rcases hb with hb | ⟨he, hb⟩
          · exact .fst r _ x hr hc (by omega) hno (beg_snd hF hb)
          · exact .pas r _ x hr hc (by omega) hno he (hW _ _ hb)
      · exact ih n x hb
theorem pas_same {g : Grammar} {F W : List Nat} {N A0 : Nat} {l : List Int} : ∀ {k : Nat}, pasB g F N A0 W l k = false → pasW g F N A0 W l k = W ∧ ∀ j, j < k → ¬ l.getD (l.length - 1 - j) 0 < g.k → W.getD (l.getD (l.length - 1 - j) 0 - g.k).toNat default ||| aft g F N A0 l j = W.getD (l.getD (l.length - 1 - j) 0 - g.k).toNat default
  | 0, _ => ⟨rfl, fun j h => absurd h (Nat.not_lt_zero _)⟩
  | k + 1, h => by
    unfold pasB at h
    rw [Bool.or_eq_false_iff, Bool.and_eq_false_iff] at h
    obtain ⟨h1, h2⟩ := h
    obtain ⟨i1, i2⟩ := pas_same h1
    have h3 : ¬ l.getD (l.length - 1 - k) 0 < g.k → W.getD (l.getD (l.length - 1 - k) 0 - g.k).toNat default ||| aft g F N A0 l k = W.getD (l.getD (l.length - 1 - k) 0 - g.k).toNat default := fun hno => by
      rcases h2 with h | h
      · exact absurd (of_decide_eq_false h) (by simp only [Decidable.not_not]; exact hno)
      · have := of_decide_eq_false h
        rw [i1, Decidable.not_not] at this; exact this
    refine ⟨?_, fun j hj hno => ?_⟩
    · unfold pasW
      split
      · exact i1
      · next hno => rw [i1, h3 hno, set_self]
    · rcases Nat.lt_or_ge j k with h' | h'
      · exact i2 j h' hno
      · have : j = k := by omega
        subst this; exact h3 hno
theorem sum_set : ∀ {F : List Nat} {i x : Nat}, i < F.length → (F.set i x).sum + F.getD i default = F.sum + x
  | [], i, x, h => by simp at h
  | y :: F, 0, x, h => by simp; omega
  | y :: F, i + 1, x, h => by
    have := sum_set (F := F) (i := i) (x := x) (by simpa using h)
    simp only [List.set_cons_succ, List.sum_cons, List.getD_cons_succ]; omega
theorem sum_or {F : List Nat} {i b : Nat} (h : i < F.length) (hne : F.getD i default ||| b ≠ F.getD i default) : F.sum < (F.set i (F.getD i default ||| b)).sum := by
  have h1 := sum_set (x := F.getD i default ||| b) h
  have h2 : F.getD i default ≤ F.getD i default ||| b := Nat.left_le_or
  omega
theorem sum_le {m : Nat} : ∀ {F : List Nat}, Sm m F → F.sum ≤ F.length * 2 ^ m
  | [], _ => by simp
  | y :: F, h => by
    have h1 := sum_le (F := F) fun x hx => h x (by simp [hx])
    have h2 := h y (by simp)
    simp only [List.sum_cons, List.length_cons, Nat.add_mul]; omega
theorem pas_sum {g : Grammar} {F W : List Nat} {N A0 : Nat} {l : List Int} (hl : ∀ y, y ∈ l → ¬ y < g.k → (y - g.k).toNat < W.length) : ∀ {k : Nat}, k ≤ l.length → W.sum ≤ (pasW g F N A0 W l k).sum ∧ (pasB g F N A0 W l k = true → W.sum < (pasW g F N A0 W l k).sum)
  | 0, _ => ⟨Nat.le_refl _, fun h => by cases h⟩
  | k + 1, hk => by
    obtain ⟨i1, i2⟩ := pas_sum hl (k := k) (F := F) (N := N) (A0 := A0) (by omega)
    unfold pasW pasB
    split
    · next h => exact ⟨i1, fun hb => by
        rw [decide_eq_false (by simp only [Decidable.not_not]; exact h), Bool.false_and, Bool.or_false] at hb
        exact i2 hb⟩
    · next hno =>
      have hi : (l.getD (l.length - 1 - k) 0 - g.k).toNat < (pasW g F N A0 W l k).length := by rw [pasW_len]; exact hl _ (getD_mem (by omega)) hno
      by_cases he : (pasW g F N A0 W l k).getD (l.getD (l.length - 1 - k) 0 - g.k).toNat default ||| aft g F N A0 l k = (pasW g F N A0 W l k).getD (l.getD (l.length - 1 - k) 0 - g.k).toNat default
      · rw [he, set_self]
        exact ⟨i1, fun hb => by
          rw [decide_eq_false (show ¬ ((pasW g F N A0 W l k).getD (l.getD (l.length - 1 - k) 0 - g.k).toNat default ≠ (pasW g F N A0 W l k).getD (l.getD (l.length - 1 - k) 0 - g.k).toNat default) from fun h => h rfl), Bool.and_false, Bool.or_false] at hb
          exact i2 hb⟩
      · have := sum_or hi he
        exact ⟨by omega, fun _ => by omega⟩
def ClsW (g : Grammar) (F : List Nat) (N : Nat) (W : List Nat) (r : Rule) : Prop := ∀ j, j < r.right.length → ¬ r.right.getD (r.right.length - 1 - j) 0 < g.k → W.getD (r.right.getD (r.right.length - 1 - j) 0 - g.k).toNat default ||| aft g F N (W.getD r.left.toNat default) r.right j = W.getD (r.right.getD (r.right.length - 1 - j) 0 - g.k).toNat default
theorem fol_all {g : Grammar} {N : Nat} {F W : List Nat} (hf : ∀ r, r ∈ g.rules → ClsF g N F r) (hs : (W.getD g.start.toNat default).testBit g.k.toNat = true) (h : ∀ r, r ∈ g.rules → Rch g r.left.toNat → ClsW g F N W r) {n x : Nat} (hfl : Fol g N n x) : (W.getD n default).testBit x = true := by
  induction hfl with
  | start => exact hs
  | fst r p x hr hc hp hk h1 =>
    have := h r hr hc (r.right.length - 1 - p) (by omega)
    have e : r.right.length - 1 - (r.right.length - 1 - p) = p := by omega
    rw [e] at this
    refine or_sub (this hk) (aft_bit.2 (.inl ?_))
    rw [show r.right.length - (r.right.length - 1 - p) = p + 1 by omega]
    obtain ⟨y, hy, h2⟩ := h1
    exact beg_bit.2 ⟨y, hy, sgn_mono (fun _ _ h => fst_all hf h) h2⟩
  | pas r p x hr hc hp hk he h1 ih =>
    have := h r hr hc (r.right.length - 1 - p) (by omega)
    have e : r.right.length - 1 - (r.right.length - 1 - p) = p := by omega
    rw [e] at this
    refine or_sub (this hk) (aft_bit.2 (.inr ?_))
    rw [show r.right.length - (r.right.length - 1 - p) = p + 1 by omega]
    exact ⟨he, ih⟩
noncomputable def fstL (g : Grammar) (N : Nat) : List Nat := by classical exact (List.range g.n.toNat).map fun i => setOf (fun x => decide (Fst g N i x)) 3
noncomputable def folL (g : Grammar) (N : Nat) : List Nat := by classical exact (List.range g.n.toNat).map fun i => setOf (fun x => decide (Fol g N i x)) 4
theorem list_is {F : List Nat} {n m : Nat} {p : Nat → Nat → Prop} [∀ i x, Decidable (p i x)] (hl : F.length = n) (hm : Sm m F) (h1 : ∀ i x, (F.getD i default).testBit x = true → p i x) (h2 : ∀ i x, p i x → (F.getD i default).testBit x = true) : F = (List.range n).map fun i => setOf (fun x => decide (p i x)) m := by
  apply List.ext_getElem
  · simp [hl]
  · intro i hi hi2
    have e : F[i] = F.getD i default := by simp [List.getD, hi]
    simp only [List.getElem_map, List.getElem_range]
    rw [e]
    refine set_ext (hm.get i) fun x _ => ?_
    rw [Bool.eq_iff_iff, decide_eq_true_eq]
    exact ⟨h1 i x, h2 i x⟩
end Go.Proofs.Ytplkkacfjepgpaa
