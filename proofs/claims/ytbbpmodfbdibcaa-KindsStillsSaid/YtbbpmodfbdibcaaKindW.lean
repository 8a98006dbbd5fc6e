/-
  Kinds of words: words of which no two do the same (plain).
-/
import Derived.Test.YtbbpmodfbdibcaaKindP
import Derived.Test.YtbbpmodfbdibcaaLang
namespace Go.Proofs.Ytbbpmodfbdibcaa
open Go.Dm
set_option linter.unusedSimpArgs false
set_option linter.unnecessarySimpa false
set_option linter.unusedVariables false

/-- Is there one that does the same? -/
def kHas {β : Type} [DecidableEq β] (key : List Int → β) (W : List (List Int)) (w : List Int) : Bool := W.any fun x => decide (key x = key w)
def kAdd {β : Type} [DecidableEq β] (key : List Int → β) (W : List (List Int)) (w : List Int) : List (List Int) := if kHas key W w = true then W else W ++ [w]
def kFor {β : Type} [DecidableEq β] (key : List Int → β) (w0 : List Int) : Nat → List (List Int) → List (List Int)
  | 0, W => W
  | s + 1, W => kAdd key (kFor key w0 s W) (w0 ++ [(s : Int)])
def kSet {β : Type} [DecidableEq β] (key : List Int → β) (K : Nat) : Nat → List (List Int)
  | 0 => [[]]
  | i + 1 => kFor key ((kSet key K i).getD i []) K (kSet key K i)
def kGo {β : Type} [DecidableEq β] (key : List Int → β) (K : Nat) : Nat → Nat → Nat
  | 0, i => i
  | q + 1, i => if i < (kSet key K i).length ∧ (kSet key K i).length ≤ 100 then kGo key K q (i + 1) else i
def kW {β : Type} [DecidableEq β] (key : List Int → β) (K : Nat) : List (List Int) := kSet key K (kGo key K 102 0)
section
variable {β : Type} [DecidableEq β] {key : List Int → β} {K : Nat}
theorem kAdd_pre {W : List (List Int)} {w : List Int} : W <+: kAdd key W w := by
  unfold kAdd; split
  · exact List.prefix_refl _
  · exact List.prefix_append _ _
theorem kAdd_len {W : List (List Int)} {w : List Int} : (kAdd key W w).length ≤ W.length + 1 := by
  unfold kAdd; split <;> simp
theorem kAdd_has {W : List (List Int)} {w : List Int} : ∃ x, x ∈ kAdd key W w ∧ key x = key w := by
  unfold kAdd kHas; split
  · rename_i h
    obtain ⟨x, hx, e⟩ := List.any_eq_true.mp h
    exact ⟨x, hx, of_decide_eq_true e⟩
  · exact ⟨w, by simp, rfl⟩
theorem kAdd_mem {W : List (List Int)} {w x : List Int} (h : x ∈ kAdd key W w) : x ∈ W ∨ x = w := by
  unfold kAdd at h; split at h
  · exact .inl h
  · simpa using h
theorem kFor_pre {w0 : List Int} {W : List (List Int)} : ∀ {s t : Nat}, s ≤ t → kFor key w0 s W <+: kFor key w0 t W := by
  intro s t h
  induction h with
  | refl => exact List.prefix_refl _
  | step _ ih => exact ih.trans kAdd_pre
theorem kFor_len {w0 : List Int} {W : List (List Int)} : ∀ {s : Nat}, (kFor key w0 s W).length ≤ W.length + s
  | 0 => Nat.le_refl _
  | s + 1 => by have := @kFor_len w0 W s; have := @kAdd_len β _ key (kFor key w0 s W) (w0 ++ [(s : Int)]); rw [kFor]; omega
theorem kFor_get {w0 : List Int} {W : List (List Int)} {s i : Nat} (h : i < W.length) : (kFor key w0 s W).getD i [] = W.getD i [] := by
  obtain ⟨t, e⟩ := kFor_pre (key := key) (w0 := w0) (W := W) (s := 0) (t := s) (Nat.zero_le _)
  rw [← e]
  show (W ++ t).getD i [] = _
  simp [List.getD, List.getElem?_append_left h]
theorem kFor_has {w0 : List Int} {W : List (List Int)} {s t : Nat} (h : s < t) : ∃ x, x ∈ kFor key w0 t W ∧ key x = key (w0 ++ [(s : Int)]) := by
  obtain ⟨x, hx, e⟩ := @kAdd_has β _ key (kFor key w0 s W) (w0 ++ [(s : Int)])
  exact ⟨x, (kFor_pre (key := key) (w0 := w0) (W := W) (s := s + 1) (t := t) (by omega)).subset hx, e⟩
/-- Words of symbols. -/
def okW (K n : Nat) (w : List Int) : Prop := w.length ≤ n ∧ ∀ x, x ∈ w → 0 ≤ x ∧ x < K
theorem okW_mono {n n' : Nat} {w : List Int} (h : n ≤ n') (hw : okW K n w) : okW K n' w := ⟨Nat.le_trans hw.1 h, hw.2⟩
theorem okW_snoc {n s : Nat} {w : List Int} (hs : s < K) (hw : okW K n w) : okW K (n + 1) (w ++ [(s : Int)]) := by
  refine ⟨by rw [List.length_append, List.length_singleton]; have := hw.1; omega, fun x hx => ?_⟩
  rcases List.mem_append.mp hx with h | h
  · exact hw.2 x h
  · rw [List.mem_singleton.mp h]; omega
theorem kFor_ok {w0 : List Int} {W : List (List Int)} {n : Nat} (h0 : okW K n w0) (hW : ∀ x, x ∈ W → okW K (n + 1) x) : ∀ {s : Nat}, s ≤ K → ∀ x, x ∈ kFor key w0 s W → okW K (n + 1) x
  | 0, _ => hW
  | s + 1, hs => fun x hx => by
    rcases kAdd_mem hx with h | h
    · exact kFor_ok h0 hW (by omega) x h
    · rw [h]; exact okW_snoc (by omega) h0
theorem getD_okW {W : List (List Int)} {n i : Nat} (h : ∀ x, x ∈ W → okW K n x) : okW K n (W.getD i []) := by
  by_cases hi : i < W.length
  · exact h _ (getD_mem' hi)
  · simp [List.getD, show W[i]? = none from List.getElem?_eq_none (by omega)]; exact ⟨Nat.zero_le _, by simp⟩
theorem kSet_ok : ∀ {i : Nat}, ∀ x, x ∈ kSet key K i → okW K i x
  | 0 => fun x hx => by rw [List.mem_singleton.mp hx]; exact ⟨Nat.zero_le _, by simp⟩
  | i + 1 => kFor_ok (getD_okW kSet_ok) (fun x hx => okW_mono (by omega) (kSet_ok x hx)) (Nat.le_refl K)
theorem kSet_pre : ∀ {i j : Nat}, i ≤ j → kSet key K i <+: kSet key K j := by
  intro i j h
  induction h with
  | refl => exact List.prefix_refl _
  | step _ ih => exact ih.trans (kFor_pre (Nat.zero_le _))
theorem kGo_in {q i : Nat} (h : i < (kSet key K i).length) (h2 : (kSet key K i).length ≤ 100) : kGo key K (q + 1) i = kGo key K q (i + 1) := by
  rw [kGo]; exact if_pos ⟨h, h2⟩
theorem kGo_out {q i : Nat} (h : ¬ (i < (kSet key K i).length ∧ (kSet key K i).length ≤ 100)) : kGo key K (q + 1) i = i := by
  rw [kGo]; exact if_neg h
theorem kGo_end : ∀ {q i : Nat}, i ≤ (kSet key K i).length → 102 ≤ i + q → i ≤ 101 → kGo key K q i ≤ 101 ∧ ((kSet key K (kGo key K q i)).length ≤ 100 → kGo key K q i = (kSet key K (kGo key K q i)).length) ∧ ∀ j, i ≤ j → j < kGo key K q i → j < (kSet key K j).length
  | 0, i, h1, h2, h3 => by omega
  | q + 1, i, h1, h2, h3 => by
    by_cases h : i < (kSet key K i).length ∧ (kSet key K i).length ≤ 100
    · have hp := (kSet_pre (key := key) (K := K) (i := i) (j := i + 1) (by omega)).length_le
      have ih := kGo_end (q := q) (i := i + 1) (by omega) (by omega) (by omega)
      rw [kGo_in h.1 h.2]
      refine ⟨ih.1, ih.2.1, fun j hj hj2 => ?_⟩
      by_cases e : j = i
      · subst e; exact h.1
      · exact ih.2.2 j (by omega) hj2
    · rw [kGo_out h]
      exact ⟨h3, fun h4 => by omega, fun j hj hj2 => by omega⟩
theorem kW_ok : ∀ x, x ∈ kW key K → okW K 101 x := fun x hx =>
  okW_mono ((kGo_end (key := key) (K := K) (q := 102) (i := 0) (Nat.zero_le _) (by omega) (by omega)).1) (kSet_ok x hx)
/-- Every word does as one of them. -/
theorem kW_all (hc : ∀ x y s, okW K 1000000 x → okW K 1000000 y → s < K → key x = key y → key (x ++ [(s : Int)]) = key (y ++ [(s : Int)])) (hl : (kW key K).length ≤ 100) :
    ∀ w, okW K 999999 w → ∃ x, x ∈ kW key K ∧ key x = key w := by
  have he := kGo_end (key := key) (K := K) (q := 102) (i := 0) (Nat.zero_le _) (by omega) (by omega)
  have hn : kGo key K 102 0 = (kW key K).length := he.2.1 hl
  intro w
  induction w using snoc_ind with
  | h0 => intro _; exact ⟨[], (kSet_pre (key := key) (K := K) (i := 0) (j := kGo key K 102 0) (Nat.zero_le _)).subset (by simp [kSet]), rfl⟩
  | h1 w s ih =>
    intro hw
    have hw2 : okW K 999999 w := ⟨by have := hw.1; rw [List.length_append, List.length_singleton] at this; omega, fun x hx => hw.2 x (List.mem_append_left _ hx)⟩
    obtain ⟨x, hx, e⟩ := ih hw2
    have hs := hw.2 s (by simp)
    obtain ⟨q, hq, e2⟩ := List.getElem_of_mem hx
    have hq2 : q < kGo key K 102 0 := by rw [hn]; exact hq
    have hqs := he.2.2 q (Nat.zero_le _) hq2
    have e3 : (kSet key K q).getD q [] = x := by
      obtain ⟨t, et⟩ := kSet_pre (key := key) (K := K) (i := q) (j := kGo key K 102 0) (by omega)
      have : (kW key K).getD q [] = x := by simp [List.getD, hq, e2]
      rw [← this]
      unfold kW
      rw [← et]
      simp [List.getD, List.getElem?_append_left hqs]
    obtain ⟨y, hy, e4⟩ := kFor_has (key := key) (w0 := (kSet key K q).getD q []) (W := kSet key K q) (s := s.toNat) (t := K) (by omega)
    rw [e3] at e4
    refine ⟨y, (kSet_pre (key := key) (K := K) (i := q + 1) (j := kGo key K 102 0) (by omega)).subset hy, ?_⟩
    have es : ((s.toNat : Nat) : Int) = s := by omega
    rw [es] at e4
    have := hc x w s.toNat (okW_mono (by omega) (kW_ok x hx)) (okW_mono (by omega) hw2) (by omega) e
    rw [es] at this
    rw [e4, this]
theorem kFor_nd {w0 : List Int} {W : List (List Int)} (h : (W.map key).Nodup) : ∀ {s : Nat}, ((kFor key w0 s W).map key).Nodup
  | 0 => h
  | s + 1 => by
    rw [kFor]
    unfold kAdd
    split
    · exact kFor_nd h
    · rename_i hh
      rw [List.map_append]
      refine List.nodup_append.mpr ⟨kFor_nd h, by simp, fun a ha b hb e => hh ?_⟩
      obtain ⟨x, hx, ex⟩ := List.mem_map.mp ha
      simp only [List.map_cons, List.map_nil, List.mem_singleton] at hb
      exact List.any_eq_true.mpr ⟨x, hx, decide_eq_true (by rw [ex, e, hb])⟩
end
/-! ### One word many times -/
def iterF (f : Nat → Nat) : Nat → Nat → Nat
  | 0, x => x
  | n + 1, x => f (iterF f n x)
theorem iterF_add {f : Nat → Nat} {a x : Nat} : ∀ {b : Nat}, iterF f (a + b) x = iterF f b (iterF f a x)
  | 0 => rfl
  | b + 1 => by show f (iterF f (a + b) x) = _; rw [iterF_add]; rfl
/-- n things, and one goes round among them: it stands still after so many steps just if it does after more. -/
theorem iter_still {f : Nat → Nat} {n p : Nat} (hf : ∀ x, x < 7 → f x < 7) (hij : ∃ i j, i < j ∧ j ≤ n ∧ ∀ x, x < 7 → iterF f i x = iterF f j x) (hp : n ≤ p) :
    (∀ x, x < 7 → iterF f (p + 1) x = iterF f p x) ↔ ∀ x, x < 7 → iterF f n x = iterF f (n + 1) x := by
  have hlt : ∀ n x, x < 7 → iterF f n x < 7 := by
    intro n
    induction n with
    | zero => intro x h; exact h
    | succ n ih => intro x h; exact hf _ (ih x h)
  constructor
  · intro h
    obtain ⟨i, j, h1, h2, h3⟩ := hij
    -- whatever is so late goes on as it does later
    have per : ∀ t x, x < 7 → iterF f (i + t) x = iterF f (j + t) x := fun t x hx => by rw [iterF_add, iterF_add, h3 x hx]
    have shift : ∀ k m x, x < 7 → i ≤ m → iterF f m x = iterF f (m + k * (j - i)) x := by
      intro k
      induction k with
      | zero => intro m x _ _; simp
      | succ k ih =>
        intro m x hx hm
        rw [ih m x hx hm]
        have := per (m + k * (j - i) - i) x hx
        rw [show i + (m + k * (j - i) - i) = m + k * (j - i) by omega, show j + (m + k * (j - i) - i) = m + (k + 1) * (j - i) by rw [Nat.succ_mul]; omega] at this
        exact this
    have late : ∀ m, p ≤ m → ∀ x, x < 7 → iterF f m x = iterF f p x := by
      intro m hm
      induction hm with
      | refl => intro x _; rfl
      | @step m _ ih =>
        intro x hx
        show f (iterF f m x) = _
        rw [ih x hx]
        exact h x hx
    intro x hx
    have hk : p ≤ n + p * (j - i) := by have := Nat.le_mul_of_pos_right p (show 0 < j - i by omega); omega
    exact (shift p n x hx (by omega)).trans ((late _ hk x hx).trans ((late (n + 1 + p * (j - i)) (by omega) x hx).symm.trans (shift p (n + 1) x hx (by omega)).symm))
  · intro h x hx
    obtain ⟨t, rfl⟩ : ∃ t, p = n + t := ⟨p - n, by omega⟩
    have e1 := @iterF_add f (n + 1) x t
    have e2 := @iterF_add f n x t
    rw [show n + t + 1 = n + 1 + t by omega, e1, e2, h x hx]
/-- Of more than n things in n places two share one. -/
theorem pigeon {β : Type} [DecidableEq β] {g : Nat → β} {L : List β} (h : ∀ i, i ≤ L.length → g i ∈ L) : ∃ i j, i < j ∧ j ≤ L.length ∧ g i = g j := by
  apply Classical.byContradiction
  intro hn
  have hinj : ∀ i j, i < j → j ≤ L.length → g i ≠ g j := fun i j h1 h2 e => hn ⟨i, j, h1, h2, e⟩
  have hnd : ((List.range (L.length + 1)).map g).Nodup := by
    rw [List.nodup_iff_pairwise_ne, List.pairwise_map]
    exact List.Pairwise.imp_of_mem (fun {a b} ha hb (hab : a < b) => hinj a b hab (by have := List.mem_range.mp hb; omega)) List.pairwise_lt_range
  have hlen : ∀ (L M : List β), M.Nodup → (∀ x, x ∈ M → x ∈ L) → M.length ≤ L.length := by
    intro L
    induction L with
    | nil =>
      intro M hM hs
      cases M with
      | nil => exact Nat.le_refl _
      | cons x M => exact absurd (hs x (by simp)) (by simp)
    | cons a L ih =>
      intro M hM hs
      have := ih (M.erase a) (hM.erase a) fun x hx => by
        have h1 := (hM.mem_erase_iff).1 hx
        rcases List.mem_cons.mp (hs x h1.2) with h2 | h2
        · exact absurd h2 h1.1
        · exact h2
      by_cases hin : a ∈ M
      · rw [List.length_erase_of_mem hin] at this
        have := List.length_pos_of_mem hin
        simp; omega
      · rw [List.erase_of_not_mem hin] at this
        simp; omega
  have := hlen L _ hnd (fun x hx => by
    obtain ⟨i, hi, rfl⟩ := List.mem_map.mp hx
    exact h i (by have := List.mem_range.mp hi; omega))
  rw [List.length_map, List.length_range] at this
  omega
end Go.Proofs.Ytbbpmodfbdibcaa
