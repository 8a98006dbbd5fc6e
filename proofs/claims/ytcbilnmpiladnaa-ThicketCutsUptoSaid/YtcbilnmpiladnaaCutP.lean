/-
  Thickets: what is left without a rule; which spots one comes to; new numbers.
-/
import Derived.Test.YtcbilnmpiladnaaThick
namespace Go.Dm
set_option linter.unusedSimpArgs false
set_option linter.unusedVariables false
def cutB (r : Int) (go : Nat → Bool) (w : List Int) : Bool := decide (w.length ≠ 0 ∧ w.getD 0 0 = r) || (tl w).any fun x => go x.toNat
def lfW (r : Int) (go : Nat → Bool) (ws : List (List Int)) : List (List Int) := ws.filter fun w => !cutB r go w
def gnB (t : Thicket) (K r : Int) (go : Nat → Bool) (i : Nat) : Bool := decide (K ≤ (t.spots.getD i default).sign ∧ (lfW r go (wys t i)).length = 0)
def SatC (t : Thicket) (K r : Int) (go : Nat → Bool) (lf : Nat → List (List Int)) : Prop := ∀ i, i < t.spots.length → go i = gnB t K r go i ∧ lf i = lfW r go (wys t i)
theorem cutB_congr {r : Int} {go go' : Nat → Bool} {w : List Int} (h : ∀ x, x ∈ tl w → go x.toNat = go' x.toNat) : cutB r go w = cutB r go' w := by
  unfold cutB; congr 1
  rw [Bool.eq_iff_iff, List.any_eq_true, List.any_eq_true]
  exact ⟨fun ⟨x, h1, h2⟩ => ⟨x, h1, by rw [← h x h1]; exact h2⟩, fun ⟨x, h1, h2⟩ => ⟨x, h1, by rw [h x h1]; exact h2⟩⟩
theorem lfW_congr {r : Int} {go go' : Nat → Bool} {ws : List (List Int)} (h : ∀ w, w ∈ ws → ∀ x, x ∈ tl w → go x.toNat = go' x.toNat) : lfW r go ws = lfW r go' ws :=
  List.filter_congr fun w hw => by rw [cutB_congr (h w hw)]
theorem lfW_succ {r : Int} {go : Nat → Bool} {ws : List (List Int)} {q : Nat} (h : q < ws.length) : lfW r go (ws.take (q + 1)) = lfW r go (ws.take q) ++ (if cutB r go (ws.getD q default) then [] else [ws.getD q default]) := by
  unfold lfW
  rw [take_succ_getD h default, List.filter_append]
  congr 1
  generalize ws.getD q default = x
  cases hc : cutB r go x <;> simp [hc]
theorem satC_uniq {t : Thicket} {K r : Int} {go go' : Nat → Bool} {lf lf' : Nat → List (List Int)} (h : SatC t K r go lf) (h' : SatC t K r go' lf') {i : Nat} (ho : Okk t t.spots.length i) : go i = go' i ∧ lf i = lf' i := by
  induction ho with
  | @mk i hi hp hk ih =>
    have e : lfW r go (wys t i) = lfW r go' (wys t i) := lfW_congr fun w hw x hx => (ih w hw x hx).1
    rw [(h i hi).1, (h' i hi).1, (h i hi).2, (h' i hi).2]
    unfold gnB
    rw [e]
    exact ⟨rfl, rfl⟩
/-! ### Where one comes -/
inductive Rch (lf : Nat → List (List Int)) (root : Nat) : Nat → Prop
  | root : Rch lf root root
  | step {i : Nat} {w : List Int} {x : Int} (h : Rch lf root i) (hw : w ∈ lf i) (hx : x ∈ tl w) : Rch lf root x.toNat
structure CmI (lf : Nat → List (List Int)) (root n : Nat) (C : List Nat) (k : Nat) : Prop where
  nd : C.Nodup
  rt : root ∈ C
  rc : ∀ x, x ∈ C → Rch lf root x
  lt : ∀ x, x ∈ C → x < n
  cl : ∀ j, j < k → ∀ w, w ∈ lf (C.getD j 0) → ∀ x, x ∈ tl w → x.toNat ∈ C
theorem CmI.start {lf : Nat → List (List Int)} {root n : Nat} (h : root < n) : CmI lf root n [root] 0 := ⟨by simp, by simp, fun x hx => by rw [List.mem_singleton.mp hx]; exact .root, fun x hx => by rw [List.mem_singleton.mp hx]; exact h, fun j hj => absurd hj (Nat.not_lt_zero _)⟩
theorem CmI.add {lf : Nat → List (List Int)} {root n : Nat} {C : List Nat} {k : Nat} (h : CmI lf root n C k) (hk : k < C.length) {w : List Int} {x : Int} (hw : w ∈ lf (C.getD k 0)) (hx : x ∈ tl w) (hn : x.toNat ∉ C) (hlt : x.toNat < n) : CmI lf root n (C ++ [x.toNat]) k := by
  refine ⟨?_, by simp [h.rt], fun y hy => ?_, fun y hy => ?_, fun j hj w' hw' y hy => ?_⟩
  · rw [List.nodup_append]
    exact ⟨h.nd, by simp, fun a ha b hb => by rw [List.mem_singleton.mp hb]; exact fun e => hn (e ▸ ha)⟩
  · rcases List.mem_append.mp hy with h1 | h1
    · exact h.rc y h1
    · rw [List.mem_singleton.mp h1]
      exact .step (h.rc _ (mem_getD0.mpr ⟨k, hk, rfl⟩)) hw hx
  · rcases List.mem_append.mp hy with h1 | h1
    · exact h.lt y h1
    · rw [List.mem_singleton.mp h1]; exact hlt
  · rw [getD_app0 (by omega)] at hw'
    exact List.mem_append_left _ (h.cl j hj w' hw' y hy)
theorem CmI.next {lf : Nat → List (List Int)} {root n : Nat} {C : List Nat} {k : Nat} (h : CmI lf root n C k) (ha : ∀ w, w ∈ lf (C.getD k 0) → ∀ x, x ∈ tl w → x.toNat ∈ C) : CmI lf root n C (k + 1) := ⟨h.nd, h.rt, h.rc, h.lt, fun j hj => by
  by_cases e : j = k
  · subst e; exact ha
  · exact h.cl j (by omega)⟩
def CmF (lf : Nat → List (List Int)) (root n : Nat) (C : List Nat) : Prop := C.Nodup ∧ (∀ x, x ∈ C → x < n) ∧ ∀ x, x ∈ C ↔ Rch lf root x
theorem CmI.fin {lf : Nat → List (List Int)} {root n : Nat} {C : List Nat} (h : CmI lf root n C C.length) : CmF lf root n C := ⟨h.nd, h.lt, fun x => ⟨h.rc x, fun hx => by
  induction hx with
  | root => exact h.rt
  | step _ hw hx ih =>
    obtain ⟨j, hj, e⟩ := mem_getD0.mp ih
    exact h.cl j hj _ (by rw [e]; exact hw) _ hx⟩⟩
theorem CmI.len {lf : Nat → List (List Int)} {root n : Nat} {C : List Nat} {k : Nat} (h : CmI lf root n C k) : C.length ≤ n := nodup_len _ _ h.nd h.lt
/-- So many stand ahead of one. -/
def nmb (C : List Nat) (i : Nat) : Nat := ((List.range i).filter fun j => decide (j ∈ C)).length
theorem nmb_zero {C : List Nat} : nmb C 0 = 0 := (rfl)
theorem nmb_succ {C : List Nat} {i : Nat} : nmb C (i + 1) = nmb C i + (if i ∈ C then 1 else 0) := by
  unfold nmb
  rw [List.range_succ, List.filter_append, List.length_append]
  congr 1
  by_cases h : i ∈ C <;> simp [h]
theorem nmb_le {C : List Nat} {i : Nat} : nmb C i ≤ i := by
  have := List.length_filter_le (fun j => decide (j ∈ C)) (List.range i)
  rwa [List.length_range] at this
theorem nmb_eq {C : List Nat} (h : C.Nodup) {i : Nat} : (C.filter fun j => decide (j < i)).length = nmb C i := by
  unfold nmb
  refine (List.Perm.length_eq ?_)
  refine (List.perm_ext_iff_of_nodup (h.sublist List.filter_sublist) (List.nodup_range.sublist List.filter_sublist)).mpr fun x => ?_
  simp only [List.mem_filter, List.mem_range, decide_eq_true_eq]
  exact ⟨fun h => ⟨h.2, h.1⟩, fun h => ⟨h.2, h.1⟩⟩
def renW (C : List Nat) (w : List Int) : List Int := w.take 1 ++ (tl w).map fun x => (nmb C x.toNat : Int)
def cutS (t : Thicket) (lf : Nat → List (List Int)) (C : List Nat) (i : Nat) : Spot := ⟨(t.spots.getD i default).sign, (t.spots.getD i default).fr, (t.spots.getD i default).to, (lf i).map (renW C)⟩
def cutL (t : Thicket) (lf : Nat → List (List Int)) (C : List Nat) (m : Nat) : List Spot := ((List.range m).filter fun j => decide (j ∈ C)).map (cutS t lf C)
theorem cutL_succ {t : Thicket} {lf : Nat → List (List Int)} {C : List Nat} {m : Nat} : cutL t lf C (m + 1) = cutL t lf C m ++ (if m ∈ C then [cutS t lf C m] else []) := by
  unfold cutL
  rw [List.range_succ, List.filter_append, List.map_append]
  congr 1
  by_cases h : m ∈ C <;> simp [h]
theorem cutL_len {t : Thicket} {lf : Nat → List (List Int)} {C : List Nat} {m : Nat} : (cutL t lf C m).length ≤ m := by
  unfold cutL
  rw [List.length_map]
  have := List.length_filter_le (fun j => decide (j ∈ C)) (List.range m)
  rwa [List.length_range] at this
def cutT (t : Thicket) (lf : Nat → List (List Int)) (C : List Nat) : Thicket := ⟨cutL t lf C t.spots.length, (nmb C t.root.toNat : Int)⟩
theorem nmb_uniq {C C' : List Nat} (h : ∀ x, x ∈ C ↔ x ∈ C') (i : Nat) : nmb C i = nmb C' i := by
  unfold nmb
  congr 1
  exact List.filter_congr fun x _ => by rw [decide_eq_decide]; exact h x
theorem cutT_uniq {t : Thicket} {lf lf' : Nat → List (List Int)} {C C' : List Nat} (hlf : ∀ i, i < t.spots.length → lf i = lf' i) (h : ∀ x, x ∈ C ↔ x ∈ C') : cutT t lf C = cutT t lf' C' := by
  have hr : ∀ w, renW C w = renW C' w := fun w => by
    unfold renW; congr 1
    exact List.map_congr_left fun x _ => by rw [nmb_uniq h]
  unfold cutT cutL
  rw [nmb_uniq h]
  congr 1
  rw [List.filter_congr (q := fun j => decide (j ∈ C')) fun x _ => by rw [decide_eq_decide]; exact h x]
  refine List.map_congr_left fun i hi => ?_
  have hi2 : i < t.spots.length := List.mem_range.mp (List.mem_filter.mp hi).1
  unfold cutS
  rw [hlf i hi2]
  congr 1
  exact List.map_congr_left fun w _ => hr w
theorem rch_congr {lf lf' : Nat → List (List Int)} {root n : Nat} (hlf : ∀ i, i < n → lf i = lf' i) {x : Nat} (h : Rch lf root x) (hb : ∀ y, Rch lf root y → y < n) : Rch lf' root x := by
  induction h with
  | root => exact .root
  | step h hw hx ih => exact .step ih (by rw [← hlf _ (hb _ h)]; exact hw) hx
theorem cut_same {t : Thicket} {lf lf' : Nat → List (List Int)} {C C' : List Nat} {root : Nat} (hlf : ∀ i, i < t.spots.length → lf i = lf' i) (h : CmF lf root t.spots.length C) (h' : CmF lf' root t.spots.length C') : cutT t lf C = cutT t lf' C' :=
  cutT_uniq hlf fun x => ⟨fun hx => (h'.2.2 x).mpr (rch_congr hlf ((h.2.2 x).mp hx) fun y hy => h.2.1 y ((h.2.2 y).mpr hy)), fun hx => (h.2.2 x).mpr (rch_congr (fun i hi => (hlf i hi).symm) ((h'.2.2 x).mp hx) fun y hy => h'.2.1 y ((h'.2.2 y).mpr hy))⟩
end Go.Dm
