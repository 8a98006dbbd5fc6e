/-
  Thickets: coppicerref.Sound.
-/
import Derived.Test.YtcbilnmpiladnaaSorted
namespace Go.Proofs.Ytcbilnmpiladnaa
open Go.Dm
set_option linter.unusedSimpArgs false
set_option linter.unnecessarySimpa false
set_option linter.unusedVariables false
set_option linter.defProp false

/-- Marks of those that are in a list. -/
def bm (n : Nat) (l : List Nat) : List Bool := (List.range n).map fun j => decide (j ∈ l)
section
variable {n i : Nat} {l : List Nat}
theorem bm_len : (bm n l).length = n := by simp [bm]
theorem bm_rep : List.replicate n false = bm n [] := by apply List.ext_getElem <;> simp [bm]
theorem bm_get {d : Bool} (h : i < n) : (bm n l).getD i d = decide (i ∈ l) := by simp [bm, List.getD, h]
theorem bm_set : (bm n l).set i true = bm n (l ++ [i]) := by
  apply List.ext_getElem
  · simp [bm]
  · intro j h1 h2
    rw [List.getElem_set]
    simp only [bm, List.getElem_map, List.getElem_range, List.mem_append, List.mem_singleton]
    by_cases e : i = j
    · subst e; simp
    · rw [if_neg e]
      have e' : ¬ j = i := fun h => e h.symm
      simp [e']
end
def okx (n : Nat) (l : List Nat) (x : Int) : Bool := decide (0 ≤ x) && decide (x < n) && decide (x.toNat ∈ l)
theorem okx_iff {n : Nat} {l : List Nat} {x : Int} : okx n l x = true ↔ 0 ≤ x ∧ x < n ∧ x.toNat ∈ l := by simp [okx, and_assoc]
def rdy (t : Dm.Thicket) (l : List Nat) (i c : Nat) : Bool := decide (i ∉ l) && ((wys t i).take c).all fun w => (tl w).all (okx t.spots.length l)
theorem take_all {α : Type} {l : List α} {p : α → Bool} {c : Nat} {d : α} (h : c < l.length) : (l.take (c + 1)).all p = ((l.take c).all p && p (l.getD c d)) := by
  rw [take_succ_getD h d, List.all_append]; simp
theorem rdy_succ {t : Dm.Thicket} {l : List Nat} {i c : Nat} (h : c < (wys t i).length) : rdy t l i (c + 1) = (rdy t l i c && (tl ((wys t i).getD c default)).all (okx t.spots.length l)) := by
  unfold rdy; rw [take_all h, Bool.and_assoc]
/-- Ready: all that it needs is there. -/
def Rdy (t : Dm.Thicket) (l : List Nat) (i : Nat) : Prop := i ∉ l ∧ ∀ w, w ∈ wys t i → ∀ x, x ∈ tl w → 0 ≤ x ∧ x < t.spots.length ∧ x.toNat ∈ l
theorem rdy_iff {t : Dm.Thicket} {l : List Nat} {i c : Nat} (h : (wys t i).length ≤ c) : rdy t l i c = true ↔ Rdy t l i := by
  unfold rdy Rdy
  rw [List.take_of_length_le h, Bool.and_eq_true, decide_eq_true_eq, List.all_eq_true]
  refine and_congr .rfl ⟨fun h w hw x hx => okx_iff.mp (List.all_eq_true.mp (h w hw) x hx), fun h w hw => List.all_eq_true.mpr fun x hx => okx_iff.mpr (h w hw x hx)⟩
structure LI (t : Dm.Thicket) (l : List Nat) : Prop where
  to : Topo t l
  nd : l.Nodup
  lt : ∀ x, x ∈ l → x < t.spots.length
  rg : ∀ i, i ∈ l → ∀ w, w ∈ wys t i → ∀ x, x ∈ tl w → 0 ≤ x ∧ x < t.spots.length
theorem LI.nil {t : Dm.Thicket} : LI t [] := ⟨topo_nil, by simp, by simp, by simp⟩
theorem LI.len {t : Dm.Thicket} {l : List Nat} (h : LI t l) : l.length ≤ t.spots.length := nodup_len _ l h.nd h.lt
theorem LI.add {t : Dm.Thicket} {l : List Nat} {i : Nat} (h : LI t l) (hi : i < t.spots.length) (hr : Rdy t l i) : LI t (l ++ [i]) := by
  refine ⟨h.to.snoc fun k ⟨w, h1, h2⟩ => by have := (hr.2 w h1 _ h2).2.2; rwa [Int.toNat_natCast] at this, ?_, fun x hx => ?_, fun j hj => ?_⟩
  · rw [List.nodup_append]
    exact ⟨h.nd, by simp, fun a ha b hb e => by rw [List.mem_singleton] at hb; subst hb; subst e; exact hr.1 ha⟩
  · rcases List.mem_append.mp hx with hx | hx
    · exact h.lt x hx
    · rw [List.mem_singleton] at hx; omega
  · rcases List.mem_append.mp hj with hj | hj
    · exact h.rg j hj
    · rw [List.mem_singleton] at hj; subst hj
      exact fun w hw x hx => ⟨(hr.2 w hw x hx).1, (hr.2 w hw x hx).2.1⟩
/-- When nothing is ready, all that is sound is there. -/
theorem LI.all {t : Dm.Thicket} {l : List Nat} (hc : ∀ i, i < t.spots.length → ¬ Rdy t l i) {i : Nat} (ho : Okk t t.spots.length i) : i ∈ l := by
  induction ho with
  | @mk i hi hp h ih =>
    apply Classical.byContradiction
    intro hn
    refine hc i hi ⟨hn, fun w hw x hx => ⟨hp w hw x hx, ?_, ih w hw x hx⟩⟩
    have h1 := hp w hw x hx
    have h2 := h w hw x hx
    cases h2 with
    | mk a b c => omega
theorem LI.ord {t : Dm.Thicket} {l : List Nat} (h : LI t l) (hl : l.length = t.spots.length) : Ord t l := by
  refine ⟨h.to, h.nd, fun x => ⟨h.lt x, fun hx => ?_⟩⟩
  apply Classical.byContradiction
  intro hn
  have := nodup_len t.spots.length (l ++ [x]) (by
    rw [List.nodup_append]
    exact ⟨h.nd, by simp, fun a ha b hb e => by rw [List.mem_singleton] at hb; subst hb; subst e; exact hn ha⟩) fun y hy => by
    rcases List.mem_append.mp hy with hy | hy
    · exact h.lt y hy
    · rw [List.mem_singleton] at hy; omega
  rw [List.length_append, List.length_singleton] at this
  omega
theorem LI.good {t : Dm.Thicket} {l : List Nat} (h : LI t l) (hl : l.length = t.spots.length) (h2 : t.spots.length ≤ 200) (hr : 0 ≤ t.root ∧ t.root < t.spots.length) : Good t := by
  have ho := h.ord hl
  refine ⟨h2, hr, fun i hi => h.to.ok (fun j hj => h.rg j ((ho.2.2 j).mpr hj)) h.lt i ((ho.2.2 i).mpr hi)⟩
theorem range_le : ∀ {n : Nat} {l : List Nat}, (∀ i, i < n → i ∈ l) → n ≤ l.length
  | 0, _, _ => Nat.zero_le _
  | n + 1, l, h => by
    have h1 := h n (by omega)
    have h2 := range_le (n := n) (l := l.erase n) fun i hi => (List.mem_erase_of_ne (by omega)).mpr (h i (by omega))
    rw [List.length_erase_of_mem h1] at h2
    have : 0 < l.length := List.length_pos_of_mem h1
    omega
theorem bad_good {t : Dm.Thicket} {l : List Nat} (h : LI t l) (hc : ∀ i, i < t.spots.length → ¬ Rdy t l i) (hl : ¬ l.length = t.spots.length) : ¬ Good t := fun hg => by
  have h1 : ∀ i, i < t.spots.length → i ∈ l := fun i hi => LI.all hc (hg.2.2 i hi)
  refine hl ?_
  have h2 := h.len
  have h3 := range_le (l := l) h1
  omega
def vsd := And.intro @bm_len <| And.intro @bm_rep <| And.intro @bm_get <| And.intro @bm_set <| And.intro @ixD_eq @Int.add_sub_cancel
set_option maxRecDepth 10000 in
set_option maxHeartbeats 4000000 in
theorem tail_spec (w : List Int) (hw : w.length ≤ 9223372036854775807) : Dm.Spec Try.prog 41 [.sl 1 (i64s w)] (· = .sl 1 (i64s (tl w))) := by
  refine spec_of_vc mixed Try.func41 c41 (by rw [show Try.f41.ntmps = _ from Try.ntmps41]; simp) ?_
  unfold m41 r41
  unfold tl
  repeat' first | (refine Br.dec (fun h => ?_) (fun h => ?_) <;> try (exfalso; omega)) | (refine Br.eqi (fun h => ?_) (fun h => ?_) <;> try (exfalso; omega)) | (simp (disch := (first | omega | (simp only [vlen]; first | done | omega))) only [vsd, ↓va0, ↓va1, ↓va2, ↓va3, vb0, vb1, vb2, vb3, vb4, vb5, vb6, vb7, vb8, vb9, vb10, vz0, vz1, vy0, vx0, ↓reduceIte, Nat.reduceBEq, Nat.reduceEqDiff, Nat.reduceLT, Nat.reduceLeDiff, Nat.reduceAdd, Nat.reduceMul, Nat.reduceSub, reduceCtorEq, Int.reduceToNat]) | (refine Br.mk (fun h => ?_) (fun h => ?_)) | (refine BrN.mk (fun h => ?_) ?_) | (refine AltVC.mk ?_ ?_)
  · have : w = [] := List.eq_nil_of_length_eq_zero (by omega)
    subst this
    exact fin_mk rfl
  · exact fin_mk rfl
abbrev soO (t : Dm.Thicket) (l : List Nat) : List (Nat × Ob) := [(0, ⟨2, [thiD t], true, false, .fix⟩), (2, ⟨1, bls (bm t.spots.length l), true, false, .arr⟩), (3, ⟨1, tbl ixD l, true, false, .arr⟩)]
set_option maxRecDepth 10000 in
set_option maxHeartbeats 4000000 in
theorem sound_spec (t : Dm.Thicket) (ht : t.ok) : Dm.Spec Try.prog 17 [.ag (thiD t)] (fun d => (∃ out, d = .tu [.sl 1 (tbl ixD out), .v (.bool true)] ∧ Good t ∧ Ord t out) ∨ (∃ out, d = .tu [.sl 1 (tbl ixD out), .v (.bool false)] ∧ ¬ Good t)) := by
  refine spec_of_vc mixed Try.func17 c17 (by rw [show Try.f17.ntmps = _ from Try.ntmps17]; simp) ?_
  unfold m17 r17
  have hsl := maxLen_le ht.1.1
  have hw : ∀ i, i < t.spots.length → (wys t i).length ≤ 9223372036854775807 ∧ ∀ w, w ∈ wys t i → w.length ≤ 9223372036854775807 := fun i hi => by
    have h1 := (ht.1.2 _ (getD_mem' (l := t.spots) (i := i) hi)).2.2.2
    exact ⟨maxLen_le h1.1, fun w hw => maxLen_le (h1.2 w hw).1⟩
  repeat' first | (refine Br.dec (fun h => ?_) (fun h => ?_) <;> try (exfalso; omega)) | (refine Br.eqi (fun h => ?_) (fun h => ?_) <;> try (exfalso; omega)) | (simp (disch := (first | omega | (simp only [vlen]; first | done | omega))) only [vsd, ↓va0, ↓va1, ↓va2, ↓va3, vb0, vb1, vb2, vb3, vb4, vb5, vb6, vb7, vb8, vb9, vb10, vz0, vz1, vy0, vx0, ↓reduceIte, Nat.reduceBEq, Nat.reduceEqDiff, Nat.reduceLT, Nat.reduceLeDiff, Nat.reduceAdd, Nat.reduceMul, Nat.reduceSub, reduceCtorEq, Int.reduceToNat]) | (refine Br.mk (fun h => ?_) (fun h => ?_)) | (refine BrN.mk (fun h => ?_) ?_) | (refine AltVC.mk ?_ ?_)
  · exact fin_mk (.inr ⟨[], rfl, fun h => by have := h.1; omega⟩)
  · exact fin_mk (.inr ⟨[], rfl, fun h => by have := h.2.1; omega⟩)
  · exact fin_mk (.inr ⟨[], rfl, fun h => by have := h.2.1; omega⟩)
  refine LoopVC.mk (X := List Nat × Bool) (fun x => [(4, .ref 2 1 0 t.spots.length), (5, .ref 3 1 0 x.1.length), (6, .v (.bool x.2))]) (fun x => soO t x.1) (fun x => if x.2 then t.spots.length - x.1.length + 1 else 0) (fun x => LI t x.1 ∧ (x.2 = false → ∀ i, i < t.spots.length → ¬ Rdy t x.1 i)) ([], true) ⟨LI.nil, by simp⟩ ?_ ?_
  · (simp (disch := (first | omega | (simp only [vlen]; first | done | omega))) only [Fits_u, Fits_m, Fits_nil, List.length_append, vsd, ↓va0, ↓va1, ↓va2, ↓va3, vb0, vb1, vb2, vb3, vb4, vb5, vb6, vb7, vb8, vb9, vb10, vz0, vz1, vy0, vx0, ↓reduceIte, Nat.reduceBEq, Nat.reduceEqDiff, Nat.reduceLT, Nat.reduceLeDiff, Nat.reduceAdd, Nat.reduceMul, Nat.reduceSub, reduceCtorEq, Int.reduceToNat] <;> (repeat' first | rfl | apply And.intro))
  · rintro ⟨l0, m0⟩ ⟨hL0, hc0⟩
    simp only at hL0 hc0 ⊢
    have hll0 := hL0.len
    cases m0
    · have hcl := hc0 rfl
      repeat' first | (refine Br.dec (fun h => ?_) (fun h => ?_) <;> try (exfalso; omega)) | (refine Br.eqi (fun h => ?_) (fun h => ?_) <;> try (exfalso; omega)) | (simp (disch := (first | omega | (simp only [vlen]; first | done | omega))) only [vsd, ↓va0, ↓va1, ↓va2, ↓va3, vb0, vb1, vb2, vb3, vb4, vb5, vb6, vb7, vb8, vb9, vb10, vz0, vz1, vy0, vx0, ↓reduceIte, Nat.reduceBEq, Nat.reduceEqDiff, Nat.reduceLT, Nat.reduceLeDiff, Nat.reduceAdd, Nat.reduceMul, Nat.reduceSub, reduceCtorEq, Int.reduceToNat]) | (refine Br.mk (fun h => ?_) (fun h => ?_)) | (refine BrN.mk (fun h => ?_) ?_) | (refine AltVC.mk ?_ ?_)
      refine fin_mk ?_
      by_cases hl : l0.length = t.spots.length
      · exact .inl ⟨l0, by rw [hl]; simp, hL0.good hl (by omega) (by omega), hL0.ord hl⟩
      · exact .inr ⟨l0, by rw [show (((l0.length : Nat) : Int) == ((t.spots.length : Nat) : Int)) = false by simp; omega], bad_good hL0 hcl hl⟩
    · repeat' first | (refine Br.dec (fun h => ?_) (fun h => ?_) <;> try (exfalso; omega)) | (refine Br.eqi (fun h => ?_) (fun h => ?_) <;> try (exfalso; omega)) | (simp (disch := (first | omega | (simp only [vlen]; first | done | omega))) only [vsd, ↓va0, ↓va1, ↓va2, ↓va3, vb0, vb1, vb2, vb3, vb4, vb5, vb6, vb7, vb8, vb9, vb10, vz0, vz1, vy0, vx0, ↓reduceIte, Nat.reduceBEq, Nat.reduceEqDiff, Nat.reduceLT, Nat.reduceLeDiff, Nat.reduceAdd, Nat.reduceMul, Nat.reduceSub, reduceCtorEq, Int.reduceToNat]) | (refine Br.mk (fun h => ?_) (fun h => ?_)) | (refine BrN.mk (fun h => ?_) ?_) | (refine AltVC.mk ?_ ?_)
      refine LoopVC.mk (X := List Nat × Bool × Nat) (fun x => [(4, .ref 2 1 0 t.spots.length), (5, .ref 3 1 0 x.1.length), (6, .v (.bool x.2.1)), (39, iv .i64 x.2.2)]) (fun x => soO t x.1) (fun x => t.spots.length - x.2.2) (fun x => LI t x.1 ∧ x.2.2 ≤ t.spots.length ∧ (x.2.1 = false → x.1 = l0 ∧ ∀ j, j < x.2.2 → ¬ Rdy t x.1 j) ∧ (x.2.1 = true → l0.length < x.1.length)) (l0, false, 0) ⟨hL0, Nat.zero_le _, fun _ => ⟨rfl, fun j h => absurd h (Nat.not_lt_zero _)⟩, fun h => Bool.noConfusion h⟩ ?_ ?_
      · (simp (disch := (first | omega | (simp only [vlen]; first | done | omega))) only [Fits_u, Fits_m, Fits_nil, List.length_append, vsd, ↓va0, ↓va1, ↓va2, ↓va3, vb0, vb1, vb2, vb3, vb4, vb5, vb6, vb7, vb8, vb9, vb10, vz0, vz1, vy0, vx0, ↓reduceIte, Nat.reduceBEq, Nat.reduceEqDiff, Nat.reduceLT, Nat.reduceLeDiff, Nat.reduceAdd, Nat.reduceMul, Nat.reduceSub, reduceCtorEq, Int.reduceToNat] <;> (repeat' first | rfl | apply And.intro))
      · rintro ⟨l, m, i⟩ ⟨hL, hi, hc, hg⟩
        simp only at hL hi hc hg ⊢
        have hll := hL.len
        by_cases hin : i < t.spots.length
        · have hwi := hw i hin
          unfold wys at hwi
          have hbm := @bm_len t.spots.length l
          have hlw : ∀ w, w ∈ (t.spots.getD i default).ways → (tl w).length ≤ 9223372036854775807 := fun w hm => by have := hwi.2 w hm; unfold tl; rw [List.length_drop]; omega
          repeat' first | (refine Br.dec (fun h => ?_) (fun h => ?_) <;> try (exfalso; omega)) | (refine Br.eqi (fun h => ?_) (fun h => ?_) <;> try (exfalso; omega)) | (simp (disch := (first | omega | (simp only [vlen]; first | done | omega))) only [vsd, ↓va0, ↓va1, ↓va2, ↓va3, vb0, vb1, vb2, vb3, vb4, vb5, vb6, vb7, vb8, vb9, vb10, vz0, vz1, vy0, vx0, ↓reduceIte, Nat.reduceBEq, Nat.reduceEqDiff, Nat.reduceLT, Nat.reduceLeDiff, Nat.reduceAdd, Nat.reduceMul, Nat.reduceSub, reduceCtorEq, Int.reduceToNat]) | (refine Br.mk (fun h => ?_) (fun h => ?_)) | (refine BrN.mk (fun h => ?_) ?_) | (refine AltVC.mk ?_ ?_)
          refine LoopVC.mk (X := Nat × Bool) (fun x => [(4, .ref 2 1 0 t.spots.length), (5, .ref 3 1 0 l.length), (6, .v (.bool m)), (9, .v (.bool x.2)), (52, iv .i64 x.1)]) (fun x => soO t l) (fun x => (t.spots.getD i default).ways.length - x.1) (fun x => x.1 ≤ (t.spots.getD i default).ways.length ∧ x.2 = rdy t l i x.1) (0, !decide (i ∈ l)) ⟨Nat.zero_le _, by simp [rdy]⟩ ?_ ?_
          · (simp (disch := (first | omega | (simp only [vlen]; first | done | omega))) only [Fits_u, Fits_m, Fits_nil, List.length_append, vsd, ↓va0, ↓va1, ↓va2, ↓va3, vb0, vb1, vb2, vb3, vb4, vb5, vb6, vb7, vb8, vb9, vb10, vz0, vz1, vy0, vx0, ↓reduceIte, Nat.reduceBEq, Nat.reduceEqDiff, Nat.reduceLT, Nat.reduceLeDiff, Nat.reduceAdd, Nat.reduceMul, Nat.reduceSub, reduceCtorEq, Int.reduceToNat] <;> (repeat' first | rfl | apply And.intro))
          · rintro ⟨c, b⟩ ⟨hcw, hb⟩
            simp only at hcw hb ⊢
            by_cases hc1 : c < (t.spots.getD i default).ways.length
            · have hm : (t.spots.getD i default).ways.getD c default ∈ (t.spots.getD i default).ways := getD_mem' hc1
              have hwl := hwi.2 _ hm
              have htl := hlw _ hm
              repeat' first | (refine Br.dec (fun h => ?_) (fun h => ?_) <;> try (exfalso; omega)) | (refine Br.eqi (fun h => ?_) (fun h => ?_) <;> try (exfalso; omega)) | (simp (disch := (first | omega | (simp only [vlen]; first | done | omega))) only [vsd, ↓va0, ↓va1, ↓va2, ↓va3, vb0, vb1, vb2, vb3, vb4, vb5, vb6, vb7, vb8, vb9, vb10, vz0, vz1, vy0, vx0, ↓reduceIte, Nat.reduceBEq, Nat.reduceEqDiff, Nat.reduceLT, Nat.reduceLeDiff, Nat.reduceAdd, Nat.reduceMul, Nat.reduceSub, reduceCtorEq, Int.reduceToNat]) | (refine Br.mk (fun h => ?_) (fun h => ?_)) | (refine BrN.mk (fun h => ?_) ?_) | (refine AltVC.mk ?_ ?_)
              refine CallVC.eq (tail_spec ((t.spots.getD i default).ways.getD c default) hwl) ?_
              repeat' first | (refine Br.dec (fun h => ?_) (fun h => ?_) <;> try (exfalso; omega)) | (refine Br.eqi (fun h => ?_) (fun h => ?_) <;> try (exfalso; omega)) | (simp (disch := (first | omega | (simp only [vlen]; first | done | omega))) only [vsd, ↓va0, ↓va1, ↓va2, ↓va3, vb0, vb1, vb2, vb3, vb4, vb5, vb6, vb7, vb8, vb9, vb10, vz0, vz1, vy0, vx0, ↓reduceIte, Nat.reduceBEq, Nat.reduceEqDiff, Nat.reduceLT, Nat.reduceLeDiff, Nat.reduceAdd, Nat.reduceMul, Nat.reduceSub, reduceCtorEq, Int.reduceToNat]) | (refine Br.mk (fun h => ?_) (fun h => ?_)) | (refine BrN.mk (fun h => ?_) ?_) | (refine AltVC.mk ?_ ?_)
              refine LoopVC.mk (X := Nat × Bool) (fun x => [(4, .ref 2 1 0 t.spots.length), (5, .ref 3 1 0 l.length), (6, .v (.bool m)), (9, .v (.bool x.2)), (59, iv .i64 x.1)]) (fun x => soO t l) (fun x => (tl ((t.spots.getD i default).ways.getD c default)).length - x.1) (fun x => x.1 ≤ (tl ((t.spots.getD i default).ways.getD c default)).length ∧ x.2 = (b && ((tl ((t.spots.getD i default).ways.getD c default)).take x.1).all (okx t.spots.length l))) (0, b) ⟨Nat.zero_le _, by simp⟩ ?_ ?_
              · (simp (disch := (first | omega | (simp only [vlen]; first | done | omega))) only [Fits_u, Fits_m, Fits_nil, List.length_append, vsd, ↓va0, ↓va1, ↓va2, ↓va3, vb0, vb1, vb2, vb3, vb4, vb5, vb6, vb7, vb8, vb9, vb10, vz0, vz1, vy0, vx0, ↓reduceIte, Nat.reduceBEq, Nat.reduceEqDiff, Nat.reduceLT, Nat.reduceLeDiff, Nat.reduceAdd, Nat.reduceMul, Nat.reduceSub, reduceCtorEq, Int.reduceToNat] <;> (repeat' first | rfl | apply And.intro))
              · rintro ⟨q, b2⟩ ⟨hq, hb2⟩
                simp only at hq hb2 ⊢
                by_cases hq1 : q < (tl ((t.spots.getD i default).ways.getD c default)).length
                · have hst := fun b3 (h : b3 = (b2 && okx t.spots.length l ((tl ((t.spots.getD i default).ways.getD c default)).getD q 0))) => (show b3 = (b && ((tl ((t.spots.getD i default).ways.getD c default)).take (q + 1)).all (okx t.spots.length l)) by rw [h, take_all hq1, hb2, Bool.and_assoc])
                  repeat' first | (refine Br.dec (fun h => ?_) (fun h => ?_) <;> try (exfalso; omega)) | (refine Br.eqi (fun h => ?_) (fun h => ?_) <;> try (exfalso; omega)) | (simp (disch := (first | omega | (simp only [vlen]; first | done | omega))) only [vsd, ↓va0, ↓va1, ↓va2, ↓va3, vb0, vb1, vb2, vb3, vb4, vb5, vb6, vb7, vb8, vb9, vb10, vz0, vz1, vy0, vx0, ↓reduceIte, Nat.reduceBEq, Nat.reduceEqDiff, Nat.reduceLT, Nat.reduceLeDiff, Nat.reduceAdd, Nat.reduceMul, Nat.reduceSub, reduceCtorEq, Int.reduceToNat]) | (refine Br.mk (fun h => ?_) (fun h => ?_)) | (refine BrN.mk (fun h => ?_) ?_) | (refine AltVC.mk ?_ ?_)
                  · rename_i k1 k2
                    refine loopK.mk (q + 1, decide (((tl ((t.spots.getD i default).ways.getD c default)).getD q 0).toNat ∈ l)) (by simp (disch := (first | omega | (simp only [vlen]; first | done | omega))) only [↓va0, ↓va1, ↓va2, ↓va3, vb0, vb1, vb2, vb3, vb4, vb5, vb6, vb7, vb8, vb9, vb10, vz0, vz1, vy0, vx0, ↓reduceIte, Nat.reduceBEq, Nat.reduceEqDiff, Nat.reduceLT, Nat.reduceLeDiff, Nat.reduceAdd, Nat.reduceMul, Nat.reduceSub, reduceCtorEq, Int.reduceToNat]) ⟨by omega, hst _ (by rw [okx, decide_eq_true k2, decide_eq_true h, k1]; rfl)⟩ (by show (tl ((t.spots.getD i default).ways.getD c default)).length - (q + 1) < (tl ((t.spots.getD i default).ways.getD c default)).length - q; omega) (by (simp (disch := (first | omega | (simp only [vlen]; first | done | omega))) only [Fits_u, Fits_m, Fits_nil, List.length_append, vsd, ↓va0, ↓va1, ↓va2, ↓va3, vb0, vb1, vb2, vb3, vb4, vb5, vb6, vb7, vb8, vb9, vb10, vz0, vz1, vy0, vx0, ↓reduceIte, Nat.reduceBEq, Nat.reduceEqDiff, Nat.reduceLT, Nat.reduceLeDiff, Nat.reduceAdd, Nat.reduceMul, Nat.reduceSub, reduceCtorEq, Int.reduceToNat] <;> (repeat' first | rfl | apply And.intro)))
                  · rename_i k1 k2
                    refine loopK.mk (q + 1, false) (by simp (disch := (first | omega | (simp only [vlen]; first | done | omega))) only [↓va0, ↓va1, ↓va2, ↓va3, vb0, vb1, vb2, vb3, vb4, vb5, vb6, vb7, vb8, vb9, vb10, vz0, vz1, vy0, vx0, ↓reduceIte, Nat.reduceBEq, Nat.reduceEqDiff, Nat.reduceLT, Nat.reduceLeDiff, Nat.reduceAdd, Nat.reduceMul, Nat.reduceSub, reduceCtorEq, Int.reduceToNat]) ⟨by omega, hst _ (by rw [okx, decide_eq_false h]; simp)⟩ (by show (tl ((t.spots.getD i default).ways.getD c default)).length - (q + 1) < (tl ((t.spots.getD i default).ways.getD c default)).length - q; omega) (by (simp (disch := (first | omega | (simp only [vlen]; first | done | omega))) only [Fits_u, Fits_m, Fits_nil, List.length_append, vsd, ↓va0, ↓va1, ↓va2, ↓va3, vb0, vb1, vb2, vb3, vb4, vb5, vb6, vb7, vb8, vb9, vb10, vz0, vz1, vy0, vx0, ↓reduceIte, Nat.reduceBEq, Nat.reduceEqDiff, Nat.reduceLT, Nat.reduceLeDiff, Nat.reduceAdd, Nat.reduceMul, Nat.reduceSub, reduceCtorEq, Int.reduceToNat] <;> (repeat' first | rfl | apply And.intro)))
                  · rename_i k1 k2
                    refine loopK.mk (q + 1, false) (by simp (disch := (first | omega | (simp only [vlen]; first | done | omega))) only [↓va0, ↓va1, ↓va2, ↓va3, vb0, vb1, vb2, vb3, vb4, vb5, vb6, vb7, vb8, vb9, vb10, vz0, vz1, vy0, vx0, ↓reduceIte, Nat.reduceBEq, Nat.reduceEqDiff, Nat.reduceLT, Nat.reduceLeDiff, Nat.reduceAdd, Nat.reduceMul, Nat.reduceSub, reduceCtorEq, Int.reduceToNat]) ⟨by omega, hst _ (by rw [okx, decide_eq_false h]; simp)⟩ (by show (tl ((t.spots.getD i default).ways.getD c default)).length - (q + 1) < (tl ((t.spots.getD i default).ways.getD c default)).length - q; omega) (by (simp (disch := (first | omega | (simp only [vlen]; first | done | omega))) only [Fits_u, Fits_m, Fits_nil, List.length_append, vsd, ↓va0, ↓va1, ↓va2, ↓va3, vb0, vb1, vb2, vb3, vb4, vb5, vb6, vb7, vb8, vb9, vb10, vz0, vz1, vy0, vx0, ↓reduceIte, Nat.reduceBEq, Nat.reduceEqDiff, Nat.reduceLT, Nat.reduceLeDiff, Nat.reduceAdd, Nat.reduceMul, Nat.reduceSub, reduceCtorEq, Int.reduceToNat] <;> (repeat' first | rfl | apply And.intro)))
                  · refine loopK.mk (q + 1, false) (by simp (disch := (first | omega | (simp only [vlen]; first | done | omega))) only [↓va0, ↓va1, ↓va2, ↓va3, vb0, vb1, vb2, vb3, vb4, vb5, vb6, vb7, vb8, vb9, vb10, vz0, vz1, vy0, vx0, ↓reduceIte, Nat.reduceBEq, Nat.reduceEqDiff, Nat.reduceLT, Nat.reduceLeDiff, Nat.reduceAdd, Nat.reduceMul, Nat.reduceSub, reduceCtorEq, Int.reduceToNat]) ⟨by omega, hst _ (by rw [h]; rfl)⟩ (by show (tl ((t.spots.getD i default).ways.getD c default)).length - (q + 1) < (tl ((t.spots.getD i default).ways.getD c default)).length - q; omega) (by (simp (disch := (first | omega | (simp only [vlen]; first | done | omega))) only [Fits_u, Fits_m, Fits_nil, List.length_append, vsd, ↓va0, ↓va1, ↓va2, ↓va3, vb0, vb1, vb2, vb3, vb4, vb5, vb6, vb7, vb8, vb9, vb10, vz0, vz1, vy0, vx0, ↓reduceIte, Nat.reduceBEq, Nat.reduceEqDiff, Nat.reduceLT, Nat.reduceLeDiff, Nat.reduceAdd, Nat.reduceMul, Nat.reduceSub, reduceCtorEq, Int.reduceToNat] <;> (repeat' first | rfl | apply And.intro)))
                · repeat' first | (refine Br.dec (fun h => ?_) (fun h => ?_) <;> try (exfalso; omega)) | (refine Br.eqi (fun h => ?_) (fun h => ?_) <;> try (exfalso; omega)) | (simp (disch := (first | omega | (simp only [vlen]; first | done | omega))) only [vsd, ↓va0, ↓va1, ↓va2, ↓va3, vb0, vb1, vb2, vb3, vb4, vb5, vb6, vb7, vb8, vb9, vb10, vz0, vz1, vy0, vx0, ↓reduceIte, Nat.reduceBEq, Nat.reduceEqDiff, Nat.reduceLT, Nat.reduceLeDiff, Nat.reduceAdd, Nat.reduceMul, Nat.reduceSub, reduceCtorEq, Int.reduceToNat]) | (refine Br.mk (fun h => ?_) (fun h => ?_)) | (refine BrN.mk (fun h => ?_) ?_) | (refine AltVC.mk ?_ ?_)
                  refine loopK.mk (c + 1, b2) (by simp (disch := (first | omega | (simp only [vlen]; first | done | omega))) only [↓va0, ↓va1, ↓va2, ↓va3, vb0, vb1, vb2, vb3, vb4, vb5, vb6, vb7, vb8, vb9, vb10, vz0, vz1, vy0, vx0, ↓reduceIte, Nat.reduceBEq, Nat.reduceEqDiff, Nat.reduceLT, Nat.reduceLeDiff, Nat.reduceAdd, Nat.reduceMul, Nat.reduceSub, reduceCtorEq, Int.reduceToNat]) ⟨by omega, ?_⟩ (by show (t.spots.getD i default).ways.length - (c + 1) < (t.spots.getD i default).ways.length - c; omega) (by (simp (disch := (first | omega | (simp only [vlen]; first | done | omega))) only [Fits_u, Fits_m, Fits_nil, List.length_append, vsd, ↓va0, ↓va1, ↓va2, ↓va3, vb0, vb1, vb2, vb3, vb4, vb5, vb6, vb7, vb8, vb9, vb10, vz0, vz1, vy0, vx0, ↓reduceIte, Nat.reduceBEq, Nat.reduceEqDiff, Nat.reduceLT, Nat.reduceLeDiff, Nat.reduceAdd, Nat.reduceMul, Nat.reduceSub, reduceCtorEq, Int.reduceToNat] <;> (repeat' first | rfl | apply And.intro)))
                  show b2 = rdy t l i (c + 1)
                  rw [rdy_succ hc1, hb2, hb, List.take_of_length_le (by omega)]
                  rfl
            · have hri := @rdy_iff t l i c (by show (t.spots.getD i default).ways.length ≤ c; omega)
              repeat' first | (refine Br.dec (fun h => ?_) (fun h => ?_) <;> try (exfalso; omega)) | (refine Br.eqi (fun h => ?_) (fun h => ?_) <;> try (exfalso; omega)) | (simp (disch := (first | omega | (simp only [vlen]; first | done | omega))) only [vsd, ↓va0, ↓va1, ↓va2, ↓va3, vb0, vb1, vb2, vb3, vb4, vb5, vb6, vb7, vb8, vb9, vb10, vz0, vz1, vy0, vx0, ↓reduceIte, Nat.reduceBEq, Nat.reduceEqDiff, Nat.reduceLT, Nat.reduceLeDiff, Nat.reduceAdd, Nat.reduceMul, Nat.reduceSub, reduceCtorEq, Int.reduceToNat]) | (refine Br.mk (fun h => ?_) (fun h => ?_)) | (refine BrN.mk (fun h => ?_) ?_) | (refine AltVC.mk ?_ ?_)
              · have hr := hri.mp (by rw [← hb]; assumption)
                have ea : tbl ixD l ++ [[D.v (Value.int IntKind.i64 (i : Nat))]] = tbl ixD (l ++ [i]) := by rw [tbl_app]; rfl
                rw [ea]
                refine loopK.mk (l ++ [i], true, i + 1) (by simp (disch := (first | omega | (simp only [vlen]; first | done | omega))) only [↓va0, ↓va1, ↓va2, ↓va3, vb0, vb1, vb2, vb3, vb4, vb5, vb6, vb7, vb8, vb9, vb10, vz0, vz1, vy0, vx0, ↓reduceIte, Nat.reduceBEq, Nat.reduceEqDiff, Nat.reduceLT, Nat.reduceLeDiff, Nat.reduceAdd, Nat.reduceMul, Nat.reduceSub, reduceCtorEq, Int.reduceToNat]) ⟨hL.add hin hr, hin, fun h => Bool.noConfusion h, fun _ => ?_⟩ (by show t.spots.length - (i + 1) < t.spots.length - i; omega) ?_
                · show l0.length < (l ++ [i]).length
                  rw [List.length_append, List.length_singleton]
                  cases m
                  · rw [(hc rfl).1]; omega
                  · have := hg rfl; omega
                · (simp (disch := (first | omega | (simp only [vlen]; first | done | omega))) only [Fits_u, Fits_m, Fits_nil, List.length_append, vsd, List.length_append, ↓va0, ↓va1, ↓va2, ↓va3, vb0, vb1, vb2, vb3, vb4, vb5, vb6, vb7, vb8, vb9, vb10, vz0, vz1, vy0, vx0, ↓reduceIte, Nat.reduceBEq, Nat.reduceEqDiff, Nat.reduceLT, Nat.reduceLeDiff, Nat.reduceAdd, Nat.reduceMul, Nat.reduceSub, reduceCtorEq, Int.reduceToNat] <;> (repeat' first | rfl | apply And.intro))
              · have hbf : ¬ b = true := by rw [h]; simp
                refine loopK.mk (l, m, i + 1) (by simp (disch := (first | omega | (simp only [vlen]; first | done | omega))) only [↓va0, ↓va1, ↓va2, ↓va3, vb0, vb1, vb2, vb3, vb4, vb5, vb6, vb7, vb8, vb9, vb10, vz0, vz1, vy0, vx0, ↓reduceIte, Nat.reduceBEq, Nat.reduceEqDiff, Nat.reduceLT, Nat.reduceLeDiff, Nat.reduceAdd, Nat.reduceMul, Nat.reduceSub, reduceCtorEq, Int.reduceToNat]) ⟨hL, hin, fun h => ⟨(hc h).1, fun j hj => ?_⟩, hg⟩ (by show t.spots.length - (i + 1) < t.spots.length - i; omega) (by (simp (disch := (first | omega | (simp only [vlen]; first | done | omega))) only [Fits_u, Fits_m, Fits_nil, List.length_append, vsd, ↓va0, ↓va1, ↓va2, ↓va3, vb0, vb1, vb2, vb3, vb4, vb5, vb6, vb7, vb8, vb9, vb10, vz0, vz1, vy0, vx0, ↓reduceIte, Nat.reduceBEq, Nat.reduceEqDiff, Nat.reduceLT, Nat.reduceLeDiff, Nat.reduceAdd, Nat.reduceMul, Nat.reduceSub, reduceCtorEq, Int.reduceToNat] <;> (repeat' first | rfl | apply And.intro)))
                by_cases e : j = i
                · subst e
                  exact fun h => absurd (hri.mpr h) (by rw [← hb]; exact hbf)
                · exact (hc h).2 j (by have : j < i + 1 := hj; omega)
        · repeat' first | (refine Br.dec (fun h => ?_) (fun h => ?_) <;> try (exfalso; omega)) | (refine Br.eqi (fun h => ?_) (fun h => ?_) <;> try (exfalso; omega)) | (simp (disch := (first | omega | (simp only [vlen]; first | done | omega))) only [vsd, ↓va0, ↓va1, ↓va2, ↓va3, vb0, vb1, vb2, vb3, vb4, vb5, vb6, vb7, vb8, vb9, vb10, vz0, vz1, vy0, vx0, ↓reduceIte, Nat.reduceBEq, Nat.reduceEqDiff, Nat.reduceLT, Nat.reduceLeDiff, Nat.reduceAdd, Nat.reduceMul, Nat.reduceSub, reduceCtorEq, Int.reduceToNat]) | (refine Br.mk (fun h => ?_) (fun h => ?_)) | (refine BrN.mk (fun h => ?_) ?_) | (refine AltVC.mk ?_ ?_)
          refine loopK.mk (l, m) (by simp (disch := (first | omega | (simp only [vlen]; first | done | omega))) only [↓va0, ↓va1, ↓va2, ↓va3, vb0, vb1, vb2, vb3, vb4, vb5, vb6, vb7, vb8, vb9, vb10, vz0, vz1, vy0, vx0, ↓reduceIte, Nat.reduceBEq, Nat.reduceEqDiff, Nat.reduceLT, Nat.reduceLeDiff, Nat.reduceAdd, Nat.reduceMul, Nat.reduceSub, reduceCtorEq, Int.reduceToNat]) ⟨hL, fun h j hj => (hc h).2 j (by omega)⟩ ?_ ?_
          · cases m
            · show 0 < _; simp
            · have := hg rfl
              show t.spots.length - l.length + 1 < t.spots.length - l0.length + 1
              omega
          · (simp (disch := (first | omega | (simp only [vlen]; first | done | omega))) only [Fits_u, Fits_m, Fits_nil, List.length_append, vsd, ↓va0, ↓va1, ↓va2, ↓va3, vb0, vb1, vb2, vb3, vb4, vb5, vb6, vb7, vb8, vb9, vb10, vz0, vz1, vy0, vx0, ↓reduceIte, Nat.reduceBEq, Nat.reduceEqDiff, Nat.reduceLT, Nat.reduceLeDiff, Nat.reduceAdd, Nat.reduceMul, Nat.reduceSub, reduceCtorEq, Int.reduceToNat] <;> (repeat' first | rfl | apply And.intro))
end Go.Proofs.Ytcbilnmpiladnaa
