/-
  Sentences: what takes the word without a symbol, what takes none; the law SentenceEmpties.
-/
import Derived.Test.YtmhpfgklfpgniaaSTakes
namespace Go.Proofs.Ytmhpfgklfpgniaa
open Go.Dm
set_option linter.unusedSimpArgs false
set_option linter.unnecessarySimpa false
set_option linter.unusedVariables false
set_option linter.defProp false

open Classical in
noncomputable def ebB (l : List Dm.Node) (k : Nat) : Bool := decide (lang l k [])
open Classical in
noncomputable def nbB (l : List Dm.Node) (k : Nat) : Bool := decide (∀ u, ¬ lang l k u)
section
variable {l : List Dm.Node} {k : Nat} {K : Int}
open Classical in
theorem ebB_iff : ebB l k = true ↔ lang l k [] := by unfold ebB; exact decide_eq_true_iff
open Classical in
theorem nbB_iff : nbB l k = true ↔ ∀ u, ¬ lang l k u := by unfold nbB; exact decide_eq_true_iff
open Classical in
theorem ebB_mb : mb l [] k 0 0 = ebB l k := by
  unfold mb ebB
  rw [Bool.eq_iff_iff, decide_eq_true_eq, decide_eq_true_eq]
  unfold Mt
  rw [seg_self]; simp
theorem b_false {b : Bool} (h : ¬ b = true) : false = b := by cases b <;> simp_all
theorem eb_1 (h : k < l.length) (e : (l.getD k default).kind = 1) : false = ebB l k := b_false fun h2 => by
  rw [ebB_iff, lang_1 h e] at h2; exact h2
theorem eb_2 (h : k < l.length) (e : (l.getD k default).kind = 2) : true = ebB l k := by
  rw [eq_comm, ebB_iff, lang_2 h e]; rfl
theorem eb_3 (h : k < l.length) (e : (l.getD k default).kind = 3) : false = ebB l k := b_false fun h2 => by
  rw [ebB_iff, lang_3 h e] at h2; cases h2
theorem eb_4 (hv : NodesOk K l) (h : k < l.length) (e : (l.getD k default).kind = 4) : ebB l k = (ebB l (l.getD k default).a.toNat && ebB l (l.getD k default).b.toNat) := by
  rw [Bool.eq_iff_iff, Bool.and_eq_true, ebB_iff, ebB_iff, ebB_iff, lang_4 hv h e]
  constructor
  · rintro ⟨a, b, h1, h2, h3⟩
    have h4 := List.append_eq_nil_iff.mp h3.symm
    rw [h4.1] at h1; rw [h4.2] at h2
    exact ⟨h1, h2⟩
  · exact fun h => ⟨[], [], h.1, h.2, rfl⟩
theorem eb_5 (hv : NodesOk K l) (h : k < l.length) (e : (l.getD k default).kind = 5) : ebB l k = (ebB l (l.getD k default).a.toNat || ebB l (l.getD k default).b.toNat) := by
  rw [Bool.eq_iff_iff, Bool.or_eq_true, ebB_iff, ebB_iff, ebB_iff, lang_5 hv h e]; exact Iff.rfl
theorem eb_6 (hv : NodesOk K l) (h : k < l.length) (e : (l.getD k default).kind = 6) : true = ebB l k := by
  rw [eq_comm, ebB_iff, lang_6 hv h e]; exact .nil
theorem nb_1 (h : k < l.length) (e : (l.getD k default).kind = 1) : true = nbB l k := by
  rw [eq_comm, nbB_iff, lang_1 h e]; exact fun u h => h
theorem nb_2 (h : k < l.length) (e : (l.getD k default).kind = 2) : false = nbB l k := b_false fun h2 => by
  rw [nbB_iff, lang_2 h e] at h2; exact h2 [] rfl
theorem nb_3 (h : k < l.length) (e : (l.getD k default).kind = 3) : false = nbB l k := b_false fun h2 => by
  rw [nbB_iff, lang_3 h e] at h2; exact h2 _ rfl
theorem nb_4 (hv : NodesOk K l) (h : k < l.length) (e : (l.getD k default).kind = 4) : nbB l k = (nbB l (l.getD k default).a.toNat || nbB l (l.getD k default).b.toNat) := by
  rw [Bool.eq_iff_iff, Bool.or_eq_true, nbB_iff, nbB_iff, nbB_iff, lang_4 hv h e]
  constructor
  · intro h
    apply Classical.byContradiction
    intro hn
    rw [not_or, Classical.not_forall, Classical.not_forall] at hn
    obtain ⟨⟨a, ha⟩, b, hb⟩ := hn
    exact h (a ++ b) ⟨a, b, Classical.not_not.mp ha, Classical.not_not.mp hb, rfl⟩
  · rintro (h | h) u ⟨a, b, h1, h2, _⟩
    · exact h a h1
    · exact h b h2
theorem nb_5 (hv : NodesOk K l) (h : k < l.length) (e : (l.getD k default).kind = 5) : nbB l k = (nbB l (l.getD k default).a.toNat && nbB l (l.getD k default).b.toNat) := by
  rw [Bool.eq_iff_iff, Bool.and_eq_true, nbB_iff, nbB_iff, nbB_iff, lang_5 hv h e]
  exact ⟨fun h => ⟨fun u hu => h u (.inl hu), fun u hu => h u (.inr hu)⟩, fun h u hu => hu.elim (h.1 u) (h.2 u)⟩
theorem nb_6 (hv : NodesOk K l) (h : k < l.length) (e : (l.getD k default).kind = 6) : false = nbB l k := b_false fun h2 => by
  rw [nbB_iff, lang_6 hv h e] at h2; exact h2 [] .nil
end
/-- The first ones of a row that is filled. -/
def upB (f : Nat → Bool) (i j : Nat) : Bool := if j < i then f j else false
theorem upB_at {f : Nat → Bool} {i j : Nat} (h : j < i) : upB f i j = f j := if_pos h
theorem upB_zero {f : Nat → Bool} {j : Nat} : false = upB f 0 j := (rfl)
theorem upB_skip {f : Nat → Bool} {i : Nat} (h : false = f i) {j : Nat} : upB f i j = upB f (i + 1) j := by
  unfold upB
  by_cases e : j = i
  · subst e; rw [if_neg (by omega), if_pos (by omega)]; exact h
  · (repeat' split) <;> first | rfl | omega
theorem upB_step {f : Nat → Bool} {i : Nat} {b : Bool} (h : b = f i) {j : Nat} : (if j = i then b else upB f i j) = upB f (i + 1) j := by
  unfold upB
  by_cases e : j = i
  · subst e; rw [if_pos rfl, if_pos (by omega)]; exact h
  · rw [if_neg e]; (repeat' split) <;> first | rfl | omega
theorem upB_all {f : Nat → Bool} {n : Nat} : bt n (upB f n) = bt n f := bt_ext fun j hj => upB_at hj
def vho := And.intro @bt_len <| And.intro @bt_get <| And.intro @bt_set <| And.intro @bt_rep <| And.intro @viewO_bt <| And.intro @upB_at @Int.add_sub_cancel
noncomputable def hoO (l : List Dm.Node) (i : Nat) : List (Nat × Ob) := [(2, ⟨1, bls (bt l.length (upB (ebB l) i)), true, false, .arr⟩), (3, ⟨1, bls (bt l.length (upB (nbB l) i)), true, false, .arr⟩)]
set_option maxRecDepth 10000 in
set_option maxHeartbeats 4000000 in
theorem hollow_spec (k0 : Int) (l : List Dm.Node) (hv : NodesOk k0 l) (hl : l.length ≤ 1000) : Dm.Spec Try.prog 39 [.sl 3 (tbl nodD l)] (· = .tu [.sl 1 (bls (bt l.length (ebB l))), .sl 1 (bls (bt l.length (nbB l)))]) := by
  refine spec_of_vc mixed Try.func39 c39 (by rw [show Try.f39.ntmps = _ from Try.ntmps39]; simp) ?_
  unfold m39 r39
  repeat' first | (refine Br.dec (fun h => ?_) (fun h => ?_) <;> try (exfalso; omega)) | (refine Br.eqi (fun h => ?_) (fun h => ?_) <;> try (exfalso; omega)) | (simp (disch := (first | omega | (simp only [vlen]; first | done | omega))) only [vho, ↓va0, ↓va1, ↓va2, ↓va3, vb0, vb1, vb2, vb3, vb4, vb5, vb6, vb7, vb8, vb9, vb10, vz0, vz1, vy0, vx0, ↓reduceIte, Nat.reduceBEq, Nat.reduceEqDiff, Nat.reduceLT, Nat.reduceLeDiff, Nat.reduceAdd, Nat.reduceMul, Nat.reduceSub, reduceCtorEq, Int.reduceToNat]) | (refine Br.mk (fun h => ?_) (fun h => ?_)) | (refine BrN.mk (fun h => ?_) ?_) | (refine AltVC.mk ?_ ?_)
  refine DrawVC.cu (X := Unit) (fun _ => [(4, .ref 2 1 0 l.length), (5, .ref 3 1 0 l.length)]) (fun _ => hoO l 0) (fun _ => True) 4 (by simp (disch := (first | omega | (simp only [vlen]; first | done | omega))) only [↓va0, ↓va1, ↓va2, ↓va3, vb0, vb1, vb2, vb3, vb4, vb5, vb6, vb7, vb8, vb9, vb10, vz0, vz1, vy0, vx0, ↓reduceIte, Nat.reduceBEq, Nat.reduceEqDiff, Nat.reduceLT, Nat.reduceLeDiff, Nat.reduceAdd, Nat.reduceMul, Nat.reduceSub, reduceCtorEq, Int.reduceToNat]) ?_ ?_
  · unfold hoO
    repeat' first | (refine Br.dec (fun h => ?_) (fun h => ?_) <;> try (exfalso; omega)) | (refine Br.eqi (fun h => ?_) (fun h => ?_) <;> try (exfalso; omega)) | (simp (disch := (first | omega | (simp only [vlen]; first | done | omega))) only [vho, ↓va0, ↓va1, ↓va2, ↓va3, vb0, vb1, vb2, vb3, vb4, vb5, vb6, vb7, vb8, vb9, vb10, vz0, vz1, vy0, vx0, ↓reduceIte, Nat.reduceBEq, Nat.reduceEqDiff, Nat.reduceLT, Nat.reduceLeDiff, Nat.reduceAdd, Nat.reduceMul, Nat.reduceSub, reduceCtorEq, Int.reduceToNat]) | (refine Br.mk (fun h => ?_) (fun h => ?_)) | (refine BrN.mk (fun h => ?_) ?_) | (refine AltVC.mk ?_ ?_)
    · refine cutK.mk () (by simp (disch := (first | omega | (simp only [vlen]; first | done | omega))) only [↓va0, ↓va1, ↓va2, ↓va3, vb0, vb1, vb2, vb3, vb4, vb5, vb6, vb7, vb8, vb9, vb10, vz0, vz1, vy0, vx0, ↓reduceIte, Nat.reduceBEq, Nat.reduceEqDiff, Nat.reduceLT, Nat.reduceLeDiff, Nat.reduceAdd, Nat.reduceMul, Nat.reduceSub, reduceCtorEq, Int.reduceToNat]) trivial ?_
      (simp (disch := (first | omega | (simp only [vlen]; first | done | omega))) only [Fits_u, Fits_m, Fits_nil, List.length_append, vho, ↓va0, ↓va1, ↓va2, ↓va3, vb0, vb1, vb2, vb3, vb4, vb5, vb6, vb7, vb8, vb9, vb10, vz0, vz1, vy0, vx0, ↓reduceIte, Nat.reduceBEq, Nat.reduceEqDiff, Nat.reduceLT, Nat.reduceLeDiff, Nat.reduceAdd, Nat.reduceMul, Nat.reduceSub, reduceCtorEq, Int.reduceToNat] <;> (repeat' first | rfl | apply And.intro))
      all_goals exact obBt fun j hj => upB_zero
    · refine cutK.swap 2 3 ?_
      repeat' first | (refine Br.dec (fun h => ?_) (fun h => ?_) <;> try (exfalso; omega)) | (refine Br.eqi (fun h => ?_) (fun h => ?_) <;> try (exfalso; omega)) | (simp (disch := (first | omega | (simp only [vlen]; first | done | omega))) only [vho, ↓va0, ↓va1, ↓va2, ↓va3, vb0, vb1, vb2, vb3, vb4, vb5, vb6, vb7, vb8, vb9, vb10, vz0, vz1, vy0, vx0, ↓reduceIte, Nat.reduceBEq, Nat.reduceEqDiff, Nat.reduceLT, Nat.reduceLeDiff, Nat.reduceAdd, Nat.reduceMul, Nat.reduceSub, reduceCtorEq, Int.reduceToNat]) | (refine Br.mk (fun h => ?_) (fun h => ?_)) | (refine BrN.mk (fun h => ?_) ?_) | (refine AltVC.mk ?_ ?_)
      refine cutK.mk () (by simp (disch := (first | omega | (simp only [vlen]; first | done | omega))) only [↓va0, ↓va1, ↓va2, ↓va3, vb0, vb1, vb2, vb3, vb4, vb5, vb6, vb7, vb8, vb9, vb10, vz0, vz1, vy0, vx0, ↓reduceIte, Nat.reduceBEq, Nat.reduceEqDiff, Nat.reduceLT, Nat.reduceLeDiff, Nat.reduceAdd, Nat.reduceMul, Nat.reduceSub, reduceCtorEq, Int.reduceToNat]) trivial ?_
      (simp (disch := (first | omega | (simp only [vlen]; first | done | omega))) only [Fits_u, Fits_m, Fits_nil, List.length_append, vho, ↓va0, ↓va1, ↓va2, ↓va3, vb0, vb1, vb2, vb3, vb4, vb5, vb6, vb7, vb8, vb9, vb10, vz0, vz1, vy0, vx0, ↓reduceIte, Nat.reduceBEq, Nat.reduceEqDiff, Nat.reduceLT, Nat.reduceLeDiff, Nat.reduceAdd, Nat.reduceMul, Nat.reduceSub, reduceCtorEq, Int.reduceToNat] <;> (repeat' first | rfl | apply And.intro))
      all_goals exact obBt fun j hj => upB_zero
  · intro _ _
    unfold hoO
    repeat' first | (refine Br.dec (fun h => ?_) (fun h => ?_) <;> try (exfalso; omega)) | (refine Br.eqi (fun h => ?_) (fun h => ?_) <;> try (exfalso; omega)) | (simp (disch := (first | omega | (simp only [vlen]; first | done | omega))) only [vho, ↓va0, ↓va1, ↓va2, ↓va3, vb0, vb1, vb2, vb3, vb4, vb5, vb6, vb7, vb8, vb9, vb10, vz0, vz1, vy0, vx0, ↓reduceIte, Nat.reduceBEq, Nat.reduceEqDiff, Nat.reduceLT, Nat.reduceLeDiff, Nat.reduceAdd, Nat.reduceMul, Nat.reduceSub, reduceCtorEq, Int.reduceToNat]) | (refine Br.mk (fun h => ?_) (fun h => ?_)) | (refine BrN.mk (fun h => ?_) ?_) | (refine AltVC.mk ?_ ?_)
    refine LoopVC.mk (X := Nat) (fun i => [(4, .ref 2 1 0 l.length), (5, .ref 3 1 0 l.length), (16, iv .i64 i)]) (fun i => hoO l i) (fun i => l.length - i) (fun i => i ≤ l.length) 0 (by omega) ?_ ?_
    · unfold hoO
      (simp (disch := (first | omega | (simp only [vlen]; first | done | omega))) only [Fits_u, Fits_m, Fits_nil, List.length_append, vho, ↓va0, ↓va1, ↓va2, ↓va3, vb0, vb1, vb2, vb3, vb4, vb5, vb6, vb7, vb8, vb9, vb10, vz0, vz1, vy0, vx0, ↓reduceIte, Nat.reduceBEq, Nat.reduceEqDiff, Nat.reduceLT, Nat.reduceLeDiff, Nat.reduceAdd, Nat.reduceMul, Nat.reduceSub, reduceCtorEq, Int.reduceToNat] <;> (repeat' first | rfl | apply And.intro))
      all_goals trace_state
    · intro i hi
      unfold hoO
      have b0 := @bt_len l.length (upB (ebB l) i)
      have b1 := @bt_len l.length (upB (nbB l) i)
      by_cases hil : i < l.length
      · have hx := hv i hil
        unfold NodeOk at hx
        obtain ⟨x1, x2, x3, x4, x5⟩ := hx
        have e4 := fun e => @eb_4 l i k0 hv hil e
        have e5 := fun e => @eb_5 l i k0 hv hil e
        have n4 := fun e => @nb_4 l i k0 hv hil e
        have n5 := fun e => @nb_5 l i k0 hv hil e
        repeat' first | (refine Br.dec (fun h => ?_) (fun h => ?_) <;> try (exfalso; omega)) | (refine Br.eqi (fun h => ?_) (fun h => ?_) <;> try (exfalso; omega)) | (simp (disch := (first | omega | (simp only [vlen]; first | done | omega))) only [vho, ↓va0, ↓va1, ↓va2, ↓va3, vb0, vb1, vb2, vb3, vb4, vb5, vb6, vb7, vb8, vb9, vb10, vz0, vz1, vy0, vx0, ↓reduceIte, Nat.reduceBEq, Nat.reduceEqDiff, Nat.reduceLT, Nat.reduceLeDiff, Nat.reduceAdd, Nat.reduceMul, Nat.reduceSub, reduceCtorEq, Int.reduceToNat]) | (refine Br.mk (fun h => ?_) (fun h => ?_)) | (refine BrN.mk (fun h => ?_) ?_) | (refine AltVC.mk ?_ ?_)
        all_goals (refine loopK.mk (i + 1) (by simp (disch := (first | omega | (simp only [vlen]; first | done | omega))) only [↓va0, ↓va1, ↓va2, ↓va3, vb0, vb1, vb2, vb3, vb4, vb5, vb6, vb7, vb8, vb9, vb10, vz0, vz1, vy0, vx0, ↓reduceIte, Nat.reduceBEq, Nat.reduceEqDiff, Nat.reduceLT, Nat.reduceLeDiff, Nat.reduceAdd, Nat.reduceMul, Nat.reduceSub, reduceCtorEq, Int.reduceToNat]) (by omega) (by omega) ?_)
        all_goals ((simp (disch := (first | omega | (simp only [vlen]; first | done | omega))) only [Fits_u, Fits_m, Fits_nil, List.length_append, vho, ↓va0, ↓va1, ↓va2, ↓va3, vb0, vb1, vb2, vb3, vb4, vb5, vb6, vb7, vb8, vb9, vb10, vz0, vz1, vy0, vx0, ↓reduceIte, Nat.reduceBEq, Nat.reduceEqDiff, Nat.reduceLT, Nat.reduceLeDiff, Nat.reduceAdd, Nat.reduceMul, Nat.reduceSub, reduceCtorEq, Int.reduceToNat] <;> (repeat' first | rfl | apply And.intro)))
        all_goals first
          | exact obBt fun j _ => upB_step (by
              first | exact eb_2 hil (by assumption) | exact eb_6 hv hil (by assumption) | exact nb_1 hil (by assumption) | (rw [e4 (by assumption)]; simp only [Bool.true_or, Bool.false_or, Bool.true_and, Bool.false_and, Bool.or_true, Bool.or_false, Bool.and_true, Bool.and_false, Bool.or_self, Bool.and_self, *]; done) | (rw [e5 (by assumption)]; simp only [Bool.true_or, Bool.false_or, Bool.true_and, Bool.false_and, Bool.or_true, Bool.or_false, Bool.and_true, Bool.and_false, Bool.or_self, Bool.and_self, *]; done) | (rw [n4 (by assumption)]; simp only [Bool.true_or, Bool.false_or, Bool.true_and, Bool.false_and, Bool.or_true, Bool.or_false, Bool.and_true, Bool.and_false, Bool.or_self, Bool.and_self, *]; done) | (rw [n5 (by assumption)]; simp only [Bool.true_or, Bool.false_or, Bool.true_and, Bool.false_and, Bool.or_true, Bool.or_false, Bool.and_true, Bool.and_false, Bool.or_self, Bool.and_self, *]; done))
          | exact obBt fun j _ => upB_skip (by
              first | exact eb_1 hil (by assumption) | exact eb_3 hil (by omega) | exact nb_2 hil (by assumption) | exact nb_3 hil (by omega) | exact nb_6 hv hil (by assumption))
      · rw [show i = l.length by omega, upB_all, upB_all]
        repeat' first | (refine Br.dec (fun h => ?_) (fun h => ?_) <;> try (exfalso; omega)) | (refine Br.eqi (fun h => ?_) (fun h => ?_) <;> try (exfalso; omega)) | (simp (disch := (first | omega | (simp only [vlen]; first | done | omega))) only [vho, ↓va0, ↓va1, ↓va2, ↓va3, vb0, vb1, vb2, vb3, vb4, vb5, vb6, vb7, vb8, vb9, vb10, vz0, vz1, vy0, vx0, ↓reduceIte, Nat.reduceBEq, Nat.reduceEqDiff, Nat.reduceLT, Nat.reduceLeDiff, Nat.reduceAdd, Nat.reduceMul, Nat.reduceSub, reduceCtorEq, Int.reduceToNat]) | (refine Br.mk (fun h => ?_) (fun h => ?_)) | (refine BrN.mk (fun h => ?_) ?_) | (refine AltVC.mk ?_ ?_)
        exact fin_mk rfl
set_option maxRecDepth 10000 in
set_option maxHeartbeats 4000000 in
theorem noWord_spec (k0 : Int) (l : List Dm.Node) (hv : NodesOk k0 l) (hl : 0 < l.length ∧ l.length ≤ 1000) : Dm.Spec Try.prog 19 [.sl 3 (tbl nodD l)] (· = .v (.bool (nbB l (l.length - 1)))) := by
  refine spec_of_vc mixed Try.func19 c19 (by rw [show Try.f19.ntmps = _ from Try.ntmps19]; simp) ?_
  unfold m19 r19
  repeat' first | (refine Br.dec (fun h => ?_) (fun h => ?_) <;> try (exfalso; omega)) | (refine Br.eqi (fun h => ?_) (fun h => ?_) <;> try (exfalso; omega)) | (simp (disch := (first | omega | (simp only [vlen]; first | done | omega))) only [vho, ↓va0, ↓va1, ↓va2, ↓va3, vb0, vb1, vb2, vb3, vb4, vb5, vb6, vb7, vb8, vb9, vb10, vz0, vz1, vy0, vx0, ↓reduceIte, Nat.reduceBEq, Nat.reduceEqDiff, Nat.reduceLT, Nat.reduceLeDiff, Nat.reduceAdd, Nat.reduceMul, Nat.reduceSub, reduceCtorEq, Int.reduceToNat]) | (refine Br.mk (fun h => ?_) (fun h => ?_)) | (refine BrN.mk (fun h => ?_) ?_) | (refine AltVC.mk ?_ ?_)
  refine LoopVC.mk (X := Nat) (fun i => [(3, .ref 0 1 0 l.length), (11, iv .i64 i)]) (fun i => [(0, ⟨1, bls (bt l.length (upB (nbB l) i)), true, false, .arr⟩)]) (fun i => l.length - i) (fun i => i ≤ l.length) 0 (by omega) ?_ ?_
  · (simp (disch := (first | omega | (simp only [vlen]; first | done | omega))) only [Fits_u, Fits_m, Fits_nil, List.length_append, vho, ↓va0, ↓va1, ↓va2, ↓va3, vb0, vb1, vb2, vb3, vb4, vb5, vb6, vb7, vb8, vb9, vb10, vz0, vz1, vy0, vx0, ↓reduceIte, Nat.reduceBEq, Nat.reduceEqDiff, Nat.reduceLT, Nat.reduceLeDiff, Nat.reduceAdd, Nat.reduceMul, Nat.reduceSub, reduceCtorEq, Int.reduceToNat] <;> (repeat' first | rfl | apply And.intro))
    all_goals exact obBt fun j hj => upB_zero
  · intro i hi
    have b1 := @bt_len l.length (upB (nbB l) i)
    by_cases hil : i < l.length
    · have hx := hv i hil
      unfold NodeOk at hx
      obtain ⟨x1, x2, x3, x4, x5⟩ := hx
      have n4 := fun e => @nb_4 l i k0 hv hil e
      have n5 := fun e => @nb_5 l i k0 hv hil e
      repeat' first | (refine Br.dec (fun h => ?_) (fun h => ?_) <;> try (exfalso; omega)) | (refine Br.eqi (fun h => ?_) (fun h => ?_) <;> try (exfalso; omega)) | (simp (disch := (first | omega | (simp only [vlen]; first | done | omega))) only [vho, ↓va0, ↓va1, ↓va2, ↓va3, vb0, vb1, vb2, vb3, vb4, vb5, vb6, vb7, vb8, vb9, vb10, vz0, vz1, vy0, vx0, ↓reduceIte, Nat.reduceBEq, Nat.reduceEqDiff, Nat.reduceLT, Nat.reduceLeDiff, Nat.reduceAdd, Nat.reduceMul, Nat.reduceSub, reduceCtorEq, Int.reduceToNat]) | (refine Br.mk (fun h => ?_) (fun h => ?_)) | (refine BrN.mk (fun h => ?_) ?_) | (refine AltVC.mk ?_ ?_)
      all_goals (refine loopK.mk (i + 1) (by simp (disch := (first | omega | (simp only [vlen]; first | done | omega))) only [↓va0, ↓va1, ↓va2, ↓va3, vb0, vb1, vb2, vb3, vb4, vb5, vb6, vb7, vb8, vb9, vb10, vz0, vz1, vy0, vx0, ↓reduceIte, Nat.reduceBEq, Nat.reduceEqDiff, Nat.reduceLT, Nat.reduceLeDiff, Nat.reduceAdd, Nat.reduceMul, Nat.reduceSub, reduceCtorEq, Int.reduceToNat]) (by omega) (by omega) ?_)
      all_goals ((simp (disch := (first | omega | (simp only [vlen]; first | done | omega))) only [Fits_u, Fits_m, Fits_nil, List.length_append, vho, ↓va0, ↓va1, ↓va2, ↓va3, vb0, vb1, vb2, vb3, vb4, vb5, vb6, vb7, vb8, vb9, vb10, vz0, vz1, vy0, vx0, ↓reduceIte, Nat.reduceBEq, Nat.reduceEqDiff, Nat.reduceLT, Nat.reduceLeDiff, Nat.reduceAdd, Nat.reduceMul, Nat.reduceSub, reduceCtorEq, Int.reduceToNat] <;> (repeat' first | rfl | apply And.intro)))
      all_goals exact obBt fun j _ => upB_step (by
              first | exact nb_1 hil (by assumption) | (rw [n4 (by assumption)]; simp only [Bool.true_or, Bool.false_or, Bool.true_and, Bool.false_and, Bool.or_true, Bool.or_false, Bool.and_true, Bool.and_false, Bool.or_self, Bool.and_self, *]; done) | (rw [n5 (by assumption)]; simp only [Bool.true_or, Bool.false_or, Bool.true_and, Bool.false_and, Bool.or_true, Bool.or_false, Bool.and_true, Bool.and_false, Bool.or_self, Bool.and_self, *]; done) | exact nb_2 hil (by omega) | exact nb_6 hv hil (by omega) | (by_cases h3 : (l.getD i default).kind = 3; exact nb_3 hil h3; by_cases h2 : (l.getD i default).kind = 2; exact nb_2 hil h2; exact nb_6 hv hil (by omega)))
    · rw [show i = l.length by omega, upB_all]
      have b2 := @bt_len l.length (nbB l)
      repeat' first | (refine Br.dec (fun h => ?_) (fun h => ?_) <;> try (exfalso; omega)) | (refine Br.eqi (fun h => ?_) (fun h => ?_) <;> try (exfalso; omega)) | (simp (disch := (first | omega | (simp only [vlen]; first | done | omega))) only [vho, ↓va0, ↓va1, ↓va2, ↓va3, vb0, vb1, vb2, vb3, vb4, vb5, vb6, vb7, vb8, vb9, vb10, vz0, vz1, vy0, vx0, ↓reduceIte, Nat.reduceBEq, Nat.reduceEqDiff, Nat.reduceLT, Nat.reduceLeDiff, Nat.reduceAdd, Nat.reduceMul, Nat.reduceSub, reduceCtorEq, Int.reduceToNat]) | (refine Br.mk (fun h => ?_) (fun h => ?_)) | (refine BrN.mk (fun h => ?_) ?_) | (refine AltVC.mk ?_ ?_)
      exact fin_mk rfl
set_option maxRecDepth 10000 in
set_option maxHeartbeats 4000000 in
theorem sEmpty_err (k : Int) (l : List Dm.Node) (hl : l.length ≤ 9223372036854775807) (h : ¬ sentCode k l = 0) : Dm.Spec Try.prog 18 [iv .i64 k, .sl 3 (tbl nodD l)] (· = .tu [.v (.bool false), .v (.bool false), iv .i64 (sentCode k l)]) := by
  refine spec_of_vc mixed Try.func18 c18 (by rw [show Try.f18.ntmps = _ from Try.ntmps18]; simp) ?_
  unfold m18 r18
  repeat' first | (refine Br.dec (fun h => ?_) (fun h => ?_) <;> try (exfalso; omega)) | (refine Br.eqi (fun h => ?_) (fun h => ?_) <;> try (exfalso; omega)) | (simp (disch := (first | omega | (simp only [vlen]; first | done | omega))) only [vho, ↓va0, ↓va1, ↓va2, ↓va3, vb0, vb1, vb2, vb3, vb4, vb5, vb6, vb7, vb8, vb9, vb10, vz0, vz1, vy0, vx0, ↓reduceIte, Nat.reduceBEq, Nat.reduceEqDiff, Nat.reduceLT, Nat.reduceLeDiff, Nat.reduceAdd, Nat.reduceMul, Nat.reduceSub, reduceCtorEq, Int.reduceToNat]) | (refine Br.mk (fun h => ?_) (fun h => ?_)) | (refine BrN.mk (fun h => ?_) ?_) | (refine AltVC.mk ?_ ?_)
  refine CallVC.eq (sCheck_spec k l hl) ?_
  repeat' first | (refine Br.dec (fun h => ?_) (fun h => ?_) <;> try (exfalso; omega)) | (refine Br.eqi (fun h => ?_) (fun h => ?_) <;> try (exfalso; omega)) | (simp (disch := (first | omega | (simp only [vlen]; first | done | omega))) only [vho, ↓va0, ↓va1, ↓va2, ↓va3, vb0, vb1, vb2, vb3, vb4, vb5, vb6, vb7, vb8, vb9, vb10, vz0, vz1, vy0, vx0, ↓reduceIte, Nat.reduceBEq, Nat.reduceEqDiff, Nat.reduceLT, Nat.reduceLeDiff, Nat.reduceAdd, Nat.reduceMul, Nat.reduceSub, reduceCtorEq, Int.reduceToNat]) | (refine Br.mk (fun h => ?_) (fun h => ?_)) | (refine BrN.mk (fun h => ?_) ?_) | (refine AltVC.mk ?_ ?_)
  exact fin_mk rfl
set_option maxRecDepth 10000 in
set_option maxHeartbeats 4000000 in
theorem sEmpty_spec (k : Int) (l : List Dm.Node) (h : sentCode k l = 0) : Dm.Spec Try.prog 18 [iv .i64 k, .sl 3 (tbl nodD l)] (· = .tu [.v (.bool (ebB l (l.length - 1))), .v (.bool (nbB l (l.length - 1))), .v (.int .i64 0)]) := by
  refine spec_of_vc mixed Try.func18 c18 (by rw [show Try.f18.ntmps = _ from Try.ntmps18]; simp) ?_
  unfold m18 r18
  obtain ⟨hk, hl, hv⟩ := sent_ok h
  have hS := sCheck_spec k l (by omega)
  rw [h] at hS
  have b1 := @bt_len l.length (ebB l)
  have b2 := @bt_len l.length (nbB l)
  repeat' first | (refine Br.dec (fun h => ?_) (fun h => ?_) <;> try (exfalso; omega)) | (refine Br.eqi (fun h => ?_) (fun h => ?_) <;> try (exfalso; omega)) | (simp (disch := (first | omega | (simp only [vlen]; first | done | omega))) only [vho, ↓va0, ↓va1, ↓va2, ↓va3, vb0, vb1, vb2, vb3, vb4, vb5, vb6, vb7, vb8, vb9, vb10, vz0, vz1, vy0, vx0, ↓reduceIte, Nat.reduceBEq, Nat.reduceEqDiff, Nat.reduceLT, Nat.reduceLeDiff, Nat.reduceAdd, Nat.reduceMul, Nat.reduceSub, reduceCtorEq, Int.reduceToNat]) | (refine Br.mk (fun h => ?_) (fun h => ?_)) | (refine BrN.mk (fun h => ?_) ?_) | (refine AltVC.mk ?_ ?_)
  refine CallVC.eq hS ?_
  repeat' first | (refine Br.dec (fun h => ?_) (fun h => ?_) <;> try (exfalso; omega)) | (refine Br.eqi (fun h => ?_) (fun h => ?_) <;> try (exfalso; omega)) | (simp (disch := (first | omega | (simp only [vlen]; first | done | omega))) only [vho, ↓va0, ↓va1, ↓va2, ↓va3, vb0, vb1, vb2, vb3, vb4, vb5, vb6, vb7, vb8, vb9, vb10, vz0, vz1, vy0, vx0, ↓reduceIte, Nat.reduceBEq, Nat.reduceEqDiff, Nat.reduceLT, Nat.reduceLeDiff, Nat.reduceAdd, Nat.reduceMul, Nat.reduceSub, reduceCtorEq, Int.reduceToNat]) | (refine Br.mk (fun h => ?_) (fun h => ?_)) | (refine BrN.mk (fun h => ?_) ?_) | (refine AltVC.mk ?_ ?_)
  refine CallVC.eq (hollow_spec k l hv (by omega)) ?_
  repeat' first | (refine Br.dec (fun h => ?_) (fun h => ?_) <;> try (exfalso; omega)) | (refine Br.eqi (fun h => ?_) (fun h => ?_) <;> try (exfalso; omega)) | (simp (disch := (first | omega | (simp only [vlen]; first | done | omega))) only [vho, ↓va0, ↓va1, ↓va2, ↓va3, vb0, vb1, vb2, vb3, vb4, vb5, vb6, vb7, vb8, vb9, vb10, vz0, vz1, vy0, vx0, ↓reduceIte, Nat.reduceBEq, Nat.reduceEqDiff, Nat.reduceLT, Nat.reduceLeDiff, Nat.reduceAdd, Nat.reduceMul, Nat.reduceSub, reduceCtorEq, Int.reduceToNat]) | (refine Br.mk (fun h => ?_) (fun h => ?_)) | (refine BrN.mk (fun h => ?_) ?_) | (refine AltVC.mk ?_ ?_)
  exact fin_mk rfl
set_option maxRecDepth 10000 in
set_option maxHeartbeats 4000000 in
theorem sentenceEmpties_spec (k : Int) (hk : ok64 k) (l : List Dm.Node) (hl : okL Dm.Node.ok l) : Dm.Spec Try.prog 5 [iv .i64 k, .sl 3 (tbl nodD l)] (· = .v (.bool true)) := by
  refine spec_of_vc mixed Try.func5 c5 (by rw [show Try.f5.ntmps = _ from Try.ntmps5]; simp) ?_
  unfold m5 r5
  have hll := maxLen_le hl.1
  have hC := refSCheck_spec k l hll
  by_cases h : sentCode k l = 0
  · obtain ⟨hk, hl2, hv⟩ := sent_ok h
    have hM := means_spec k l hv (by omega) [] (by simp)
    rw [show ([] : List Int).length = 0 from rfl, ebB_mb] at hM
    rw [h] at hC
    repeat' first | (refine Br.dec (fun h => ?_) (fun h => ?_) <;> try (exfalso; omega)) | (refine Br.eqi (fun h => ?_) (fun h => ?_) <;> try (exfalso; omega)) | (simp (disch := (first | omega | (simp only [vlen]; first | done | omega))) only [vho, ↓va0, ↓va1, ↓va2, ↓va3, vb0, vb1, vb2, vb3, vb4, vb5, vb6, vb7, vb8, vb9, vb10, vz0, vz1, vy0, vx0, ↓reduceIte, Nat.reduceBEq, Nat.reduceEqDiff, Nat.reduceLT, Nat.reduceLeDiff, Nat.reduceAdd, Nat.reduceMul, Nat.reduceSub, reduceCtorEq, Int.reduceToNat]) | (refine Br.mk (fun h => ?_) (fun h => ?_)) | (refine BrN.mk (fun h => ?_) ?_) | (refine AltVC.mk ?_ ?_)
    refine CallVC.eq (sEmpty_spec k l h) ?_
    repeat' first | (refine Br.dec (fun h => ?_) (fun h => ?_) <;> try (exfalso; omega)) | (refine Br.eqi (fun h => ?_) (fun h => ?_) <;> try (exfalso; omega)) | (simp (disch := (first | omega | (simp only [vlen]; first | done | omega))) only [vho, ↓va0, ↓va1, ↓va2, ↓va3, vb0, vb1, vb2, vb3, vb4, vb5, vb6, vb7, vb8, vb9, vb10, vz0, vz1, vy0, vx0, ↓reduceIte, Nat.reduceBEq, Nat.reduceEqDiff, Nat.reduceLT, Nat.reduceLeDiff, Nat.reduceAdd, Nat.reduceMul, Nat.reduceSub, reduceCtorEq, Int.reduceToNat]) | (refine Br.mk (fun h => ?_) (fun h => ?_)) | (refine BrN.mk (fun h => ?_) ?_) | (refine AltVC.mk ?_ ?_)
    refine CallVC.eq hC ?_
    repeat' first | (refine Br.dec (fun h => ?_) (fun h => ?_) <;> try (exfalso; omega)) | (refine Br.eqi (fun h => ?_) (fun h => ?_) <;> try (exfalso; omega)) | (simp (disch := (first | omega | (simp only [vlen]; first | done | omega))) only [vho, ↓va0, ↓va1, ↓va2, ↓va3, vb0, vb1, vb2, vb3, vb4, vb5, vb6, vb7, vb8, vb9, vb10, vz0, vz1, vy0, vx0, ↓reduceIte, Nat.reduceBEq, Nat.reduceEqDiff, Nat.reduceLT, Nat.reduceLeDiff, Nat.reduceAdd, Nat.reduceMul, Nat.reduceSub, reduceCtorEq, Int.reduceToNat]) | (refine Br.mk (fun h => ?_) (fun h => ?_)) | (refine BrN.mk (fun h => ?_) ?_) | (refine AltVC.mk ?_ ?_)
    refine CallVC.les (.cons (Le_refl _) (.cons (Le_nl 1) .nil)) hM ?_
    repeat' first | (refine Br.dec (fun h => ?_) (fun h => ?_) <;> try (exfalso; omega)) | (refine Br.eqi (fun h => ?_) (fun h => ?_) <;> try (exfalso; omega)) | (simp (disch := (first | omega | (simp only [vlen]; first | done | omega))) only [vho, ↓va0, ↓va1, ↓va2, ↓va3, vb0, vb1, vb2, vb3, vb4, vb5, vb6, vb7, vb8, vb9, vb10, vz0, vz1, vy0, vx0, ↓reduceIte, Nat.reduceBEq, Nat.reduceEqDiff, Nat.reduceLT, Nat.reduceLeDiff, Nat.reduceAdd, Nat.reduceMul, Nat.reduceSub, reduceCtorEq, Int.reduceToNat]) | (refine Br.mk (fun h => ?_) (fun h => ?_)) | (refine BrN.mk (fun h => ?_) ?_) | (refine AltVC.mk ?_ ?_)
    refine CallVC.eq (noWord_spec k l hv (by omega)) ?_
    repeat' first | (refine Br.dec (fun h => ?_) (fun h => ?_) <;> try (exfalso; omega)) | (refine Br.eqi (fun h => ?_) (fun h => ?_) <;> try (exfalso; omega)) | (simp (disch := (first | omega | (simp only [vlen]; first | done | omega))) only [vho, ↓va0, ↓va1, ↓va2, ↓va3, vb0, vb1, vb2, vb3, vb4, vb5, vb6, vb7, vb8, vb9, vb10, vz0, vz1, vy0, vx0, ↓reduceIte, Nat.reduceBEq, Nat.reduceEqDiff, Nat.reduceLT, Nat.reduceLeDiff, Nat.reduceAdd, Nat.reduceMul, Nat.reduceSub, reduceCtorEq, Int.reduceToNat]) | (refine Br.mk (fun h => ?_) (fun h => ?_)) | (refine BrN.mk (fun h => ?_) ?_) | (refine AltVC.mk ?_ ?_)
    exact fin_mk (by simp)
  · repeat' first | (refine Br.dec (fun h => ?_) (fun h => ?_) <;> try (exfalso; omega)) | (refine Br.eqi (fun h => ?_) (fun h => ?_) <;> try (exfalso; omega)) | (simp (disch := (first | omega | (simp only [vlen]; first | done | omega))) only [vho, ↓va0, ↓va1, ↓va2, ↓va3, vb0, vb1, vb2, vb3, vb4, vb5, vb6, vb7, vb8, vb9, vb10, vz0, vz1, vy0, vx0, ↓reduceIte, Nat.reduceBEq, Nat.reduceEqDiff, Nat.reduceLT, Nat.reduceLeDiff, Nat.reduceAdd, Nat.reduceMul, Nat.reduceSub, reduceCtorEq, Int.reduceToNat]) | (refine Br.mk (fun h => ?_) (fun h => ?_)) | (refine BrN.mk (fun h => ?_) ?_) | (refine AltVC.mk ?_ ?_)
    refine CallVC.eq (sEmpty_err k l hll h) ?_
    repeat' first | (refine Br.dec (fun h => ?_) (fun h => ?_) <;> try (exfalso; omega)) | (refine Br.eqi (fun h => ?_) (fun h => ?_) <;> try (exfalso; omega)) | (simp (disch := (first | omega | (simp only [vlen]; first | done | omega))) only [vho, ↓va0, ↓va1, ↓va2, ↓va3, vb0, vb1, vb2, vb3, vb4, vb5, vb6, vb7, vb8, vb9, vb10, vz0, vz1, vy0, vx0, ↓reduceIte, Nat.reduceBEq, Nat.reduceEqDiff, Nat.reduceLT, Nat.reduceLeDiff, Nat.reduceAdd, Nat.reduceMul, Nat.reduceSub, reduceCtorEq, Int.reduceToNat]) | (refine Br.mk (fun h => ?_) (fun h => ?_)) | (refine BrN.mk (fun h => ?_) ?_) | (refine AltVC.mk ?_ ?_)
    refine CallVC.eq hC ?_
    repeat' first | (refine Br.dec (fun h => ?_) (fun h => ?_) <;> try (exfalso; omega)) | (refine Br.eqi (fun h => ?_) (fun h => ?_) <;> try (exfalso; omega)) | (simp (disch := (first | omega | (simp only [vlen]; first | done | omega))) only [vho, ↓va0, ↓va1, ↓va2, ↓va3, vb0, vb1, vb2, vb3, vb4, vb5, vb6, vb7, vb8, vb9, vb10, vz0, vz1, vy0, vx0, ↓reduceIte, Nat.reduceBEq, Nat.reduceEqDiff, Nat.reduceLT, Nat.reduceLeDiff, Nat.reduceAdd, Nat.reduceMul, Nat.reduceSub, reduceCtorEq, Int.reduceToNat]) | (refine Br.mk (fun h => ?_) (fun h => ?_)) | (refine BrN.mk (fun h => ?_) ?_) | (refine AltVC.mk ?_ ?_)
    exact fin_mk (by simp)
end Go.Proofs.Ytmhpfgklfpgniaa
