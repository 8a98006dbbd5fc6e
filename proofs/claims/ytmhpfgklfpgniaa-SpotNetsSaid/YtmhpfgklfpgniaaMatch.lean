/-
  Sentences: what a sentence takes; the laws SentenceTakes, AfterTakes.
-/
import Derived.Test.YtmhpfgklfpgniaaMeans
namespace Go.Proofs.Ytmhpfgklfpgniaa
open Go.Dm
set_option linter.unusedSimpArgs false
set_option linter.unnecessarySimpa false
set_option linter.unusedVariables false
set_option linter.defProp false

/-- A row of sets. -/
def ut (n : Nat) (f : Nat → Nat) : List (List D) := (List.range n).map fun i => [iv .u32 (f i)]
section
variable {n i : Nat} {f g : Nat → Nat}
theorem ut_len : (ut n f).length = n := by simp [ut]
theorem ut_get {d : List D} (h : i < n) : (ut n f).getD i d = [iv .u32 (f i)] := by simp [ut, List.getD, h]
theorem ut_set {x : Nat} : (ut n f).set i [.v (.int .u32 (x : Int))] = ut n fun j => if j = i then x else f j := by
  apply List.ext_getElem
  · simp [ut]
  · intro j h1 h2
    simp only [ut, List.getElem_set, List.getElem_map, List.getElem_range]
    by_cases e : i = j
    · rw [if_pos e, if_pos e.symm]
    · rw [if_neg e, if_neg (fun h => e h.symm)]
theorem ut_ext (h : ∀ j, j < n → f j = g j) : ut n f = ut n g := by
  unfold ut
  exact List.map_congr_left fun j hj => by rw [h j (List.mem_range.mp hj)]
theorem ut_rep : List.replicate n [D.v (.int .u32 0)] = ut n fun _ => 0 := by apply List.ext_getElem <;> simp [ut]
theorem obUt {a b : Bool} {c : Kd} (h : ∀ j, j < n → f j = g j) : some (⟨1, ut n f, a, b, c⟩ : Ob) = some ⟨1, ut n g, a, b, c⟩ := by rw [ut_ext h]
theorem slUt (h : ∀ j, j < n → f j = g j) : D.sl 1 (ut n f) = D.sl 1 (ut n g) := by rw [ut_ext h]
theorem viewO_ut : viewO (some ⟨1, ut n f, true, false, .arr⟩) 1 0 n = .sl 1 (ut n f) := viewO_all (by simp [ut])
theorem ut_clo : (ut n f).all (fun e => e.all D.clo') = true := by simp [ut, clo'_v]
theorem ut_take : (ut n f).take n = ut n f := List.take_of_length_le (by rw [ut_len]; omega)
end
theorem ite_irr {i a b : Nat} : (if i < i then a else b) = b := if_neg (by omega)
def vut := And.intro @ite_irr <| And.intro @ut_len <| And.intro @ut_get <| And.intro @ut_set <| And.intro @ut_rep <| And.intro @viewO_ut <| And.intro @ut_clo <| And.intro @ut_take <| And.intro @orN <| And.intro @shlN @Int.add_sub_cancel
/-- The union of the sets of b at what a set has. -/
def unF (a : Nat) (b : Nat → Nat) : Nat → Nat
  | 0 => 0
  | j + 1 => if a.testBit j = true then unF a b j ||| b j else unF a b j
theorem unF_lt {a N : Nat} {b : Nat → Nat} (h : ∀ j, b j < 2 ^ N) : ∀ {j : Nat}, unF a b j < 2 ^ N
  | 0 => Nat.pow_pos (by omega)
  | j + 1 => by
    rw [unF]; split
    · exact Nat.or_lt_two_pow (unF_lt h) (h j)
    · exact unF_lt h
theorem unF_bit {a x : Nat} {b : Nat → Nat} : ∀ {n : Nat}, (unF a b n).testBit x = true ↔ ∃ j, j < n ∧ a.testBit j = true ∧ (b j).testBit x = true
  | 0 => by simp [unF]
  | n + 1 => by
    rw [unF]
    constructor
    · intro h
      split at h
      · rename_i ha
        rw [Nat.testBit_or, Bool.or_eq_true] at h
        rcases h with h | h
        · obtain ⟨j, h1, h2⟩ := unF_bit.mp h
          exact ⟨j, by omega, h2⟩
        · exact ⟨n, by omega, ha, h⟩
      · obtain ⟨j, h1, h2⟩ := unF_bit.mp h
        exact ⟨j, by omega, h2⟩
    · rintro ⟨j, h1, h2, h3⟩
      by_cases e : j = n
      · subst e; rw [if_pos h2, Nat.testBit_or, h3, Bool.or_true]
      · have := unF_bit.mpr ⟨j, (by omega : j < n), h2, h3⟩
        split
        · rw [Nat.testBit_or, this, Bool.true_or]
        · exact this
def thO (n : Nat) (f : Nat → Nat) : List (Nat × Ob) := [(0, ⟨1, ut n f, true, false, .arr⟩)]
set_option maxRecDepth 10000 in
set_option maxHeartbeats 4000000 in
theorem thenH_spec (n : Nat) (hn : n ≤ 20) (a b : Nat → Nat) (ha : ∀ i, a i < 2 ^ n) (hb : ∀ i, b i < 2 ^ n) : Dm.SpecH Try.prog 69 [.sl 1 (ut n a), .sl 1 (ut n b), .ip [iv .i64 n] 0] [] (fun d o => d = .ref 1 1 0 n ∧ o = [none, some ⟨1, ut n fun i => unF (a i) b n, true, false, .arr⟩]) := by
  refine specH_of_vc mixed Try.func69 c69 (by rw [show Try.f69.ntmps = _ from Try.ntmps69]; simp) ?_
  unfold m69 r69
  have h32 : 2 ^ n ≤ 2 ^ 20 := Nat.pow_le_pow_right (by omega) hn
  repeat' first | (refine Br.dec (fun h => ?_) (fun h => ?_) <;> try (exfalso; omega)) | (refine Br.eqi (fun h => ?_) (fun h => ?_) <;> try (exfalso; omega)) | (simp (disch := (first | omega | (simp only [vlen]; first | done | omega))) only [vut, ↓va0, ↓va1, ↓va2, ↓va3, vb0, vb1, vb2, vb3, vb4, vb5, vb6, vb7, vb8, vb9, vb10, vz0, vz1, vy0, vx0, ↓reduceIte, Nat.reduceBEq, Nat.reduceEqDiff, Nat.reduceLT, Nat.reduceLeDiff, Nat.reduceAdd, Nat.reduceMul, Nat.reduceSub, reduceCtorEq, Int.reduceToNat]) | (refine Br.mk (fun h => ?_) (fun h => ?_)) | (refine BrN.mk (fun h => ?_) ?_) | (refine AltVC.mk ?_ ?_)
  refine LoopVC.mk (X := Nat) (fun i => [(6, .ref 1 1 0 n), (12, iv .i64 i)]) (fun i => [(1, ⟨1, ut n fun i' => if i' < i then unF (a i') b n else 0, true, false, .arr⟩)]) (fun i => n - i) (fun i => i ≤ n) 0 (by omega) ?_ ?_
  · (simp (disch := (first | omega | (simp only [vlen]; first | done | omega))) only [Fits_u, Fits_m, Fits_nil, List.length_append, vut, ↓va0, ↓va1, ↓va2, ↓va3, vb0, vb1, vb2, vb3, vb4, vb5, vb6, vb7, vb8, vb9, vb10, vz0, vz1, vy0, vx0, ↓reduceIte, Nat.reduceBEq, Nat.reduceEqDiff, Nat.reduceLT, Nat.reduceLeDiff, Nat.reduceAdd, Nat.reduceMul, Nat.reduceSub, reduceCtorEq, Int.reduceToNat] <;> (repeat' first | rfl | apply And.intro))
    all_goals trace_state
  · intro i hi
    by_cases hin : i < n
    · repeat' first | (refine Br.dec (fun h => ?_) (fun h => ?_) <;> try (exfalso; omega)) | (refine Br.eqi (fun h => ?_) (fun h => ?_) <;> try (exfalso; omega)) | (simp (disch := (first | omega | (simp only [vlen]; first | done | omega))) only [vut, ↓va0, ↓va1, ↓va2, ↓va3, vb0, vb1, vb2, vb3, vb4, vb5, vb6, vb7, vb8, vb9, vb10, vz0, vz1, vy0, vx0, ↓reduceIte, Nat.reduceBEq, Nat.reduceEqDiff, Nat.reduceLT, Nat.reduceLeDiff, Nat.reduceAdd, Nat.reduceMul, Nat.reduceSub, reduceCtorEq, Int.reduceToNat]) | (refine Br.mk (fun h => ?_) (fun h => ?_)) | (refine BrN.mk (fun h => ?_) ?_) | (refine AltVC.mk ?_ ?_)
      refine LoopVC.mk (X := Nat) (fun j => [(6, .ref 1 1 0 n), (16, iv .i64 j)]) (fun j => [(1, ⟨1, ut n fun i' => if i' = i then unF (a i) b j else if i' < i then unF (a i') b n else 0, true, false, .arr⟩)]) (fun j => n - j) (fun j => j ≤ n) 0 (by omega) ?_ ?_
      · (simp (disch := (first | omega | (simp only [vlen]; first | done | omega))) only [Fits_u, Fits_m, Fits_nil, List.length_append, vut, ↓va0, ↓va1, ↓va2, ↓va3, vb0, vb1, vb2, vb3, vb4, vb5, vb6, vb7, vb8, vb9, vb10, vz0, vz1, vy0, vx0, ↓reduceIte, Nat.reduceBEq, Nat.reduceEqDiff, Nat.reduceLT, Nat.reduceLeDiff, Nat.reduceAdd, Nat.reduceMul, Nat.reduceSub, reduceCtorEq, Int.reduceToNat] <;> (repeat' first | rfl | apply And.intro))
        exact obUt fun j hj => by
          by_cases e : j = i
          · rw [if_pos e, if_neg (by omega)]; rfl
          · rw [if_neg e]
      · intro j hj
        by_cases hjn : j < n
        · have ha1 := ha i
          have hb1 := hb j
          have hu1 := @unF_lt (a i) n b hb j
          have hlen := @ut_len n (fun i' => if i' = i then unF (a i) b j else if i' < i then unF (a i') b n else 0)
          repeat' first | (refine Br.dec (fun h => ?_) (fun h => ?_) <;> try (exfalso; omega)) | (refine Br.eqi (fun h => ?_) (fun h => ?_) <;> try (exfalso; omega)) | (simp (disch := (first | omega | (simp only [vlen]; first | done | omega))) only [vut, ↓va0, ↓va1, ↓va2, ↓va3, vb0, vb1, vb2, vb3, vb4, vb5, vb6, vb7, vb8, vb9, vb10, vz0, vz1, vy0, vx0, ↓reduceIte, Nat.reduceBEq, Nat.reduceEqDiff, Nat.reduceLT, Nat.reduceLeDiff, Nat.reduceAdd, Nat.reduceMul, Nat.reduceSub, reduceCtorEq, Int.reduceToNat]) | (refine Br.mk (fun h => ?_) (fun h => ?_)) | (refine BrN.mk (fun h => ?_) ?_) | (refine AltVC.mk ?_ ?_)
          refine CallVC.eqo (has_spec (a i) j (by omega) (by omega)) (by simp (disch := (first | omega | (simp only [vlen]; first | done | omega))) only [↓va0, ↓va1, ↓va2, ↓va3, vb0, vb1, vb2, vb3, vb4, vb5, vb6, vb7, vb8, vb9, vb10, vz0, vz1, vy0, vx0, ↓reduceIte, Nat.reduceBEq, Nat.reduceEqDiff, Nat.reduceLT, Nat.reduceLeDiff, Nat.reduceAdd, Nat.reduceMul, Nat.reduceSub, reduceCtorEq, Int.reduceToNat]) ?_
          repeat' first | (refine Br.dec (fun h => ?_) (fun h => ?_) <;> try (exfalso; omega)) | (refine Br.eqi (fun h => ?_) (fun h => ?_) <;> try (exfalso; omega)) | (simp (disch := (first | omega | (simp only [vlen]; first | done | omega))) only [vut, ↓va0, ↓va1, ↓va2, ↓va3, vb0, vb1, vb2, vb3, vb4, vb5, vb6, vb7, vb8, vb9, vb10, vz0, vz1, vy0, vx0, ↓reduceIte, Nat.reduceBEq, Nat.reduceEqDiff, Nat.reduceLT, Nat.reduceLeDiff, Nat.reduceAdd, Nat.reduceMul, Nat.reduceSub, reduceCtorEq, Int.reduceToNat]) | (refine Br.mk (fun h => ?_) (fun h => ?_)) | (refine BrN.mk (fun h => ?_) ?_) | (refine AltVC.mk ?_ ?_)
          all_goals
            refine loopK.mk (j + 1) (by simp (disch := (first | omega | (simp only [vlen]; first | done | omega))) only [↓va0, ↓va1, ↓va2, ↓va3, vb0, vb1, vb2, vb3, vb4, vb5, vb6, vb7, vb8, vb9, vb10, vz0, vz1, vy0, vx0, ↓reduceIte, Nat.reduceBEq, Nat.reduceEqDiff, Nat.reduceLT, Nat.reduceLeDiff, Nat.reduceAdd, Nat.reduceMul, Nat.reduceSub, reduceCtorEq, Int.reduceToNat]) (by omega) (by omega) ?_
            (simp (disch := (first | omega | (simp only [vlen]; first | done | omega))) only [Fits_u, Fits_m, Fits_nil, List.length_append, vut, ↓va0, ↓va1, ↓va2, ↓va3, vb0, vb1, vb2, vb3, vb4, vb5, vb6, vb7, vb8, vb9, vb10, vz0, vz1, vy0, vx0, ↓reduceIte, Nat.reduceBEq, Nat.reduceEqDiff, Nat.reduceLT, Nat.reduceLeDiff, Nat.reduceAdd, Nat.reduceMul, Nat.reduceSub, reduceCtorEq, Int.reduceToNat] <;> (repeat' first | rfl | apply And.intro))
            exact obUt fun x hx => by
              by_cases e : x = i
              · simp only [if_pos e, unF, *, if_true, if_false, Bool.false_eq_true]
              · simp only [if_neg e]
        · repeat' first | (refine Br.dec (fun h => ?_) (fun h => ?_) <;> try (exfalso; omega)) | (refine Br.eqi (fun h => ?_) (fun h => ?_) <;> try (exfalso; omega)) | (simp (disch := (first | omega | (simp only [vlen]; first | done | omega))) only [vut, ↓va0, ↓va1, ↓va2, ↓va3, vb0, vb1, vb2, vb3, vb4, vb5, vb6, vb7, vb8, vb9, vb10, vz0, vz1, vy0, vx0, ↓reduceIte, Nat.reduceBEq, Nat.reduceEqDiff, Nat.reduceLT, Nat.reduceLeDiff, Nat.reduceAdd, Nat.reduceMul, Nat.reduceSub, reduceCtorEq, Int.reduceToNat]) | (refine Br.mk (fun h => ?_) (fun h => ?_)) | (refine BrN.mk (fun h => ?_) ?_) | (refine AltVC.mk ?_ ?_)
          refine loopK.mk (i + 1) (by simp (disch := (first | omega | (simp only [vlen]; first | done | omega))) only [↓va0, ↓va1, ↓va2, ↓va3, vb0, vb1, vb2, vb3, vb4, vb5, vb6, vb7, vb8, vb9, vb10, vz0, vz1, vy0, vx0, ↓reduceIte, Nat.reduceBEq, Nat.reduceEqDiff, Nat.reduceLT, Nat.reduceLeDiff, Nat.reduceAdd, Nat.reduceMul, Nat.reduceSub, reduceCtorEq, Int.reduceToNat]) (by omega) (by omega) ?_
          rw [show j = n by omega]
          (simp (disch := (first | omega | (simp only [vlen]; first | done | omega))) only [Fits_u, Fits_m, Fits_nil, List.length_append, vut, ↓va0, ↓va1, ↓va2, ↓va3, vb0, vb1, vb2, vb3, vb4, vb5, vb6, vb7, vb8, vb9, vb10, vz0, vz1, vy0, vx0, ↓reduceIte, Nat.reduceBEq, Nat.reduceEqDiff, Nat.reduceLT, Nat.reduceLeDiff, Nat.reduceAdd, Nat.reduceMul, Nat.reduceSub, reduceCtorEq, Int.reduceToNat] <;> (repeat' first | rfl | apply And.intro))
          exact obUt fun x hx => by
            by_cases e : x = i
            · rw [if_pos e, if_pos (by omega), e]
            · rw [if_neg e]; (repeat' split) <;> first | rfl | omega
    · repeat' first | (refine Br.dec (fun h => ?_) (fun h => ?_) <;> try (exfalso; omega)) | (refine Br.eqi (fun h => ?_) (fun h => ?_) <;> try (exfalso; omega)) | (simp (disch := (first | omega | (simp only [vlen]; first | done | omega))) only [vut, ↓va0, ↓va1, ↓va2, ↓va3, vb0, vb1, vb2, vb3, vb4, vb5, vb6, vb7, vb8, vb9, vb10, vz0, vz1, vy0, vx0, ↓reduceIte, Nat.reduceBEq, Nat.reduceEqDiff, Nat.reduceLT, Nat.reduceLeDiff, Nat.reduceAdd, Nat.reduceMul, Nat.reduceSub, reduceCtorEq, Int.reduceToNat]) | (refine Br.mk (fun h => ?_) (fun h => ?_)) | (refine BrN.mk (fun h => ?_) ?_) | (refine AltVC.mk ?_ ?_)
      exact finH_mk [none, some ⟨1, ut n fun i => unF (a i) b n, true, false, .arr⟩] (by simp) (by simp (disch := (first | omega | (simp only [vlen]; first | done | omega))) only [vut, ↓va0, ↓va1, ↓va2, ↓va3, vb0, vb1, vb2, vb3, vb4, vb5, vb6, vb7, vb8, vb9, vb10, vz0, vz1, vy0, vx0, ↓reduceIte, Nat.reduceBEq, Nat.reduceEqDiff, Nat.reduceLT, Nat.reduceLeDiff, Nat.reduceAdd, Nat.reduceMul, Nat.reduceSub, reduceCtorEq, Int.reduceToNat]) (by
        simp (disch := (first | omega | (simp only [vlen]; first | done | omega))) only [vut, ↓va0, ↓va1, ↓va2, ↓va3, vb0, vb1, vb2, vb3, vb4, vb5, vb6, vb7, vb8, vb9, vb10, vz0, vz1, vy0, vx0, ↓reduceIte, Nat.reduceBEq, Nat.reduceEqDiff, Nat.reduceLT, Nat.reduceLeDiff, Nat.reduceAdd, Nat.reduceMul, Nat.reduceSub, reduceCtorEq, Int.reduceToNat]
        exact obUt fun x hx => by rw [if_pos (by omega)]) ⟨by simp (disch := (first | omega | (simp only [vlen]; first | done | omega))) only [vut, ↓va0, ↓va1, ↓va2, ↓va3, vb0, vb1, vb2, vb3, vb4, vb5, vb6, vb7, vb8, vb9, vb10, vz0, vz1, vy0, vx0, ↓reduceIte, Nat.reduceBEq, Nat.reduceEqDiff, Nat.reduceLT, Nat.reduceLeDiff, Nat.reduceAdd, Nat.reduceMul, Nat.reduceSub, reduceCtorEq, Int.reduceToNat], rfl⟩
theorem ut_pl {n : Nat} {f : Nat → Nat} {fl ow : Bool} {kd : Kd} : (⟨1, ut n f, fl, ow, kd⟩ : Ob).pl = true := by simp [Ob.pl, ut, isV]
theorem then_spec (n : Nat) (hn : n ≤ 20) (a b : Nat → Nat) (ha : ∀ i, a i < 2 ^ n) (hb : ∀ i, b i < 2 ^ n) : SpecN Try.prog 69 [.sl 1 (ut n a), .sl 1 (ut n b), .ip [iv .i64 n] 0] (· = .sl 1 (ut n fun i => unF (a i) b n)) :=
  specN_of (thenH_spec n hn a b ha hb) fun d l ⟨h1, h2⟩ => by
    subst h1 h2
    rw [lf_leaf rfl]
    show (if _ = true then _ else _) = _
    rw [if_pos ut_pl]
    exact viewO_ut
noncomputable def rowM (l : List Dm.Node) (w : List Int) (n k i : Nat) : Nat := setOf (mb l w k i) n
open Classical in
noncomputable def pwS (l : List Dm.Node) (w : List Int) (n a q i : Nat) : Nat := setOf (fun j => decide (Pw (fun x y => y ≤ w.length ∧ Mt l w a x y) q i j)) n
section
variable {l : List Dm.Node} {w : List Int} {n k i : Nat} {K : Int}
theorem rowM_lt : rowM l w n k i < 2 ^ n := setOf_lt
theorem pwS_lt {a q : Nat} : pwS l w n a q i < 2 ^ n := setOf_lt
theorem rowM_bit {j : Nat} (hj : j < n) : (rowM l w n k i).testBit j = mb l w k i j := by unfold rowM; rw [setOf_bit, decide_eq_true hj, Bool.true_and]
theorem rowM_of {S : Nat} (hS : S < 2 ^ n) (h : ∀ j, j < n → S.testBit j = mb l w k i j) : S = rowM l w n k i := set_ext hS h
open Classical in
theorem mb_dec {j : Nat} {p : Prop} [Decidable p] (h : Mt l w k i j ↔ p) : mb l w k i j = decide p := by
  unfold mb; rw [Bool.eq_iff_iff, decide_eq_true_eq, decide_eq_true_eq]; exact h
open Classical in
theorem mb_iff {j : Nat} : mb l w k i j = true ↔ Mt l w k i j := by unfold mb; exact decide_eq_true_iff
theorem two_bit {j : Nat} : (2 ^ i).testBit j = decide (i = j) := by
  by_cases e : i = j
  · subst e; rw [Nat.testBit_two_pow_self]; simp
  · rw [Nat.testBit_two_pow_of_ne e]; simp [e]
theorem row_1 (h : k < l.length) (e : (l.getD k default).kind = 1) : 0 = rowM l w n k i :=
  rowM_of (Nat.pow_pos (by omega)) fun j hj => by
    rw [Nat.zero_testBit, mb_dec (p := False) ⟨fun h2 => mt_1 h e h2, False.elim⟩]; rfl
theorem row_2 (h : k < l.length) (hn : n = w.length + 1) (hi : i < n) (e : (l.getD k default).kind = 2) : 2 ^ i = rowM l w n k i :=
  rowM_of (Nat.pow_lt_pow_right (by omega) hi) fun j hj => by
    rw [two_bit, mb_dec (mt_2 h e (by omega))]
theorem row_3 (h : k < l.length) (hn : n = w.length + 1) (hi : i < n) (e : (l.getD k default).kind = 3) : (if i < w.length ∧ w.getD i 0 = (l.getD k default).a then 2 ^ (i + 1) else 0) = rowM l w n k i := by
  split
  · rename_i hc
    exact rowM_of (Nat.pow_lt_pow_right (by omega) (by omega)) fun j hj => by
      rw [two_bit, mb_dec (mt_3 h e (by omega))]
      exact dec_iff ⟨fun h => ⟨h.symm, hc.2⟩, fun h => h.1.symm⟩
  · rename_i hc
    exact rowM_of (Nat.pow_pos (by omega)) fun j hj => by
      rw [Nat.zero_testBit, mb_dec (mt_3 h e (by omega))]
      exact (decide_eq_false fun h => hc ⟨by omega, h.2⟩).symm
theorem row_4 (hv : NodesOk K l) (h : k < l.length) (hn : n = w.length + 1) (e : (l.getD k default).kind = 4) : unF (rowM l w n (l.getD k default).a.toNat i) (rowM l w n (l.getD k default).b.toNat) n = rowM l w n k i :=
  rowM_of (unF_lt fun j => rowM_lt) fun j hj => by
    rw [Bool.eq_iff_iff, unF_bit, mb_iff, mt_4 hv h e (by omega)]
    constructor
    · rintro ⟨m, h1, h2, h3⟩
      rw [rowM_bit h1, mb_iff] at h2
      rw [rowM_bit hj, mb_iff] at h3
      exact ⟨m, h2.1, h3.1, h2, h3⟩
    · rintro ⟨m, h1, h2, h3, h4⟩
      exact ⟨m, by omega, by rw [rowM_bit (by omega), mb_iff]; exact h3, by rw [rowM_bit hj, mb_iff]; exact h4⟩
theorem row_5 (hv : NodesOk K l) (h : k < l.length) (e : (l.getD k default).kind = 5) : rowM l w n (l.getD k default).a.toNat i ||| rowM l w n (l.getD k default).b.toNat i = rowM l w n k i :=
  rowM_of (Nat.or_lt_two_pow rowM_lt rowM_lt) fun j hj => by
    rw [Nat.testBit_or, Bool.eq_iff_iff, Bool.or_eq_true, rowM_bit hj, rowM_bit hj, mb_iff, mb_iff, mb_iff, mt_5 hv h e]
open Classical in
theorem pwS_zero {a : Nat} (hi : i < n) : 2 ^ i = pwS l w n a 0 i := by
  refine set_ext (Nat.pow_lt_pow_right (by omega) hi) fun j hj => ?_
  rw [two_bit]
  exact dec_iff Iff.rfl
open Classical in
theorem pwS_bit {a q j : Nat} (hj : j < n) : (pwS l w n a q i).testBit j = true ↔ Pw (fun x y => y ≤ w.length ∧ Mt l w a x y) q i j := by
  unfold pwS; rw [setOf_bit, decide_eq_true hj, Bool.true_and, decide_eq_true_eq]
open Classical in
theorem pwS_succ {a q : Nat} (hn : n = w.length + 1) : pwS l w n a q i ||| unF (pwS l w n a q i) (rowM l w n a) n = pwS l w n a (q + 1) i := by
  refine set_ext (Nat.or_lt_two_pow pwS_lt (unF_lt fun j => rowM_lt)) fun j hj => ?_
  rw [Nat.testBit_or, Bool.eq_iff_iff, Bool.or_eq_true, pwS_bit hj, unF_bit, decide_eq_true_eq]
  show _ ↔ (Pw (fun x y => y ≤ w.length ∧ Mt l w a x y) q i j ∨ ∃ m, Pw (fun x y => y ≤ w.length ∧ Mt l w a x y) q i m ∧ j ≤ w.length ∧ Mt l w a m j)
  constructor
  · rintro (h | ⟨m, h1, h2, h3⟩)
    · exact .inl h
    · rw [pwS_bit h1] at h2
      rw [rowM_bit hj, mb_iff] at h3
      exact .inr ⟨m, h2, by omega, h3⟩
  · rintro (h | ⟨m, h1, h2, h3⟩)
    · exact .inl h
    · have hm : m < n := by have := h3.1; omega
      exact .inr ⟨m, hm, by rw [pwS_bit hm]; exact h1, by rw [rowM_bit hj, mb_iff]; exact h3⟩
open Classical in
theorem row_6 (hv : NodesOk K l) (h : k < l.length) (hn : n = w.length + 1) (e : (l.getD k default).kind = 6) : pwS l w n (l.getD k default).a.toNat n i = rowM l w n k i :=
  rowM_of pwS_lt fun j hj => by
    rw [Bool.eq_iff_iff, pwS_bit hj, mb_iff, mt_6p hv h e (by omega), hn]
    exact ⟨fun h => ⟨pw_le (fun a b h => h.2.1) h, h⟩, fun h => h.2⟩
end
theorem tabD_succ {n : Nat} {f : Nat → D} : tabD (n + 1) f = tabD n f ++ [[f n]] := by simp [tabD, List.range_succ]
noncomputable def mtO (l : List Dm.Node) (w : List Int) (n k : Nat) : List (Nat × Ob) := [(1, ⟨1, [[iv .i64 n]], true, false, .fix⟩), (2, ⟨1, tabD k fun k' => .sl 1 (ut n (rowM l w n k')), true, false, .arr⟩)]
noncomputable def mtI (l : List Dm.Node) (w : List Int) (n k : Nat) (f : Nat → Nat) : List (Nat × Ob) := [(1, ⟨1, [[iv .i64 n]], true, false, .fix⟩), (2, ⟨1, tabD k fun k' => .sl 1 (ut n (rowM l w n k')), true, false, .arr⟩), (3, ⟨3, [nodD (l.getD k default)], true, false, .fix⟩), (4, ⟨1, ut n f, true, false, .arr⟩)]
set_option maxRecDepth 10000 in
set_option maxHeartbeats 4000000 in
theorem match_spec (k0 : Int) (l : List Dm.Node) (hv : NodesOk k0 l) (hl : 0 < l.length ∧ l.length ≤ 1000) (w : List Int) (n : Nat) (hn : n = w.length + 1) (hn20 : n ≤ 20) : Dm.Spec Try.prog 44 [.sl 3 (tbl nodD l), .sl 1 (i64s w)] (· = .sl 1 (ut n (rowM l w n (l.length - 1)))) := by
  refine spec_of_vc mixed Try.func44 c44 (by rw [show Try.f44.ntmps = _ from Try.ntmps44]; simp) ?_
  unfold m44 r44
  have hn' : (w.length : Int) + 1 = n := by omega
  have h32 : 2 ^ n ≤ 2 ^ 20 := Nat.pow_le_pow_right (by omega) hn20
  repeat' first | (refine Br.dec (fun h => ?_) (fun h => ?_) <;> try (exfalso; omega)) | (refine Br.eqi (fun h => ?_) (fun h => ?_) <;> try (exfalso; omega)) | (simp (disch := (first | omega | (simp only [vlen]; first | done | omega))) only [vut, ↓va0, ↓va1, ↓va2, ↓va3, vb0, vb1, vb2, vb3, vb4, vb5, vb6, vb7, vb8, vb9, vb10, vz0, vz1, vy0, vx0, ↓reduceIte, Nat.reduceBEq, Nat.reduceEqDiff, Nat.reduceLT, Nat.reduceLeDiff, Nat.reduceAdd, Nat.reduceMul, Nat.reduceSub, reduceCtorEq, Int.reduceToNat]) | (refine Br.mk (fun h => ?_) (fun h => ?_)) | (refine BrN.mk (fun h => ?_) ?_) | (refine AltVC.mk ?_ ?_)
  rw [hn']
  refine LoopVC.mk (X := Nat) (fun k => [(6, .clo 69 [.ptr 1 1 0 0]), (7, .ref 2 1 0 k), (24, iv .i64 k)]) (fun k => mtO l w n k) (fun k => l.length - k) (fun k => k ≤ l.length) 0 (by omega) ?_ ?_
  · unfold mtO
    (simp (disch := (first | omega | (simp only [vlen]; first | done | omega))) only [Fits_u, Fits_m, Fits_nil, List.length_append, vut, ↓va0, ↓va1, ↓va2, ↓va3, vb0, vb1, vb2, vb3, vb4, vb5, vb6, vb7, vb8, vb9, vb10, vz0, vz1, vy0, vx0, ↓reduceIte, Nat.reduceBEq, Nat.reduceEqDiff, Nat.reduceLT, Nat.reduceLeDiff, Nat.reduceAdd, Nat.reduceMul, Nat.reduceSub, reduceCtorEq, Int.reduceToNat] <;> (repeat' first | rfl | apply And.intro))
    all_goals trace_state
  · intro k hk
    unfold mtO
    by_cases hkl : k < l.length
    · have hx := hv k hkl
      unfold NodeOk at hx
      obtain ⟨x1, x2, x3, x4, x5⟩ := hx
      have hu := fun i => @rowM_lt l w n (l.getD k default).a.toNat i
      have hu2 := fun i => @rowM_lt l w n (l.getD k default).b.toNat i
      repeat' first | (refine Br.dec (fun h => ?_) (fun h => ?_) <;> try (exfalso; omega)) | (refine Br.eqi (fun h => ?_) (fun h => ?_) <;> try (exfalso; omega)) | (simp (disch := (first | omega | (simp only [vlen]; first | done | omega))) only [vut, ↓va0, ↓va1, ↓va2, ↓va3, vb0, vb1, vb2, vb3, vb4, vb5, vb6, vb7, vb8, vb9, vb10, vz0, vz1, vy0, vx0, ↓reduceIte, Nat.reduceBEq, Nat.reduceEqDiff, Nat.reduceLT, Nat.reduceLeDiff, Nat.reduceAdd, Nat.reduceMul, Nat.reduceSub, reduceCtorEq, Int.reduceToNat]) | (refine Br.mk (fun h => ?_) (fun h => ?_)) | (refine BrN.mk (fun h => ?_) ?_) | (refine AltVC.mk ?_ ?_)
      · refine LoopVC.mk (X := Nat) (fun i => [(6, .clo 69 [.ptr 1 1 0 0]), (7, .ref 2 1 0 k), (10, .ref 4 1 0 n), (35, iv .i64 i)]) (fun i => mtI l w n k fun i' => if i' < i then 2 ^ i' else 0) (fun i => n - i) (fun i => i ≤ n) 0 (by omega) ?_ ?_
        · unfold mtI
          (simp (disch := (first | omega | (simp only [vlen]; first | done | omega))) only [Fits_u, Fits_m, Fits_nil, List.length_append, vut, ↓va0, ↓va1, ↓va2, ↓va3, vb0, vb1, vb2, vb3, vb4, vb5, vb6, vb7, vb8, vb9, vb10, vz0, vz1, vy0, vx0, ↓reduceIte, Nat.reduceBEq, Nat.reduceEqDiff, Nat.reduceLT, Nat.reduceLeDiff, Nat.reduceAdd, Nat.reduceMul, Nat.reduceSub, reduceCtorEq, Int.reduceToNat] <;> (repeat' first | rfl | apply And.intro))
          all_goals trace_state
        · intro i hi
          unfold mtI
          have hlen := @ut_len n (fun i' => if i' < i then 2 ^ i' else 0)
          by_cases hin : i < n
          · repeat' first | (refine Br.dec (fun h => ?_) (fun h => ?_) <;> try (exfalso; omega)) | (refine Br.eqi (fun h => ?_) (fun h => ?_) <;> try (exfalso; omega)) | (simp (disch := (first | omega | (simp only [vlen]; first | done | omega))) only [vut, ↓va0, ↓va1, ↓va2, ↓va3, vb0, vb1, vb2, vb3, vb4, vb5, vb6, vb7, vb8, vb9, vb10, vz0, vz1, vy0, vx0, ↓reduceIte, Nat.reduceBEq, Nat.reduceEqDiff, Nat.reduceLT, Nat.reduceLeDiff, Nat.reduceAdd, Nat.reduceMul, Nat.reduceSub, reduceCtorEq, Int.reduceToNat]) | (refine Br.mk (fun h => ?_) (fun h => ?_)) | (refine BrN.mk (fun h => ?_) ?_) | (refine AltVC.mk ?_ ?_)
            refine loopK.mk (i + 1) (by simp (disch := (first | omega | (simp only [vlen]; first | done | omega))) only [↓va0, ↓va1, ↓va2, ↓va3, vb0, vb1, vb2, vb3, vb4, vb5, vb6, vb7, vb8, vb9, vb10, vz0, vz1, vy0, vx0, ↓reduceIte, Nat.reduceBEq, Nat.reduceEqDiff, Nat.reduceLT, Nat.reduceLeDiff, Nat.reduceAdd, Nat.reduceMul, Nat.reduceSub, reduceCtorEq, Int.reduceToNat]) (by omega) (by omega) ?_
            (simp (disch := (first | omega | (simp only [vlen]; first | done | omega))) only [Fits_u, Fits_m, Fits_nil, List.length_append, vut, ↓va0, ↓va1, ↓va2, ↓va3, vb0, vb1, vb2, vb3, vb4, vb5, vb6, vb7, vb8, vb9, vb10, vz0, vz1, vy0, vx0, ↓reduceIte, Nat.reduceBEq, Nat.reduceEqDiff, Nat.reduceLT, Nat.reduceLeDiff, Nat.reduceAdd, Nat.reduceMul, Nat.reduceSub, reduceCtorEq, Int.reduceToNat] <;> (repeat' first | rfl | apply And.intro))
            exact obUt fun x hx => by
              by_cases e : x = i
              · subst e; rw [if_pos rfl, if_pos (by omega)]
              · rw [if_neg e]; (repeat' split) <;> first | rfl | omega
          · rw [show (ut n fun i' => if i' < i then 2 ^ i' else 0) = ut n (rowM l w n k) from ut_ext fun x hx => by rw [if_pos (by omega), row_2 hkl hn hx (by assumption)]]
            repeat' first | (refine Br.dec (fun h => ?_) (fun h => ?_) <;> try (exfalso; omega)) | (refine Br.eqi (fun h => ?_) (fun h => ?_) <;> try (exfalso; omega)) | (simp (disch := (first | omega | (simp only [vlen]; first | done | omega))) only [vut, ↓va0, ↓va1, ↓va2, ↓va3, vb0, vb1, vb2, vb3, vb4, vb5, vb6, vb7, vb8, vb9, vb10, vz0, vz1, vy0, vx0, ↓reduceIte, Nat.reduceBEq, Nat.reduceEqDiff, Nat.reduceLT, Nat.reduceLeDiff, Nat.reduceAdd, Nat.reduceMul, Nat.reduceSub, reduceCtorEq, Int.reduceToNat]) | (refine Br.mk (fun h => ?_) (fun h => ?_)) | (refine BrN.mk (fun h => ?_) ?_) | (refine AltVC.mk ?_ ?_)
            refine loopK.frz 4 ?_
            repeat' first | (refine Br.dec (fun h => ?_) (fun h => ?_) <;> try (exfalso; omega)) | (refine Br.eqi (fun h => ?_) (fun h => ?_) <;> try (exfalso; omega)) | (simp (disch := (first | omega | (simp only [vlen]; first | done | omega))) only [vut, ↓va0, ↓va1, ↓va2, ↓va3, vb0, vb1, vb2, vb3, vb4, vb5, vb6, vb7, vb8, vb9, vb10, vz0, vz1, vy0, vx0, ↓reduceIte, Nat.reduceBEq, Nat.reduceEqDiff, Nat.reduceLT, Nat.reduceLeDiff, Nat.reduceAdd, Nat.reduceMul, Nat.reduceSub, reduceCtorEq, Int.reduceToNat]) | (refine Br.mk (fun h => ?_) (fun h => ?_)) | (refine BrN.mk (fun h => ?_) ?_) | (refine AltVC.mk ?_ ?_)
            refine loopK.flt 2 ?_
            repeat' first | (refine Br.dec (fun h => ?_) (fun h => ?_) <;> try (exfalso; omega)) | (refine Br.eqi (fun h => ?_) (fun h => ?_) <;> try (exfalso; omega)) | (simp (disch := (first | omega | (simp only [vlen]; first | done | omega))) only [vut, ↓va0, ↓va1, ↓va2, ↓va3, vb0, vb1, vb2, vb3, vb4, vb5, vb6, vb7, vb8, vb9, vb10, vz0, vz1, vy0, vx0, ↓reduceIte, Nat.reduceBEq, Nat.reduceEqDiff, Nat.reduceLT, Nat.reduceLeDiff, Nat.reduceAdd, Nat.reduceMul, Nat.reduceSub, reduceCtorEq, Int.reduceToNat]) | (refine Br.mk (fun h => ?_) (fun h => ?_)) | (refine BrN.mk (fun h => ?_) ?_) | (refine AltVC.mk ?_ ?_)
            refine Chk.mk (tabD_all fun j hj => clo'_sl) ?_
            refine loopK.mk (k + 1) (by simp (disch := (first | omega | (simp only [vlen]; first | done | omega))) only [↓va0, ↓va1, ↓va2, ↓va3, vb0, vb1, vb2, vb3, vb4, vb5, vb6, vb7, vb8, vb9, vb10, vz0, vz1, vy0, vx0, ↓reduceIte, Nat.reduceBEq, Nat.reduceEqDiff, Nat.reduceLT, Nat.reduceLeDiff, Nat.reduceAdd, Nat.reduceMul, Nat.reduceSub, reduceCtorEq, Int.reduceToNat]) (by omega) (by omega) ?_
            rw [tabD_succ]
            (simp (disch := (first | omega | (simp only [vlen]; first | done | omega))) only [Fits_u, Fits_m, Fits_nil, List.length_append, vut, ↓va0, ↓va1, ↓va2, ↓va3, vb0, vb1, vb2, vb3, vb4, vb5, vb6, vb7, vb8, vb9, vb10, vz0, vz1, vy0, vx0, ↓reduceIte, Nat.reduceBEq, Nat.reduceEqDiff, Nat.reduceLT, Nat.reduceLeDiff, Nat.reduceAdd, Nat.reduceMul, Nat.reduceSub, reduceCtorEq, Int.reduceToNat] <;> (repeat' first | rfl | apply And.intro))
            all_goals trace_state
      · refine LoopVC.mk (X := Nat) (fun i => [(6, .clo 69 [.ptr 1 1 0 0]), (7, .ref 2 1 0 k), (10, .ref 4 1 0 n), (48, iv .i64 i)]) (fun i => mtI l w n k fun i' => if i' < i then (if i' < w.length ∧ w.getD i' 0 = (l.getD k default).a then 2 ^ (i' + 1) else 0) else 0) (fun i => w.length - i) (fun i => i ≤ w.length) 0 (by omega) ?_ ?_
        · unfold mtI
          (simp (disch := (first | omega | (simp only [vlen]; first | done | omega))) only [Fits_u, Fits_m, Fits_nil, List.length_append, vut, ↓va0, ↓va1, ↓va2, ↓va3, vb0, vb1, vb2, vb3, vb4, vb5, vb6, vb7, vb8, vb9, vb10, vz0, vz1, vy0, vx0, ↓reduceIte, Nat.reduceBEq, Nat.reduceEqDiff, Nat.reduceLT, Nat.reduceLeDiff, Nat.reduceAdd, Nat.reduceMul, Nat.reduceSub, reduceCtorEq, Int.reduceToNat] <;> (repeat' first | rfl | apply And.intro))
          all_goals trace_state
        · intro i hi
          unfold mtI
          have hlen := @ut_len n (fun i' => if i' < i then (if i' < w.length ∧ w.getD i' 0 = (l.getD k default).a then 2 ^ (i' + 1) else 0) else 0)
          by_cases hin : i < w.length
          · repeat' first | (refine Br.dec (fun h => ?_) (fun h => ?_) <;> try (exfalso; omega)) | (refine Br.eqi (fun h => ?_) (fun h => ?_) <;> try (exfalso; omega)) | (simp (disch := (first | omega | (simp only [vlen]; first | done | omega))) only [vut, ↓va0, ↓va1, ↓va2, ↓va3, vb0, vb1, vb2, vb3, vb4, vb5, vb6, vb7, vb8, vb9, vb10, vz0, vz1, vy0, vx0, ↓reduceIte, Nat.reduceBEq, Nat.reduceEqDiff, Nat.reduceLT, Nat.reduceLeDiff, Nat.reduceAdd, Nat.reduceMul, Nat.reduceSub, reduceCtorEq, Int.reduceToNat]) | (refine Br.mk (fun h => ?_) (fun h => ?_)) | (refine BrN.mk (fun h => ?_) ?_) | (refine AltVC.mk ?_ ?_)
            · refine loopK.mk (i + 1) (by simp (disch := (first | omega | (simp only [vlen]; first | done | omega))) only [↓va0, ↓va1, ↓va2, ↓va3, vb0, vb1, vb2, vb3, vb4, vb5, vb6, vb7, vb8, vb9, vb10, vz0, vz1, vy0, vx0, ↓reduceIte, Nat.reduceBEq, Nat.reduceEqDiff, Nat.reduceLT, Nat.reduceLeDiff, Nat.reduceAdd, Nat.reduceMul, Nat.reduceSub, reduceCtorEq, Int.reduceToNat]) (by omega) (by omega) ?_
              (simp (disch := (first | omega | (simp only [vlen]; first | done | omega))) only [Fits_u, Fits_m, Fits_nil, List.length_append, vut, ↓va0, ↓va1, ↓va2, ↓va3, vb0, vb1, vb2, vb3, vb4, vb5, vb6, vb7, vb8, vb9, vb10, vz0, vz1, vy0, vx0, ↓reduceIte, Nat.reduceBEq, Nat.reduceEqDiff, Nat.reduceLT, Nat.reduceLeDiff, Nat.reduceAdd, Nat.reduceMul, Nat.reduceSub, reduceCtorEq, Int.reduceToNat] <;> (repeat' first | rfl | apply And.intro))
              exact obUt fun x hx => by
                by_cases e : x = i
                · subst e; rw [if_pos rfl, if_pos (by omega), if_pos ⟨hin, by assumption⟩]
                · rw [if_neg e]; by_cases e2 : x < i
                  · simp only [if_pos e2, if_pos (show x < i + 1 by omega)]
                  · simp only [if_neg e2, if_neg (show ¬ x < i + 1 by omega)]
            · refine loopK.mk (i + 1) (by simp (disch := (first | omega | (simp only [vlen]; first | done | omega))) only [↓va0, ↓va1, ↓va2, ↓va3, vb0, vb1, vb2, vb3, vb4, vb5, vb6, vb7, vb8, vb9, vb10, vz0, vz1, vy0, vx0, ↓reduceIte, Nat.reduceBEq, Nat.reduceEqDiff, Nat.reduceLT, Nat.reduceLeDiff, Nat.reduceAdd, Nat.reduceMul, Nat.reduceSub, reduceCtorEq, Int.reduceToNat]) (by omega) (by omega) ?_
              (simp (disch := (first | omega | (simp only [vlen]; first | done | omega))) only [Fits_u, Fits_m, Fits_nil, List.length_append, vut, ↓va0, ↓va1, ↓va2, ↓va3, vb0, vb1, vb2, vb3, vb4, vb5, vb6, vb7, vb8, vb9, vb10, vz0, vz1, vy0, vx0, ↓reduceIte, Nat.reduceBEq, Nat.reduceEqDiff, Nat.reduceLT, Nat.reduceLeDiff, Nat.reduceAdd, Nat.reduceMul, Nat.reduceSub, reduceCtorEq, Int.reduceToNat] <;> (repeat' first | rfl | apply And.intro))
              exact obUt fun x hx => by
                by_cases e : x = i
                · subst e; rw [if_neg (by omega), if_pos (by omega), if_neg (fun h2 => by have := h2.2; contradiction)]
                · by_cases e2 : x < i
                  · simp only [if_pos e2, if_pos (show x < i + 1 by omega)]
                  · simp only [if_neg e2, if_neg (show ¬ x < i + 1 by omega)]
          · rw [show (ut n fun i' => if i' < i then (if i' < w.length ∧ w.getD i' 0 = (l.getD k default).a then 2 ^ (i' + 1) else 0) else 0) = ut n (rowM l w n k) from ut_ext fun x hx => by
              rw [← row_3 hkl hn hx (by assumption)]
              by_cases e2 : x < i
              · rw [if_pos e2]
              · rw [if_neg e2, if_neg (by omega)]]
            repeat' first | (refine Br.dec (fun h => ?_) (fun h => ?_) <;> try (exfalso; omega)) | (refine Br.eqi (fun h => ?_) (fun h => ?_) <;> try (exfalso; omega)) | (simp (disch := (first | omega | (simp only [vlen]; first | done | omega))) only [vut, ↓va0, ↓va1, ↓va2, ↓va3, vb0, vb1, vb2, vb3, vb4, vb5, vb6, vb7, vb8, vb9, vb10, vz0, vz1, vy0, vx0, ↓reduceIte, Nat.reduceBEq, Nat.reduceEqDiff, Nat.reduceLT, Nat.reduceLeDiff, Nat.reduceAdd, Nat.reduceMul, Nat.reduceSub, reduceCtorEq, Int.reduceToNat]) | (refine Br.mk (fun h => ?_) (fun h => ?_)) | (refine BrN.mk (fun h => ?_) ?_) | (refine AltVC.mk ?_ ?_)
            refine loopK.frz 4 ?_
            repeat' first | (refine Br.dec (fun h => ?_) (fun h => ?_) <;> try (exfalso; omega)) | (refine Br.eqi (fun h => ?_) (fun h => ?_) <;> try (exfalso; omega)) | (simp (disch := (first | omega | (simp only [vlen]; first | done | omega))) only [vut, ↓va0, ↓va1, ↓va2, ↓va3, vb0, vb1, vb2, vb3, vb4, vb5, vb6, vb7, vb8, vb9, vb10, vz0, vz1, vy0, vx0, ↓reduceIte, Nat.reduceBEq, Nat.reduceEqDiff, Nat.reduceLT, Nat.reduceLeDiff, Nat.reduceAdd, Nat.reduceMul, Nat.reduceSub, reduceCtorEq, Int.reduceToNat]) | (refine Br.mk (fun h => ?_) (fun h => ?_)) | (refine BrN.mk (fun h => ?_) ?_) | (refine AltVC.mk ?_ ?_)
            refine loopK.flt 2 ?_
            repeat' first | (refine Br.dec (fun h => ?_) (fun h => ?_) <;> try (exfalso; omega)) | (refine Br.eqi (fun h => ?_) (fun h => ?_) <;> try (exfalso; omega)) | (simp (disch := (first | omega | (simp only [vlen]; first | done | omega))) only [vut, ↓va0, ↓va1, ↓va2, ↓va3, vb0, vb1, vb2, vb3, vb4, vb5, vb6, vb7, vb8, vb9, vb10, vz0, vz1, vy0, vx0, ↓reduceIte, Nat.reduceBEq, Nat.reduceEqDiff, Nat.reduceLT, Nat.reduceLeDiff, Nat.reduceAdd, Nat.reduceMul, Nat.reduceSub, reduceCtorEq, Int.reduceToNat]) | (refine Br.mk (fun h => ?_) (fun h => ?_)) | (refine BrN.mk (fun h => ?_) ?_) | (refine AltVC.mk ?_ ?_)
            refine Chk.mk (tabD_all fun j hj => clo'_sl) ?_
            refine loopK.mk (k + 1) (by simp (disch := (first | omega | (simp only [vlen]; first | done | omega))) only [↓va0, ↓va1, ↓va2, ↓va3, vb0, vb1, vb2, vb3, vb4, vb5, vb6, vb7, vb8, vb9, vb10, vz0, vz1, vy0, vx0, ↓reduceIte, Nat.reduceBEq, Nat.reduceEqDiff, Nat.reduceLT, Nat.reduceLeDiff, Nat.reduceAdd, Nat.reduceMul, Nat.reduceSub, reduceCtorEq, Int.reduceToNat]) (by omega) (by omega) ?_
            rw [tabD_succ]
            (simp (disch := (first | omega | (simp only [vlen]; first | done | omega))) only [Fits_u, Fits_m, Fits_nil, List.length_append, vut, ↓va0, ↓va1, ↓va2, ↓va3, vb0, vb1, vb2, vb3, vb4, vb5, vb6, vb7, vb8, vb9, vb10, vz0, vz1, vy0, vx0, ↓reduceIte, Nat.reduceBEq, Nat.reduceEqDiff, Nat.reduceLT, Nat.reduceLeDiff, Nat.reduceAdd, Nat.reduceMul, Nat.reduceSub, reduceCtorEq, Int.reduceToNat] <;> (repeat' first | rfl | apply And.intro))
            all_goals trace_state
      · refine CallVC.fr (then_spec n hn20 _ _ hu hu2) ?_
        rw [show (ut n fun i => unF (rowM l w n (l.getD k default).a.toNat i) (rowM l w n (l.getD k default).b.toNat) n) = ut n (rowM l w n k) from ut_ext fun x hx => row_4 hv hkl hn (by assumption)]
        repeat' first | (refine Br.dec (fun h => ?_) (fun h => ?_) <;> try (exfalso; omega)) | (refine Br.eqi (fun h => ?_) (fun h => ?_) <;> try (exfalso; omega)) | (simp (disch := (first | omega | (simp only [vlen]; first | done | omega))) only [vut, ↓va0, ↓va1, ↓va2, ↓va3, vb0, vb1, vb2, vb3, vb4, vb5, vb6, vb7, vb8, vb9, vb10, vz0, vz1, vy0, vx0, ↓reduceIte, Nat.reduceBEq, Nat.reduceEqDiff, Nat.reduceLT, Nat.reduceLeDiff, Nat.reduceAdd, Nat.reduceMul, Nat.reduceSub, reduceCtorEq, Int.reduceToNat]) | (refine Br.mk (fun h => ?_) (fun h => ?_)) | (refine BrN.mk (fun h => ?_) ?_) | (refine AltVC.mk ?_ ?_)
        refine loopK.mk (k + 1) (by simp (disch := (first | omega | (simp only [vlen]; first | done | omega))) only [↓va0, ↓va1, ↓va2, ↓va3, vb0, vb1, vb2, vb3, vb4, vb5, vb6, vb7, vb8, vb9, vb10, vz0, vz1, vy0, vx0, ↓reduceIte, Nat.reduceBEq, Nat.reduceEqDiff, Nat.reduceLT, Nat.reduceLeDiff, Nat.reduceAdd, Nat.reduceMul, Nat.reduceSub, reduceCtorEq, Int.reduceToNat]) (by omega) (by omega) ?_
        rw [tabD_succ]
        (simp (disch := (first | omega | (simp only [vlen]; first | done | omega))) only [Fits_u, Fits_m, Fits_nil, List.length_append, vut, ↓va0, ↓va1, ↓va2, ↓va3, vb0, vb1, vb2, vb3, vb4, vb5, vb6, vb7, vb8, vb9, vb10, vz0, vz1, vy0, vx0, ↓reduceIte, Nat.reduceBEq, Nat.reduceEqDiff, Nat.reduceLT, Nat.reduceLeDiff, Nat.reduceAdd, Nat.reduceMul, Nat.reduceSub, reduceCtorEq, Int.reduceToNat] <;> (repeat' first | rfl | apply And.intro))
        all_goals trace_state
      · refine LoopVC.mk (X := Nat) (fun i => [(6, .clo 69 [.ptr 1 1 0 0]), (7, .ref 2 1 0 k), (10, .ref 4 1 0 n), (81, iv .i64 i)]) (fun i => mtI l w n k fun i' => if i' < i then rowM l w n k i' else 0) (fun i => n - i) (fun i => i ≤ n) 0 (by omega) ?_ ?_
        · unfold mtI
          (simp (disch := (first | omega | (simp only [vlen]; first | done | omega))) only [Fits_u, Fits_m, Fits_nil, List.length_append, vut, ↓va0, ↓va1, ↓va2, ↓va3, vb0, vb1, vb2, vb3, vb4, vb5, vb6, vb7, vb8, vb9, vb10, vz0, vz1, vy0, vx0, ↓reduceIte, Nat.reduceBEq, Nat.reduceEqDiff, Nat.reduceLT, Nat.reduceLeDiff, Nat.reduceAdd, Nat.reduceMul, Nat.reduceSub, reduceCtorEq, Int.reduceToNat] <;> (repeat' first | rfl | apply And.intro))
          all_goals trace_state
        · intro i hi
          unfold mtI
          have hlen := @ut_len n (fun i' => if i' < i then rowM l w n k i' else 0)
          have hui := hu i
          have hui2 := hu2 i
          by_cases hin : i < n
          · repeat' first | (refine Br.dec (fun h => ?_) (fun h => ?_) <;> try (exfalso; omega)) | (refine Br.eqi (fun h => ?_) (fun h => ?_) <;> try (exfalso; omega)) | (simp (disch := (first | omega | (simp only [vlen]; first | done | omega))) only [vut, ↓va0, ↓va1, ↓va2, ↓va3, vb0, vb1, vb2, vb3, vb4, vb5, vb6, vb7, vb8, vb9, vb10, vz0, vz1, vy0, vx0, ↓reduceIte, Nat.reduceBEq, Nat.reduceEqDiff, Nat.reduceLT, Nat.reduceLeDiff, Nat.reduceAdd, Nat.reduceMul, Nat.reduceSub, reduceCtorEq, Int.reduceToNat]) | (refine Br.mk (fun h => ?_) (fun h => ?_)) | (refine BrN.mk (fun h => ?_) ?_) | (refine AltVC.mk ?_ ?_)
            refine loopK.mk (i + 1) (by simp (disch := (first | omega | (simp only [vlen]; first | done | omega))) only [↓va0, ↓va1, ↓va2, ↓va3, vb0, vb1, vb2, vb3, vb4, vb5, vb6, vb7, vb8, vb9, vb10, vz0, vz1, vy0, vx0, ↓reduceIte, Nat.reduceBEq, Nat.reduceEqDiff, Nat.reduceLT, Nat.reduceLeDiff, Nat.reduceAdd, Nat.reduceMul, Nat.reduceSub, reduceCtorEq, Int.reduceToNat]) (by omega) (by omega) ?_
            (simp (disch := (first | omega | (simp only [vlen]; first | done | omega))) only [Fits_u, Fits_m, Fits_nil, List.length_append, vut, ↓va0, ↓va1, ↓va2, ↓va3, vb0, vb1, vb2, vb3, vb4, vb5, vb6, vb7, vb8, vb9, vb10, vz0, vz1, vy0, vx0, ↓reduceIte, Nat.reduceBEq, Nat.reduceEqDiff, Nat.reduceLT, Nat.reduceLeDiff, Nat.reduceAdd, Nat.reduceMul, Nat.reduceSub, reduceCtorEq, Int.reduceToNat] <;> (repeat' first | rfl | apply And.intro))
            exact obUt fun x hx => by
              by_cases e : x = i
              · subst e; rw [if_pos rfl, if_pos (by omega), row_5 hv hkl (by assumption)]
              · rw [if_neg e]; (repeat' split) <;> first | rfl | omega
          · rw [show (ut n fun i' => if i' < i then rowM l w n k i' else 0) = ut n (rowM l w n k) from ut_ext fun x hx => by rw [if_pos (by omega)]]
            repeat' first | (refine Br.dec (fun h => ?_) (fun h => ?_) <;> try (exfalso; omega)) | (refine Br.eqi (fun h => ?_) (fun h => ?_) <;> try (exfalso; omega)) | (simp (disch := (first | omega | (simp only [vlen]; first | done | omega))) only [vut, ↓va0, ↓va1, ↓va2, ↓va3, vb0, vb1, vb2, vb3, vb4, vb5, vb6, vb7, vb8, vb9, vb10, vz0, vz1, vy0, vx0, ↓reduceIte, Nat.reduceBEq, Nat.reduceEqDiff, Nat.reduceLT, Nat.reduceLeDiff, Nat.reduceAdd, Nat.reduceMul, Nat.reduceSub, reduceCtorEq, Int.reduceToNat]) | (refine Br.mk (fun h => ?_) (fun h => ?_)) | (refine BrN.mk (fun h => ?_) ?_) | (refine AltVC.mk ?_ ?_)
            refine loopK.frz 4 ?_
            repeat' first | (refine Br.dec (fun h => ?_) (fun h => ?_) <;> try (exfalso; omega)) | (refine Br.eqi (fun h => ?_) (fun h => ?_) <;> try (exfalso; omega)) | (simp (disch := (first | omega | (simp only [vlen]; first | done | omega))) only [vut, ↓va0, ↓va1, ↓va2, ↓va3, vb0, vb1, vb2, vb3, vb4, vb5, vb6, vb7, vb8, vb9, vb10, vz0, vz1, vy0, vx0, ↓reduceIte, Nat.reduceBEq, Nat.reduceEqDiff, Nat.reduceLT, Nat.reduceLeDiff, Nat.reduceAdd, Nat.reduceMul, Nat.reduceSub, reduceCtorEq, Int.reduceToNat]) | (refine Br.mk (fun h => ?_) (fun h => ?_)) | (refine BrN.mk (fun h => ?_) ?_) | (refine AltVC.mk ?_ ?_)
            refine loopK.flt 2 ?_
            repeat' first | (refine Br.dec (fun h => ?_) (fun h => ?_) <;> try (exfalso; omega)) | (refine Br.eqi (fun h => ?_) (fun h => ?_) <;> try (exfalso; omega)) | (simp (disch := (first | omega | (simp only [vlen]; first | done | omega))) only [vut, ↓va0, ↓va1, ↓va2, ↓va3, vb0, vb1, vb2, vb3, vb4, vb5, vb6, vb7, vb8, vb9, vb10, vz0, vz1, vy0, vx0, ↓reduceIte, Nat.reduceBEq, Nat.reduceEqDiff, Nat.reduceLT, Nat.reduceLeDiff, Nat.reduceAdd, Nat.reduceMul, Nat.reduceSub, reduceCtorEq, Int.reduceToNat]) | (refine Br.mk (fun h => ?_) (fun h => ?_)) | (refine BrN.mk (fun h => ?_) ?_) | (refine AltVC.mk ?_ ?_)
            refine Chk.mk (tabD_all fun j hj => clo'_sl) ?_
            refine loopK.mk (k + 1) (by simp (disch := (first | omega | (simp only [vlen]; first | done | omega))) only [↓va0, ↓va1, ↓va2, ↓va3, vb0, vb1, vb2, vb3, vb4, vb5, vb6, vb7, vb8, vb9, vb10, vz0, vz1, vy0, vx0, ↓reduceIte, Nat.reduceBEq, Nat.reduceEqDiff, Nat.reduceLT, Nat.reduceLeDiff, Nat.reduceAdd, Nat.reduceMul, Nat.reduceSub, reduceCtorEq, Int.reduceToNat]) (by omega) (by omega) ?_
            rw [tabD_succ]
            (simp (disch := (first | omega | (simp only [vlen]; first | done | omega))) only [Fits_u, Fits_m, Fits_nil, List.length_append, vut, ↓va0, ↓va1, ↓va2, ↓va3, vb0, vb1, vb2, vb3, vb4, vb5, vb6, vb7, vb8, vb9, vb10, vz0, vz1, vy0, vx0, ↓reduceIte, Nat.reduceBEq, Nat.reduceEqDiff, Nat.reduceLT, Nat.reduceLeDiff, Nat.reduceAdd, Nat.reduceMul, Nat.reduceSub, reduceCtorEq, Int.reduceToNat] <;> (repeat' first | rfl | apply And.intro))
            all_goals trace_state
      · refine LoopVC.mk (X := Nat) (fun i => [(6, .clo 69 [.ptr 1 1 0 0]), (7, .ref 2 1 0 k), (10, .ref 4 1 0 n), (108, iv .i64 i)]) (fun i => mtI l w n k fun i' => if i' < i then 2 ^ i' else 0) (fun i => n - i) (fun i => i ≤ n) 0 (by omega) ?_ ?_
        · unfold mtI
          (simp (disch := (first | omega | (simp only [vlen]; first | done | omega))) only [Fits_u, Fits_m, Fits_nil, List.length_append, vut, ↓va0, ↓va1, ↓va2, ↓va3, vb0, vb1, vb2, vb3, vb4, vb5, vb6, vb7, vb8, vb9, vb10, vz0, vz1, vy0, vx0, ↓reduceIte, Nat.reduceBEq, Nat.reduceEqDiff, Nat.reduceLT, Nat.reduceLeDiff, Nat.reduceAdd, Nat.reduceMul, Nat.reduceSub, reduceCtorEq, Int.reduceToNat] <;> (repeat' first | rfl | apply And.intro))
          all_goals trace_state
        · intro i hi
          unfold mtI
          have hlen := @ut_len n (fun i' => if i' < i then 2 ^ i' else 0)
          by_cases hin : i < n
          · repeat' first | (refine Br.dec (fun h => ?_) (fun h => ?_) <;> try (exfalso; omega)) | (refine Br.eqi (fun h => ?_) (fun h => ?_) <;> try (exfalso; omega)) | (simp (disch := (first | omega | (simp only [vlen]; first | done | omega))) only [vut, ↓va0, ↓va1, ↓va2, ↓va3, vb0, vb1, vb2, vb3, vb4, vb5, vb6, vb7, vb8, vb9, vb10, vz0, vz1, vy0, vx0, ↓reduceIte, Nat.reduceBEq, Nat.reduceEqDiff, Nat.reduceLT, Nat.reduceLeDiff, Nat.reduceAdd, Nat.reduceMul, Nat.reduceSub, reduceCtorEq, Int.reduceToNat]) | (refine Br.mk (fun h => ?_) (fun h => ?_)) | (refine BrN.mk (fun h => ?_) ?_) | (refine AltVC.mk ?_ ?_)
            refine loopK.mk (i + 1) (by simp (disch := (first | omega | (simp only [vlen]; first | done | omega))) only [↓va0, ↓va1, ↓va2, ↓va3, vb0, vb1, vb2, vb3, vb4, vb5, vb6, vb7, vb8, vb9, vb10, vz0, vz1, vy0, vx0, ↓reduceIte, Nat.reduceBEq, Nat.reduceEqDiff, Nat.reduceLT, Nat.reduceLeDiff, Nat.reduceAdd, Nat.reduceMul, Nat.reduceSub, reduceCtorEq, Int.reduceToNat]) (by omega) (by omega) ?_
            (simp (disch := (first | omega | (simp only [vlen]; first | done | omega))) only [Fits_u, Fits_m, Fits_nil, List.length_append, vut, ↓va0, ↓va1, ↓va2, ↓va3, vb0, vb1, vb2, vb3, vb4, vb5, vb6, vb7, vb8, vb9, vb10, vz0, vz1, vy0, vx0, ↓reduceIte, Nat.reduceBEq, Nat.reduceEqDiff, Nat.reduceLT, Nat.reduceLeDiff, Nat.reduceAdd, Nat.reduceMul, Nat.reduceSub, reduceCtorEq, Int.reduceToNat] <;> (repeat' first | rfl | apply And.intro))
            exact obUt fun x hx => by
              by_cases e : x = i
              · subst e; rw [if_pos rfl, if_pos (by omega)]
              · rw [if_neg e]; (repeat' split) <;> first | rfl | omega
          · rw [show (ut n fun i' => if i' < i then 2 ^ i' else 0) = ut n (pwS l w n (l.getD k default).a.toNat 0) from ut_ext fun x hx => by rw [if_pos (by omega), ← pwS_zero hx]]
            repeat' first | (refine Br.dec (fun h => ?_) (fun h => ?_) <;> try (exfalso; omega)) | (refine Br.eqi (fun h => ?_) (fun h => ?_) <;> try (exfalso; omega)) | (simp (disch := (first | omega | (simp only [vlen]; first | done | omega))) only [vut, ↓va0, ↓va1, ↓va2, ↓va3, vb0, vb1, vb2, vb3, vb4, vb5, vb6, vb7, vb8, vb9, vb10, vz0, vz1, vy0, vx0, ↓reduceIte, Nat.reduceBEq, Nat.reduceEqDiff, Nat.reduceLT, Nat.reduceLeDiff, Nat.reduceAdd, Nat.reduceMul, Nat.reduceSub, reduceCtorEq, Int.reduceToNat]) | (refine Br.mk (fun h => ?_) (fun h => ?_)) | (refine BrN.mk (fun h => ?_) ?_) | (refine AltVC.mk ?_ ?_)
            refine LoopVC.mk (X := Nat) (fun q => [(6, .clo 69 [.ptr 1 1 0 0]), (7, .ref 2 1 0 k), (10, .ref 4 1 0 n), (118, iv .i64 q)]) (fun q => mtI l w n k (pwS l w n (l.getD k default).a.toNat q)) (fun q => n - q) (fun q => q ≤ n) 0 (by omega) ?_ ?_
            · unfold mtI
              (simp (disch := (first | omega | (simp only [vlen]; first | done | omega))) only [Fits_u, Fits_m, Fits_nil, List.length_append, vut, ↓va0, ↓va1, ↓va2, ↓va3, vb0, vb1, vb2, vb3, vb4, vb5, vb6, vb7, vb8, vb9, vb10, vz0, vz1, vy0, vx0, ↓reduceIte, Nat.reduceBEq, Nat.reduceEqDiff, Nat.reduceLT, Nat.reduceLeDiff, Nat.reduceAdd, Nat.reduceMul, Nat.reduceSub, reduceCtorEq, Int.reduceToNat] <;> (repeat' first | rfl | apply And.intro))
              all_goals trace_state
            · intro q hq
              unfold mtI
              by_cases hqn : q < n
              · have hpq := fun i => @pwS_lt l w n i (l.getD k default).a.toNat q
                repeat' first | (refine Br.dec (fun h => ?_) (fun h => ?_) <;> try (exfalso; omega)) | (refine Br.eqi (fun h => ?_) (fun h => ?_) <;> try (exfalso; omega)) | (simp (disch := (first | omega | (simp only [vlen]; first | done | omega))) only [vut, ↓va0, ↓va1, ↓va2, ↓va3, vb0, vb1, vb2, vb3, vb4, vb5, vb6, vb7, vb8, vb9, vb10, vz0, vz1, vy0, vx0, ↓reduceIte, Nat.reduceBEq, Nat.reduceEqDiff, Nat.reduceLT, Nat.reduceLeDiff, Nat.reduceAdd, Nat.reduceMul, Nat.reduceSub, reduceCtorEq, Int.reduceToNat]) | (refine Br.mk (fun h => ?_) (fun h => ?_)) | (refine BrN.mk (fun h => ?_) ?_) | (refine AltVC.mk ?_ ?_)
                refine CallVC.fr (then_spec n hn20 _ _ hpq hu) ?_
                repeat' first | (refine Br.dec (fun h => ?_) (fun h => ?_) <;> try (exfalso; omega)) | (refine Br.eqi (fun h => ?_) (fun h => ?_) <;> try (exfalso; omega)) | (simp (disch := (first | omega | (simp only [vlen]; first | done | omega))) only [vut, ↓va0, ↓va1, ↓va2, ↓va3, vb0, vb1, vb2, vb3, vb4, vb5, vb6, vb7, vb8, vb9, vb10, vz0, vz1, vy0, vx0, ↓reduceIte, Nat.reduceBEq, Nat.reduceEqDiff, Nat.reduceLT, Nat.reduceLeDiff, Nat.reduceAdd, Nat.reduceMul, Nat.reduceSub, reduceCtorEq, Int.reduceToNat]) | (refine Br.mk (fun h => ?_) (fun h => ?_)) | (refine BrN.mk (fun h => ?_) ?_) | (refine AltVC.mk ?_ ?_)
                refine LoopVC.mk (X := Nat) (fun i => [(6, .clo 69 [.ptr 1 1 0 0]), (7, .ref 2 1 0 k), (10, .ref 4 1 0 n), (129, iv .i64 i)]) (fun i => mtI l w n k fun i' => if i' < i then pwS l w n (l.getD k default).a.toNat (q + 1) i' else pwS l w n (l.getD k default).a.toNat q i') (fun i => n - i) (fun i => i ≤ n) 0 (by omega) ?_ ?_
                · unfold mtI
                  (simp (disch := (first | omega | (simp only [vlen]; first | done | omega))) only [Fits_u, Fits_m, Fits_nil, List.length_append, vut, ↓va0, ↓va1, ↓va2, ↓va3, vb0, vb1, vb2, vb3, vb4, vb5, vb6, vb7, vb8, vb9, vb10, vz0, vz1, vy0, vx0, ↓reduceIte, Nat.reduceBEq, Nat.reduceEqDiff, Nat.reduceLT, Nat.reduceLeDiff, Nat.reduceAdd, Nat.reduceMul, Nat.reduceSub, reduceCtorEq, Int.reduceToNat] <;> (repeat' first | rfl | apply And.intro))
                  all_goals (try exact obUt fun x hx => by rw [if_neg (by omega)])
                · intro i hi
                  unfold mtI
                  have hlen := @ut_len n (fun i' => if i' < i then pwS l w n (l.getD k default).a.toNat (q + 1) i' else pwS l w n (l.getD k default).a.toNat q i')
                  have hpi := hpq i
                  have hun := @unF_lt (pwS l w n (l.getD k default).a.toNat q i) n (rowM l w n (l.getD k default).a.toNat) hu n
                  by_cases hin : i < n
                  · repeat' first | (refine Br.dec (fun h => ?_) (fun h => ?_) <;> try (exfalso; omega)) | (refine Br.eqi (fun h => ?_) (fun h => ?_) <;> try (exfalso; omega)) | (simp (disch := (first | omega | (simp only [vlen]; first | done | omega))) only [vut, ↓va0, ↓va1, ↓va2, ↓va3, vb0, vb1, vb2, vb3, vb4, vb5, vb6, vb7, vb8, vb9, vb10, vz0, vz1, vy0, vx0, ↓reduceIte, Nat.reduceBEq, Nat.reduceEqDiff, Nat.reduceLT, Nat.reduceLeDiff, Nat.reduceAdd, Nat.reduceMul, Nat.reduceSub, reduceCtorEq, Int.reduceToNat]) | (refine Br.mk (fun h => ?_) (fun h => ?_)) | (refine BrN.mk (fun h => ?_) ?_) | (refine AltVC.mk ?_ ?_)
                    refine loopK.mk (i + 1) (by simp (disch := (first | omega | (simp only [vlen]; first | done | omega))) only [↓va0, ↓va1, ↓va2, ↓va3, vb0, vb1, vb2, vb3, vb4, vb5, vb6, vb7, vb8, vb9, vb10, vz0, vz1, vy0, vx0, ↓reduceIte, Nat.reduceBEq, Nat.reduceEqDiff, Nat.reduceLT, Nat.reduceLeDiff, Nat.reduceAdd, Nat.reduceMul, Nat.reduceSub, reduceCtorEq, Int.reduceToNat]) (by omega) (by omega) ?_
                    (simp (disch := (first | omega | (simp only [vlen]; first | done | omega))) only [Fits_u, Fits_m, Fits_nil, List.length_append, vut, ↓va0, ↓va1, ↓va2, ↓va3, vb0, vb1, vb2, vb3, vb4, vb5, vb6, vb7, vb8, vb9, vb10, vz0, vz1, vy0, vx0, ↓reduceIte, Nat.reduceBEq, Nat.reduceEqDiff, Nat.reduceLT, Nat.reduceLeDiff, Nat.reduceAdd, Nat.reduceMul, Nat.reduceSub, reduceCtorEq, Int.reduceToNat] <;> (repeat' first | rfl | apply And.intro))
                    exact obUt fun x hx => by
                      by_cases e : x = i
                      · subst e; rw [if_pos rfl, if_pos (by omega), ← pwS_succ hn]
                      · rw [if_neg e]; (repeat' split) <;> first | rfl | omega
                  · rw [show (ut n fun i' => if i' < i then pwS l w n (l.getD k default).a.toNat (q + 1) i' else pwS l w n (l.getD k default).a.toNat q i') = ut n (pwS l w n (l.getD k default).a.toNat (q + 1)) from ut_ext fun x hx => by rw [if_pos (by omega)]]
                    repeat' first | (refine Br.dec (fun h => ?_) (fun h => ?_) <;> try (exfalso; omega)) | (refine Br.eqi (fun h => ?_) (fun h => ?_) <;> try (exfalso; omega)) | (simp (disch := (first | omega | (simp only [vlen]; first | done | omega))) only [vut, ↓va0, ↓va1, ↓va2, ↓va3, vb0, vb1, vb2, vb3, vb4, vb5, vb6, vb7, vb8, vb9, vb10, vz0, vz1, vy0, vx0, ↓reduceIte, Nat.reduceBEq, Nat.reduceEqDiff, Nat.reduceLT, Nat.reduceLeDiff, Nat.reduceAdd, Nat.reduceMul, Nat.reduceSub, reduceCtorEq, Int.reduceToNat]) | (refine Br.mk (fun h => ?_) (fun h => ?_)) | (refine BrN.mk (fun h => ?_) ?_) | (refine AltVC.mk ?_ ?_)
                    refine loopK.mk (q + 1) (by simp (disch := (first | omega | (simp only [vlen]; first | done | omega))) only [↓va0, ↓va1, ↓va2, ↓va3, vb0, vb1, vb2, vb3, vb4, vb5, vb6, vb7, vb8, vb9, vb10, vz0, vz1, vy0, vx0, ↓reduceIte, Nat.reduceBEq, Nat.reduceEqDiff, Nat.reduceLT, Nat.reduceLeDiff, Nat.reduceAdd, Nat.reduceMul, Nat.reduceSub, reduceCtorEq, Int.reduceToNat]) (by omega) (by omega) ?_
                    (simp (disch := (first | omega | (simp only [vlen]; first | done | omega))) only [Fits_u, Fits_m, Fits_nil, List.length_append, vut, ↓va0, ↓va1, ↓va2, ↓va3, vb0, vb1, vb2, vb3, vb4, vb5, vb6, vb7, vb8, vb9, vb10, vz0, vz1, vy0, vx0, ↓reduceIte, Nat.reduceBEq, Nat.reduceEqDiff, Nat.reduceLT, Nat.reduceLeDiff, Nat.reduceAdd, Nat.reduceMul, Nat.reduceSub, reduceCtorEq, Int.reduceToNat] <;> (repeat' first | rfl | apply And.intro))
                    all_goals trace_state
              · rw [show (ut n (pwS l w n (l.getD k default).a.toNat q)) = ut n (rowM l w n k) from ut_ext fun x hx => by rw [show q = n by omega, row_6 hv hkl hn (by assumption)]]
                repeat' first | (refine Br.dec (fun h => ?_) (fun h => ?_) <;> try (exfalso; omega)) | (refine Br.eqi (fun h => ?_) (fun h => ?_) <;> try (exfalso; omega)) | (simp (disch := (first | omega | (simp only [vlen]; first | done | omega))) only [vut, ↓va0, ↓va1, ↓va2, ↓va3, vb0, vb1, vb2, vb3, vb4, vb5, vb6, vb7, vb8, vb9, vb10, vz0, vz1, vy0, vx0, ↓reduceIte, Nat.reduceBEq, Nat.reduceEqDiff, Nat.reduceLT, Nat.reduceLeDiff, Nat.reduceAdd, Nat.reduceMul, Nat.reduceSub, reduceCtorEq, Int.reduceToNat]) | (refine Br.mk (fun h => ?_) (fun h => ?_)) | (refine BrN.mk (fun h => ?_) ?_) | (refine AltVC.mk ?_ ?_)
                refine loopK.frz 4 ?_
                repeat' first | (refine Br.dec (fun h => ?_) (fun h => ?_) <;> try (exfalso; omega)) | (refine Br.eqi (fun h => ?_) (fun h => ?_) <;> try (exfalso; omega)) | (simp (disch := (first | omega | (simp only [vlen]; first | done | omega))) only [vut, ↓va0, ↓va1, ↓va2, ↓va3, vb0, vb1, vb2, vb3, vb4, vb5, vb6, vb7, vb8, vb9, vb10, vz0, vz1, vy0, vx0, ↓reduceIte, Nat.reduceBEq, Nat.reduceEqDiff, Nat.reduceLT, Nat.reduceLeDiff, Nat.reduceAdd, Nat.reduceMul, Nat.reduceSub, reduceCtorEq, Int.reduceToNat]) | (refine Br.mk (fun h => ?_) (fun h => ?_)) | (refine BrN.mk (fun h => ?_) ?_) | (refine AltVC.mk ?_ ?_)
                refine loopK.flt 2 ?_
                repeat' first | (refine Br.dec (fun h => ?_) (fun h => ?_) <;> try (exfalso; omega)) | (refine Br.eqi (fun h => ?_) (fun h => ?_) <;> try (exfalso; omega)) | (simp (disch := (first | omega | (simp only [vlen]; first | done | omega))) only [vut, ↓va0, ↓va1, ↓va2, ↓va3, vb0, vb1, vb2, vb3, vb4, vb5, vb6, vb7, vb8, vb9, vb10, vz0, vz1, vy0, vx0, ↓reduceIte, Nat.reduceBEq, Nat.reduceEqDiff, Nat.reduceLT, Nat.reduceLeDiff, Nat.reduceAdd, Nat.reduceMul, Nat.reduceSub, reduceCtorEq, Int.reduceToNat]) | (refine Br.mk (fun h => ?_) (fun h => ?_)) | (refine BrN.mk (fun h => ?_) ?_) | (refine AltVC.mk ?_ ?_)
                refine Chk.mk (tabD_all fun j hj => clo'_sl) ?_
                refine loopK.mk (k + 1) (by simp (disch := (first | omega | (simp only [vlen]; first | done | omega))) only [↓va0, ↓va1, ↓va2, ↓va3, vb0, vb1, vb2, vb3, vb4, vb5, vb6, vb7, vb8, vb9, vb10, vz0, vz1, vy0, vx0, ↓reduceIte, Nat.reduceBEq, Nat.reduceEqDiff, Nat.reduceLT, Nat.reduceLeDiff, Nat.reduceAdd, Nat.reduceMul, Nat.reduceSub, reduceCtorEq, Int.reduceToNat]) (by omega) (by omega) ?_
                rw [tabD_succ]
                (simp (disch := (first | omega | (simp only [vlen]; first | done | omega))) only [Fits_u, Fits_m, Fits_nil, List.length_append, vut, ↓va0, ↓va1, ↓va2, ↓va3, vb0, vb1, vb2, vb3, vb4, vb5, vb6, vb7, vb8, vb9, vb10, vz0, vz1, vy0, vx0, ↓reduceIte, Nat.reduceBEq, Nat.reduceEqDiff, Nat.reduceLT, Nat.reduceLeDiff, Nat.reduceAdd, Nat.reduceMul, Nat.reduceSub, reduceCtorEq, Int.reduceToNat] <;> (repeat' first | rfl | apply And.intro))
                all_goals trace_state
      · rw [show (ut n fun _ => 0) = ut n (rowM l w n k) from ut_ext fun x hx => row_1 hkl (by omega)]
        refine loopK.frz 4 ?_
        repeat' first | (refine Br.dec (fun h => ?_) (fun h => ?_) <;> try (exfalso; omega)) | (refine Br.eqi (fun h => ?_) (fun h => ?_) <;> try (exfalso; omega)) | (simp (disch := (first | omega | (simp only [vlen]; first | done | omega))) only [vut, ↓va0, ↓va1, ↓va2, ↓va3, vb0, vb1, vb2, vb3, vb4, vb5, vb6, vb7, vb8, vb9, vb10, vz0, vz1, vy0, vx0, ↓reduceIte, Nat.reduceBEq, Nat.reduceEqDiff, Nat.reduceLT, Nat.reduceLeDiff, Nat.reduceAdd, Nat.reduceMul, Nat.reduceSub, reduceCtorEq, Int.reduceToNat]) | (refine Br.mk (fun h => ?_) (fun h => ?_)) | (refine BrN.mk (fun h => ?_) ?_) | (refine AltVC.mk ?_ ?_)
        refine loopK.flt 2 ?_
        repeat' first | (refine Br.dec (fun h => ?_) (fun h => ?_) <;> try (exfalso; omega)) | (refine Br.eqi (fun h => ?_) (fun h => ?_) <;> try (exfalso; omega)) | (simp (disch := (first | omega | (simp only [vlen]; first | done | omega))) only [vut, ↓va0, ↓va1, ↓va2, ↓va3, vb0, vb1, vb2, vb3, vb4, vb5, vb6, vb7, vb8, vb9, vb10, vz0, vz1, vy0, vx0, ↓reduceIte, Nat.reduceBEq, Nat.reduceEqDiff, Nat.reduceLT, Nat.reduceLeDiff, Nat.reduceAdd, Nat.reduceMul, Nat.reduceSub, reduceCtorEq, Int.reduceToNat]) | (refine Br.mk (fun h => ?_) (fun h => ?_)) | (refine BrN.mk (fun h => ?_) ?_) | (refine AltVC.mk ?_ ?_)
        refine Chk.mk (tabD_all fun j hj => clo'_sl) ?_
        refine loopK.mk (k + 1) (by simp (disch := (first | omega | (simp only [vlen]; first | done | omega))) only [↓va0, ↓va1, ↓va2, ↓va3, vb0, vb1, vb2, vb3, vb4, vb5, vb6, vb7, vb8, vb9, vb10, vz0, vz1, vy0, vx0, ↓reduceIte, Nat.reduceBEq, Nat.reduceEqDiff, Nat.reduceLT, Nat.reduceLeDiff, Nat.reduceAdd, Nat.reduceMul, Nat.reduceSub, reduceCtorEq, Int.reduceToNat]) (by omega) (by omega) ?_
        rw [tabD_succ]
        (simp (disch := (first | omega | (simp only [vlen]; first | done | omega))) only [Fits_u, Fits_m, Fits_nil, List.length_append, vut, ↓va0, ↓va1, ↓va2, ↓va3, vb0, vb1, vb2, vb3, vb4, vb5, vb6, vb7, vb8, vb9, vb10, vz0, vz1, vy0, vx0, ↓reduceIte, Nat.reduceBEq, Nat.reduceEqDiff, Nat.reduceLT, Nat.reduceLeDiff, Nat.reduceAdd, Nat.reduceMul, Nat.reduceSub, reduceCtorEq, Int.reduceToNat] <;> (repeat' first | rfl | apply And.intro))
        all_goals trace_state
    · repeat' first | (refine Br.dec (fun h => ?_) (fun h => ?_) <;> try (exfalso; omega)) | (refine Br.eqi (fun h => ?_) (fun h => ?_) <;> try (exfalso; omega)) | (simp (disch := (first | omega | (simp only [vlen]; first | done | omega))) only [vut, ↓va0, ↓va1, ↓va2, ↓va3, vb0, vb1, vb2, vb3, vb4, vb5, vb6, vb7, vb8, vb9, vb10, vz0, vz1, vy0, vx0, ↓reduceIte, Nat.reduceBEq, Nat.reduceEqDiff, Nat.reduceLT, Nat.reduceLeDiff, Nat.reduceAdd, Nat.reduceMul, Nat.reduceSub, reduceCtorEq, Int.reduceToNat]) | (refine Br.mk (fun h => ?_) (fun h => ?_)) | (refine BrN.mk (fun h => ?_) ?_) | (refine AltVC.mk ?_ ?_)
      refine fin_mk ?_
      rw [show k = l.length by omega]
end Go.Proofs.Ytmhpfgklfpgniaa
