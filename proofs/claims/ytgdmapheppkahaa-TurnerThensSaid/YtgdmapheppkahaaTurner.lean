/-
  Turners: what is wrong with one; the law TurnerChecks.
-/
import Derived.Test.YtgdmapheppkahaaMRun
namespace Go.Proofs.Ytgdmapheppkahaa
open Go.Dm
set_option linter.unusedSimpArgs false
set_option linter.unnecessarySimpa false
set_option linter.unusedVariables false

def t1 (t : Dm.Turner) : Prop := ¬ (1 ≤ t.n ∧ t.n ≤ 7) ∨ ¬ (1 ≤ t.k ∧ t.k ≤ 3) ∨ ¬ (1 ≤ t.l ∧ t.l ≤ 3)
def t2 (t : Dm.Turner) : Prop := (t.next.length : Int) ≠ t.n ∨ (t.out.length : Int) ≠ t.n
def t3 (t : Dm.Turner) : Prop := ∃ i, i < t.n.toNat ∧ (((t.next.getD i default).length : Int) ≠ t.k ∨ ((t.out.getD i default).length : Int) ≠ t.k)
def t4 (t : Dm.Turner) : Prop := ∃ i, i < t.n.toNat ∧ ∃ j, j < (t.out.getD i default).length ∧ 4 < ((t.out.getD i default).getD j default).length
def bs (t : Dm.Turner) (x : Int) : Bool := decide (x < 0 ∨ t.n ≤ x)
def tB (t : Dm.Turner) (i s : Nat) : Bool := bs t ((t.next.getD i default).getD s 0) || (((t.out.getD i default).getD s default).any (badSym t.l))
def t5 (t : Dm.Turner) : Prop := bs t t.start = true ∨ ∃ i, i < t.n.toNat ∧ ∃ s, s < t.k.toNat ∧ tB t i s = true
theorem any_get {α : Type} [Inhabited α] {p : α → Bool} {l : List α} (h : l.any p = true) : ∃ j, j < l.length ∧ p (l.getD j default) = true := by
  obtain ⟨a, ha, hp⟩ := List.any_eq_true.1 h
  obtain ⟨i, hi, e⟩ := mem_getD ha
  exact ⟨i, hi, by rw [e]; exact hp⟩
theorem any_not {α : Type} [Inhabited α] {p : α → Bool} {l : List α} (h : l.any p = false) {j : Nat} (hj : j < l.length) : p (l.getD j default) = false := by
  cases e : p (l.getD j default)
  · rfl
  · rw [any_hit hj e] at h; cases h
/-- The code of a turner. -/
def TC (t : Dm.Turner) (c : Int) : Prop :=
  (t1 t ∧ c = 1) ∨ (¬ t1 t ∧ ((t2 t ∧ c = 3) ∨ (¬ t2 t ∧ ((t3 t ∧ c = 3) ∨ (¬ t3 t ∧ ((t4 t ∧ c = 1) ∨ (¬ t4 t ∧ ((t5 t ∧ c = 2) ∨ (¬ t5 t ∧ c = 0)))))))))
theorem TC.uniq {t : Dm.Turner} {a b : Int} (ha : TC t a) (hb : TC t b) : a = b := by
  unfold TC at ha hb
  rcases ha with ⟨h, ha⟩ | ⟨h, ⟨g, ha⟩ | ⟨g, ⟨k, ha⟩ | ⟨k, ⟨l, ha⟩ | ⟨l, ⟨o, ha⟩ | ⟨o, ha⟩⟩⟩⟩⟩ <;>
  rcases hb with ⟨h', hb⟩ | ⟨h', ⟨g', hb⟩ | ⟨g', ⟨k', hb⟩ | ⟨k', ⟨l', hb⟩ | ⟨l', ⟨o', hb⟩ | ⟨o', hb⟩⟩⟩⟩⟩ <;>
  first
    | contradiction
    | omega
set_option maxRecDepth 10000 in
set_option maxHeartbeats 4000000 in
theorem twithin_spec (n m : Int) : Dm.Spec Try.prog 58 [iv .i64 n, iv .i64 m] (· = .v (.bool (decide (1 ≤ n ∧ n ≤ m)))) := by
  refine spec_of_vc mixed Try.func58 c58 (by rw [show Try.f58.ntmps = _ from Try.ntmps58]; simp) ?_
  unfold m58 r58
  repeat' first | (refine Br.dec (fun h => ?_) (fun h => ?_) <;> try (exfalso; omega)) | (refine Br.eqi (fun h => ?_) (fun h => ?_) <;> try (exfalso; omega)) | (simp (disch := (first | omega | (simp only [vlen]; first | done | omega))) only [↓va0, ↓va1, ↓va2, ↓va3, vb0, vb1, vb2, vb3, vb4, vb5, vb6, vb7, vb8, vb9, vb10, vz0, vz1, vy0, vx0, ↓reduceIte, Nat.reduceBEq, Nat.reduceEqDiff, Nat.reduceLT, Nat.reduceLeDiff, Nat.reduceAdd, Nat.reduceMul, Nat.reduceSub, reduceCtorEq, Int.reduceToNat]) | (refine Br.mk (fun h => ?_) (fun h => ?_)) | (refine BrN.mk (fun h => ?_) ?_) | (refine AltVC.mk ?_ ?_)
  · exact fin_mk (vbEq (dec_iff (by omega)))
  · exact fin_mk (vbEq (decide_eq_false (by omega)).symm)
set_option maxRecDepth 10000 in
set_option maxHeartbeats 4000000 in
theorem tlong_spec (w : List Int) (hw : w.length ≤ 9223372036854775807) : Dm.Spec Try.prog 59 [.sl 1 (i64s w)] (· = .v (.bool (decide (4 < w.length)))) := by
  refine spec_of_vc mixed Try.func59 c59 (by rw [show Try.f59.ntmps = _ from Try.ntmps59]; simp) ?_
  unfold m59 r59
  repeat' first | (refine Br.dec (fun h => ?_) (fun h => ?_) <;> try (exfalso; omega)) | (refine Br.eqi (fun h => ?_) (fun h => ?_) <;> try (exfalso; omega)) | (simp (disch := (first | omega | (simp only [vlen]; first | done | omega))) only [↓va0, ↓va1, ↓va2, ↓va3, vb0, vb1, vb2, vb3, vb4, vb5, vb6, vb7, vb8, vb9, vb10, vz0, vz1, vy0, vx0, ↓reduceIte, Nat.reduceBEq, Nat.reduceEqDiff, Nat.reduceLT, Nat.reduceLeDiff, Nat.reduceAdd, Nat.reduceMul, Nat.reduceSub, reduceCtorEq, Int.reduceToNat]) | (refine Br.mk (fun h => ?_) (fun h => ?_)) | (refine BrN.mk (fun h => ?_) ?_) | (refine AltVC.mk ?_ ?_)
  exact fin_mk (vbEq (dec_iff (by omega)))
set_option maxRecDepth 10000 in
set_option maxHeartbeats 4000000 in
theorem tstate_spec (t : Dm.Turner) (x : Int) : Dm.Spec Try.prog 61 [iv .i64 x, .ip (turD t) 0] (· = .v (.bool (bs t x))) := by
  refine spec_of_vc mixed Try.func61 c61 (by rw [show Try.f61.ntmps = _ from Try.ntmps61]; simp) ?_
  unfold m61 r61
  unfold bs
  repeat' first | (refine Br.dec (fun h => ?_) (fun h => ?_) <;> try (exfalso; omega)) | (refine Br.eqi (fun h => ?_) (fun h => ?_) <;> try (exfalso; omega)) | (simp (disch := (first | omega | (simp only [vlen]; first | done | omega))) only [↓va0, ↓va1, ↓va2, ↓va3, vb0, vb1, vb2, vb3, vb4, vb5, vb6, vb7, vb8, vb9, vb10, vz0, vz1, vy0, vx0, ↓reduceIte, Nat.reduceBEq, Nat.reduceEqDiff, Nat.reduceLT, Nat.reduceLeDiff, Nat.reduceAdd, Nat.reduceMul, Nat.reduceSub, reduceCtorEq, Int.reduceToNat]) | (refine Br.mk (fun h => ?_) (fun h => ?_)) | (refine BrN.mk (fun h => ?_) ?_) | (refine AltVC.mk ?_ ?_)
  all_goals first
    | exact fin_mk (vbEq (decide_eq_true (by omega)).symm)
    | exact fin_mk (vbEq (dec_iff (by omega)))
abbrev tuOb (t : Dm.Turner) : Ob := ⟨6, [[iv .i64 t.n, iv .i64 t.k, iv .i64 t.l, .sl 1 (rows i64s t.next), .sl 1 (rows (rows i64s) t.out), iv .i64 t.start]], true, false, .fix⟩
set_option maxRecDepth 10000 in
set_option maxHeartbeats 4000000 in
theorem tcheck1 (t : Dm.Turner) (ht : t.ok) : Dm.Spec Try.prog 36 [.ag (turD t)] (fun d => ∃ c, d = iv .i64 c ∧ TC t c) := by
  refine spec_of_vc mixed Try.func36 c36 (by rw [show Try.f36.ntmps = _ from Try.ntmps36]; simp) ?_
  unfold m36 r36
  have hr : t.next.length ≤ 9223372036854775807 := maxLen_le ht.2.2.2.1.1
  have hq : ∀ r, r ∈ t.next → r.length ≤ 9223372036854775807 := fun r h => maxLen_le (ht.2.2.2.1.2 r h).1
  have ho : t.out.length ≤ 9223372036854775807 := maxLen_le ht.2.2.2.2.1.1
  have hp : ∀ r, r ∈ t.out → r.length ≤ 9223372036854775807 := fun r h => maxLen_le (ht.2.2.2.2.1.2 r h).1
  have hw : ∀ r, r ∈ t.out → ∀ w, w ∈ r → w.length ≤ 9223372036854775807 := fun r h w hw => maxLen_le ((ht.2.2.2.2.1.2 r h).2 w hw).1
  have f1 : t1 t → TC t 1 := fun h => .inl ⟨h, rfl⟩
  repeat' first | (refine Br.dec (fun h => ?_) (fun h => ?_) <;> try (exfalso; omega)) | (refine Br.eqi (fun h => ?_) (fun h => ?_) <;> try (exfalso; omega)) | (simp (disch := (first | omega | (simp only [vlen]; first | done | omega))) only [↓va0, ↓va1, ↓va2, ↓va3, vb0, vb1, vb2, vb3, vb4, vb5, vb6, vb7, vb8, vb9, vb10, vz0, vz1, vy0, vx0, ↓reduceIte, Nat.reduceBEq, Nat.reduceEqDiff, Nat.reduceLT, Nat.reduceLeDiff, Nat.reduceAdd, Nat.reduceMul, Nat.reduceSub, reduceCtorEq, Int.reduceToNat]) | (refine Br.mk (fun h => ?_) (fun h => ?_)) | (refine BrN.mk (fun h => ?_) ?_) | (refine AltVC.mk ?_ ?_)
  refine CallVC.eq (twithin_spec _ _) ?_
  repeat' first | (refine Br.dec (fun h => ?_) (fun h => ?_) <;> try (exfalso; omega)) | (refine Br.eqi (fun h => ?_) (fun h => ?_) <;> try (exfalso; omega)) | (simp (disch := (first | omega | (simp only [vlen]; first | done | omega))) only [↓va0, ↓va1, ↓va2, ↓va3, vb0, vb1, vb2, vb3, vb4, vb5, vb6, vb7, vb8, vb9, vb10, vz0, vz1, vy0, vx0, ↓reduceIte, Nat.reduceBEq, Nat.reduceEqDiff, Nat.reduceLT, Nat.reduceLeDiff, Nat.reduceAdd, Nat.reduceMul, Nat.reduceSub, reduceCtorEq, Int.reduceToNat]) | (refine Br.mk (fun h => ?_) (fun h => ?_)) | (refine BrN.mk (fun h => ?_) ?_) | (refine AltVC.mk ?_ ?_)
  rotate_left
  · exact fin_mk ⟨1, rfl, f1 (.inl (by omega))⟩
  refine CallVC.eq (twithin_spec _ _) ?_
  repeat' first | (refine Br.dec (fun h => ?_) (fun h => ?_) <;> try (exfalso; omega)) | (refine Br.eqi (fun h => ?_) (fun h => ?_) <;> try (exfalso; omega)) | (simp (disch := (first | omega | (simp only [vlen]; first | done | omega))) only [↓va0, ↓va1, ↓va2, ↓va3, vb0, vb1, vb2, vb3, vb4, vb5, vb6, vb7, vb8, vb9, vb10, vz0, vz1, vy0, vx0, ↓reduceIte, Nat.reduceBEq, Nat.reduceEqDiff, Nat.reduceLT, Nat.reduceLeDiff, Nat.reduceAdd, Nat.reduceMul, Nat.reduceSub, reduceCtorEq, Int.reduceToNat]) | (refine Br.mk (fun h => ?_) (fun h => ?_)) | (refine BrN.mk (fun h => ?_) ?_) | (refine AltVC.mk ?_ ?_)
  rotate_left
  · exact fin_mk ⟨1, rfl, f1 (.inr (.inl (by omega)))⟩
  refine CallVC.eq (twithin_spec _ _) ?_
  repeat' first | (refine Br.dec (fun h => ?_) (fun h => ?_) <;> try (exfalso; omega)) | (refine Br.eqi (fun h => ?_) (fun h => ?_) <;> try (exfalso; omega)) | (simp (disch := (first | omega | (simp only [vlen]; first | done | omega))) only [↓va0, ↓va1, ↓va2, ↓va3, vb0, vb1, vb2, vb3, vb4, vb5, vb6, vb7, vb8, vb9, vb10, vz0, vz1, vy0, vx0, ↓reduceIte, Nat.reduceBEq, Nat.reduceEqDiff, Nat.reduceLT, Nat.reduceLeDiff, Nat.reduceAdd, Nat.reduceMul, Nat.reduceSub, reduceCtorEq, Int.reduceToNat]) | (refine Br.mk (fun h => ?_) (fun h => ?_)) | (refine BrN.mk (fun h => ?_) ?_) | (refine AltVC.mk ?_ ?_)
  rotate_right
  · exact fin_mk ⟨1, rfl, f1 (.inr (.inr (by omega)))⟩
  all_goals have g1 : ¬ t1 t := (by unfold t1; omega)
  all_goals first
    | exact fin_mk ⟨3, rfl, .inr ⟨g1, .inl ⟨.inl (by omega), rfl⟩⟩⟩
    | exact fin_mk ⟨3, rfl, .inr ⟨g1, .inl ⟨.inr (by omega), rfl⟩⟩⟩
    | skip
  have g2 : ¬ t2 t := (by unfold t2; omega)
  refine LoopVC.mk (X := Nat) (fun i => [(45, iv .i64 i)]) (fun _ => [(0, tuOb t)]) (fun i => t.n.toNat - i) (fun i => i ≤ t.n.toNat ∧ ∀ j, j < i → ¬ (((t.next.getD j default).length : Int) ≠ t.k ∨ ((t.out.getD j default).length : Int) ≠ t.k)) 0 ⟨by omega, by omega⟩ ?_ ?_
  · (simp (disch := (first | omega | (simp only [vlen]; first | done | omega))) only [Fits_u, Fits_m, Fits_nil, List.length_append, ↓va0, ↓va1, ↓va2, ↓va3, vb0, vb1, vb2, vb3, vb4, vb5, vb6, vb7, vb8, vb9, vb10, vz0, vz1, vy0, vx0, ↓reduceIte, Nat.reduceBEq, Nat.reduceEqDiff, Nat.reduceLT, Nat.reduceLeDiff, Nat.reduceAdd, Nat.reduceMul, Nat.reduceSub, reduceCtorEq, Int.reduceToNat] <;> (repeat' first | rfl | apply And.intro))
  · rintro i ⟨h1, h2⟩
    repeat' first | (refine Br.dec (fun h => ?_) (fun h => ?_) <;> try (exfalso; omega)) | (refine Br.eqi (fun h => ?_) (fun h => ?_) <;> try (exfalso; omega)) | (simp (disch := (first | omega | (simp only [vlen]; first | done | omega))) only [↓va0, ↓va1, ↓va2, ↓va3, vb0, vb1, vb2, vb3, vb4, vb5, vb6, vb7, vb8, vb9, vb10, vz0, vz1, vy0, vx0, ↓reduceIte, Nat.reduceBEq, Nat.reduceEqDiff, Nat.reduceLT, Nat.reduceLeDiff, Nat.reduceAdd, Nat.reduceMul, Nat.reduceSub, reduceCtorEq, Int.reduceToNat]) | (refine Br.mk (fun h => ?_) (fun h => ?_)) | (refine BrN.mk (fun h => ?_) ?_) | (refine AltVC.mk ?_ ?_)
    · exact loopK.mk (i + 1) (by simp (disch := (first | omega | (simp only [vlen]; first | done | omega))) only [↓va0, ↓va1, ↓va2, ↓va3, vb0, vb1, vb2, vb3, vb4, vb5, vb6, vb7, vb8, vb9, vb10, vz0, vz1, vy0, vx0, ↓reduceIte, Nat.reduceBEq, Nat.reduceEqDiff, Nat.reduceLT, Nat.reduceLeDiff, Nat.reduceAdd, Nat.reduceMul, Nat.reduceSub, reduceCtorEq, Int.reduceToNat]) ⟨by omega, succ_all h2 (by omega)⟩ (by omega) (by (simp (disch := (first | omega | (simp only [vlen]; first | done | omega))) only [Fits_u, Fits_m, Fits_nil, List.length_append, ↓va0, ↓va1, ↓va2, ↓va3, vb0, vb1, vb2, vb3, vb4, vb5, vb6, vb7, vb8, vb9, vb10, vz0, vz1, vy0, vx0, ↓reduceIte, Nat.reduceBEq, Nat.reduceEqDiff, Nat.reduceLT, Nat.reduceLeDiff, Nat.reduceAdd, Nat.reduceMul, Nat.reduceSub, reduceCtorEq, Int.reduceToNat] <;> (repeat' first | rfl | apply And.intro)))
    · exact fin_mk ⟨3, rfl, .inr ⟨g1, .inr ⟨g2, .inl ⟨⟨i, by omega, .inr (by omega)⟩, rfl⟩⟩⟩⟩
    · exact fin_mk ⟨3, rfl, .inr ⟨g1, .inr ⟨g2, .inl ⟨⟨i, by omega, .inl (by omega)⟩, rfl⟩⟩⟩⟩
    · have g3 : ¬ t3 t := fun ⟨j, a, b⟩ => h2 j (by omega) b
      refine LoopVC.mk (X := Nat) (fun i => [(72, iv .i64 i)]) (fun _ => [(0, tuOb t)]) (fun i => t.out.length - i) (fun i => i ≤ t.out.length ∧ ∀ j, j < i → (t.out.getD j default).any (fun w => decide (4 < w.length)) = false) 0 ⟨by omega, by omega⟩ ?_ ?_
      · (simp (disch := (first | omega | (simp only [vlen]; first | done | omega))) only [Fits_u, Fits_m, Fits_nil, List.length_append, ↓va0, ↓va1, ↓va2, ↓va3, vb0, vb1, vb2, vb3, vb4, vb5, vb6, vb7, vb8, vb9, vb10, vz0, vz1, vy0, vx0, ↓reduceIte, Nat.reduceBEq, Nat.reduceEqDiff, Nat.reduceLT, Nat.reduceLeDiff, Nat.reduceAdd, Nat.reduceMul, Nat.reduceSub, reduceCtorEq, Int.reduceToNat] <;> (repeat' first | rfl | apply And.intro))
      · rintro i ⟨h3, h4⟩
        repeat' first | (refine Br.dec (fun h => ?_) (fun h => ?_) <;> try (exfalso; omega)) | (refine Br.eqi (fun h => ?_) (fun h => ?_) <;> try (exfalso; omega)) | (simp (disch := (first | omega | (simp only [vlen]; first | done | omega))) only [↓va0, ↓va1, ↓va2, ↓va3, vb0, vb1, vb2, vb3, vb4, vb5, vb6, vb7, vb8, vb9, vb10, vz0, vz1, vy0, vx0, ↓reduceIte, Nat.reduceBEq, Nat.reduceEqDiff, Nat.reduceLT, Nat.reduceLeDiff, Nat.reduceAdd, Nat.reduceMul, Nat.reduceSub, reduceCtorEq, Int.reduceToNat]) | (refine Br.mk (fun h => ?_) (fun h => ?_)) | (refine BrN.mk (fun h => ?_) ?_) | (refine AltVC.mk ?_ ?_)
        · have hmem : t.out.getD i default ∈ t.out := getD_mem' (by omega)
          refine CallVC.eqo (conF_ints (t.out.getD i default) (fun w => decide (4 < w.length)) _ [] (hp _ hmem) (by simp (disch := (first | omega | (simp only [vlen]; first | done | omega))) only [↓va0, ↓va1, ↓va2, ↓va3, vb0, vb1, vb2, vb3, vb4, vb5, vb6, vb7, vb8, vb9, vb10, vz0, vz1, vy0, vx0, ↓reduceIte, Nat.reduceBEq, Nat.reduceEqDiff, Nat.reduceLT, Nat.reduceLeDiff, Nat.reduceAdd, Nat.reduceMul, Nat.reduceSub, reduceCtorEq, Int.reduceToNat]) fun w hwm => tlong_spec w (hw _ hmem w hwm)) (by simp (disch := (first | omega | (simp only [vlen]; first | done | omega))) only [↓va0, ↓va1, ↓va2, ↓va3, vb0, vb1, vb2, vb3, vb4, vb5, vb6, vb7, vb8, vb9, vb10, vz0, vz1, vy0, vx0, ↓reduceIte, Nat.reduceBEq, Nat.reduceEqDiff, Nat.reduceLT, Nat.reduceLeDiff, Nat.reduceAdd, Nat.reduceMul, Nat.reduceSub, reduceCtorEq, Int.reduceToNat]) ?_
          repeat' first | (refine Br.dec (fun h => ?_) (fun h => ?_) <;> try (exfalso; omega)) | (refine Br.eqi (fun h => ?_) (fun h => ?_) <;> try (exfalso; omega)) | (simp (disch := (first | omega | (simp only [vlen]; first | done | omega))) only [↓va0, ↓va1, ↓va2, ↓va3, vb0, vb1, vb2, vb3, vb4, vb5, vb6, vb7, vb8, vb9, vb10, vz0, vz1, vy0, vx0, ↓reduceIte, Nat.reduceBEq, Nat.reduceEqDiff, Nat.reduceLT, Nat.reduceLeDiff, Nat.reduceAdd, Nat.reduceMul, Nat.reduceSub, reduceCtorEq, Int.reduceToNat]) | (refine Br.mk (fun h => ?_) (fun h => ?_)) | (refine BrN.mk (fun h => ?_) ?_) | (refine AltVC.mk ?_ ?_)
          · have ⟨j, hj, hh⟩ := any_get (show (t.out.getD i default).any (fun w => decide (4 < w.length)) = true by assumption)
            exact fin_mk ⟨1, rfl, .inr ⟨g1, .inr ⟨g2, .inr ⟨g3, .inl ⟨⟨i, by omega, j, hj, of_decide_eq_true hh⟩, rfl⟩⟩⟩⟩⟩
          · exact loopK.mk (i + 1) (by simp (disch := (first | omega | (simp only [vlen]; first | done | omega))) only [↓va0, ↓va1, ↓va2, ↓va3, vb0, vb1, vb2, vb3, vb4, vb5, vb6, vb7, vb8, vb9, vb10, vz0, vz1, vy0, vx0, ↓reduceIte, Nat.reduceBEq, Nat.reduceEqDiff, Nat.reduceLT, Nat.reduceLeDiff, Nat.reduceAdd, Nat.reduceMul, Nat.reduceSub, reduceCtorEq, Int.reduceToNat]) ⟨by omega, succ_all h4 (by assumption)⟩ (by omega) (by (simp (disch := (first | omega | (simp only [vlen]; first | done | omega))) only [Fits_u, Fits_m, Fits_nil, List.length_append, ↓va0, ↓va1, ↓va2, ↓va3, vb0, vb1, vb2, vb3, vb4, vb5, vb6, vb7, vb8, vb9, vb10, vz0, vz1, vy0, vx0, ↓reduceIte, Nat.reduceBEq, Nat.reduceEqDiff, Nat.reduceLT, Nat.reduceLeDiff, Nat.reduceAdd, Nat.reduceMul, Nat.reduceSub, reduceCtorEq, Int.reduceToNat] <;> (repeat' first | rfl | apply And.intro)))
        all_goals have g4 : ¬ t4 t := (fun ⟨a, ha, j, hj, hh⟩ => absurd (any_not (h4 a (by omega)) hj) (by simp only [decide_eq_false_iff_not, Decidable.not_not]; exact hh))
        · exact fin_mk ⟨2, rfl, .inr ⟨g1, .inr ⟨g2, .inr ⟨g3, .inr ⟨g4, .inl ⟨.inl (decide_eq_true (by omega)), rfl⟩⟩⟩⟩⟩⟩
        · exact fin_mk ⟨2, rfl, .inr ⟨g1, .inr ⟨g2, .inr ⟨g3, .inr ⟨g4, .inl ⟨.inl (decide_eq_true (by omega)), rfl⟩⟩⟩⟩⟩⟩
        · refine LoopVC.mk (X := Nat) (fun i => [(91, iv .i64 i)]) (fun _ => [(0, tuOb t)]) (fun i => t.n.toNat - i) (fun i => i ≤ t.n.toNat ∧ ∀ j, j < i → ((t.next.getD j default).any (bs t) = false ∧ (t.out.getD j default).any (fun w => w.any (badSym t.l)) = false)) 0 ⟨by omega, by omega⟩ ?_ ?_
          · (simp (disch := (first | omega | (simp only [vlen]; first | done | omega))) only [Fits_u, Fits_m, Fits_nil, List.length_append, ↓va0, ↓va1, ↓va2, ↓va3, vb0, vb1, vb2, vb3, vb4, vb5, vb6, vb7, vb8, vb9, vb10, vz0, vz1, vy0, vx0, ↓reduceIte, Nat.reduceBEq, Nat.reduceEqDiff, Nat.reduceLT, Nat.reduceLeDiff, Nat.reduceAdd, Nat.reduceMul, Nat.reduceSub, reduceCtorEq, Int.reduceToNat] <;> (repeat' first | rfl | apply And.intro))
          · rintro a ⟨k1, k2⟩
            repeat' first | (refine Br.dec (fun h => ?_) (fun h => ?_) <;> try (exfalso; omega)) | (refine Br.eqi (fun h => ?_) (fun h => ?_) <;> try (exfalso; omega)) | (simp (disch := (first | omega | (simp only [vlen]; first | done | omega))) only [↓va0, ↓va1, ↓va2, ↓va3, vb0, vb1, vb2, vb3, vb4, vb5, vb6, vb7, vb8, vb9, vb10, vz0, vz1, vy0, vx0, ↓reduceIte, Nat.reduceBEq, Nat.reduceEqDiff, Nat.reduceLT, Nat.reduceLeDiff, Nat.reduceAdd, Nat.reduceMul, Nat.reduceSub, reduceCtorEq, Int.reduceToNat]) | (refine Br.mk (fun h => ?_) (fun h => ?_)) | (refine BrN.mk (fun h => ?_) ?_) | (refine AltVC.mk ?_ ?_)
            · have hmemn : t.next.getD a default ∈ t.next := getD_mem' (by omega)
              have hmemo : t.out.getD a default ∈ t.out := getD_mem' (by omega)
              have hrow : ((t.next.getD a default).length : Int) = t.k ∧ ((t.out.getD a default).length : Int) = t.k := by
                have := h2 a (by omega)
                omega
              refine CallVC.eqo (conF_int (t.next.getD a default) (bs t) _ [.ip (turD t) 0] (hq _ hmemn) (by simp (disch := (first | omega | (simp only [vlen]; first | done | omega))) only [↓va0, ↓va1, ↓va2, ↓va3, vb0, vb1, vb2, vb3, vb4, vb5, vb6, vb7, vb8, vb9, vb10, vz0, vz1, vy0, vx0, ↓reduceIte, Nat.reduceBEq, Nat.reduceEqDiff, Nat.reduceLT, Nat.reduceLeDiff, Nat.reduceAdd, Nat.reduceMul, Nat.reduceSub, reduceCtorEq, Int.reduceToNat]) fun x _ => tstate_spec t x) (by simp (disch := (first | omega | (simp only [vlen]; first | done | omega))) only [↓va0, ↓va1, ↓va2, ↓va3, vb0, vb1, vb2, vb3, vb4, vb5, vb6, vb7, vb8, vb9, vb10, vz0, vz1, vy0, vx0, ↓reduceIte, Nat.reduceBEq, Nat.reduceEqDiff, Nat.reduceLT, Nat.reduceLeDiff, Nat.reduceAdd, Nat.reduceMul, Nat.reduceSub, reduceCtorEq, Int.reduceToNat]) ?_
              repeat' first | (refine Br.dec (fun h => ?_) (fun h => ?_) <;> try (exfalso; omega)) | (refine Br.eqi (fun h => ?_) (fun h => ?_) <;> try (exfalso; omega)) | (simp (disch := (first | omega | (simp only [vlen]; first | done | omega))) only [↓va0, ↓va1, ↓va2, ↓va3, vb0, vb1, vb2, vb3, vb4, vb5, vb6, vb7, vb8, vb9, vb10, vz0, vz1, vy0, vx0, ↓reduceIte, Nat.reduceBEq, Nat.reduceEqDiff, Nat.reduceLT, Nat.reduceLeDiff, Nat.reduceAdd, Nat.reduceMul, Nat.reduceSub, reduceCtorEq, Int.reduceToNat]) | (refine Br.mk (fun h => ?_) (fun h => ?_)) | (refine BrN.mk (fun h => ?_) ?_) | (refine AltVC.mk ?_ ?_)
              · have ⟨j, hj, hh⟩ := any_get (show (t.next.getD a default).any (bs t) = true by assumption)
                exact fin_mk ⟨2, rfl, .inr ⟨g1, .inr ⟨g2, .inr ⟨g3, .inr ⟨g4, .inl ⟨.inr ⟨a, by omega, j, by omega, by unfold tB; rw [Bool.or_eq_true]; exact .inl hh⟩, rfl⟩⟩⟩⟩⟩⟩
              · refine LoopVC.mk (X := Nat) (fun i => [(107, iv .i64 i)]) (fun _ => [(0, tuOb t)]) (fun i => (t.out.getD a default).length - i) (fun i => i ≤ (t.out.getD a default).length ∧ ∀ j, j < i → ((t.out.getD a default).getD j default).any (badSym t.l) = false) 0 ⟨by omega, by omega⟩ ?_ ?_
                · (simp (disch := (first | omega | (simp only [vlen]; first | done | omega))) only [Fits_u, Fits_m, Fits_nil, List.length_append, ↓va0, ↓va1, ↓va2, ↓va3, vb0, vb1, vb2, vb3, vb4, vb5, vb6, vb7, vb8, vb9, vb10, vz0, vz1, vy0, vx0, ↓reduceIte, Nat.reduceBEq, Nat.reduceEqDiff, Nat.reduceLT, Nat.reduceLeDiff, Nat.reduceAdd, Nat.reduceMul, Nat.reduceSub, reduceCtorEq, Int.reduceToNat] <;> (repeat' first | rfl | apply And.intro))
                · rintro b ⟨k3, k4⟩
                  repeat' first | (refine Br.dec (fun h => ?_) (fun h => ?_) <;> try (exfalso; omega)) | (refine Br.eqi (fun h => ?_) (fun h => ?_) <;> try (exfalso; omega)) | (simp (disch := (first | omega | (simp only [vlen]; first | done | omega))) only [↓va0, ↓va1, ↓va2, ↓va3, vb0, vb1, vb2, vb3, vb4, vb5, vb6, vb7, vb8, vb9, vb10, vz0, vz1, vy0, vx0, ↓reduceIte, Nat.reduceBEq, Nat.reduceEqDiff, Nat.reduceLT, Nat.reduceLeDiff, Nat.reduceAdd, Nat.reduceMul, Nat.reduceSub, reduceCtorEq, Int.reduceToNat]) | (refine Br.mk (fun h => ?_) (fun h => ?_)) | (refine BrN.mk (fun h => ?_) ?_) | (refine AltVC.mk ?_ ?_)
                  · have hwl : ¬ 4 < ((t.out.getD a default).getD b default).length := fun h => g4 ⟨a, by omega, b, by omega, h⟩
                    refine CallVC.eq (word_spec t.l (by omega) ((t.out.getD a default).getD b default) (by omega)) ?_
                    have hwc : wcode t.l ((t.out.getD a default).getD b default) = if ((t.out.getD a default).getD b default).any (badSym t.l) = true then 2 else 0 := by rw [wcode, if_neg (by omega)]
                    rw [hwc]
                    by_cases hany : ((t.out.getD a default).getD b default).any (badSym t.l) = true
                    · rw [if_pos hany]
                      repeat' first | (refine Br.dec (fun h => ?_) (fun h => ?_) <;> try (exfalso; omega)) | (refine Br.eqi (fun h => ?_) (fun h => ?_) <;> try (exfalso; omega)) | (simp (disch := (first | omega | (simp only [vlen]; first | done | omega))) only [↓va0, ↓va1, ↓va2, ↓va3, vb0, vb1, vb2, vb3, vb4, vb5, vb6, vb7, vb8, vb9, vb10, vz0, vz1, vy0, vx0, ↓reduceIte, Nat.reduceBEq, Nat.reduceEqDiff, Nat.reduceLT, Nat.reduceLeDiff, Nat.reduceAdd, Nat.reduceMul, Nat.reduceSub, reduceCtorEq, Int.reduceToNat]) | (refine Br.mk (fun h => ?_) (fun h => ?_)) | (refine BrN.mk (fun h => ?_) ?_) | (refine AltVC.mk ?_ ?_)
                      exact fin_mk ⟨2, rfl, .inr ⟨g1, .inr ⟨g2, .inr ⟨g3, .inr ⟨g4, .inl ⟨.inr ⟨a, by omega, b, by omega, by unfold tB; rw [Bool.or_eq_true]; exact .inr hany⟩, rfl⟩⟩⟩⟩⟩⟩
                    · rw [if_neg hany]
                      repeat' first | (refine Br.dec (fun h => ?_) (fun h => ?_) <;> try (exfalso; omega)) | (refine Br.eqi (fun h => ?_) (fun h => ?_) <;> try (exfalso; omega)) | (simp (disch := (first | omega | (simp only [vlen]; first | done | omega))) only [↓va0, ↓va1, ↓va2, ↓va3, vb0, vb1, vb2, vb3, vb4, vb5, vb6, vb7, vb8, vb9, vb10, vz0, vz1, vy0, vx0, ↓reduceIte, Nat.reduceBEq, Nat.reduceEqDiff, Nat.reduceLT, Nat.reduceLeDiff, Nat.reduceAdd, Nat.reduceMul, Nat.reduceSub, reduceCtorEq, Int.reduceToNat]) | (refine Br.mk (fun h => ?_) (fun h => ?_)) | (refine BrN.mk (fun h => ?_) ?_) | (refine AltVC.mk ?_ ?_)
                      exact loopK.mk (b + 1) (by simp (disch := (first | omega | (simp only [vlen]; first | done | omega))) only [↓va0, ↓va1, ↓va2, ↓va3, vb0, vb1, vb2, vb3, vb4, vb5, vb6, vb7, vb8, vb9, vb10, vz0, vz1, vy0, vx0, ↓reduceIte, Nat.reduceBEq, Nat.reduceEqDiff, Nat.reduceLT, Nat.reduceLeDiff, Nat.reduceAdd, Nat.reduceMul, Nat.reduceSub, reduceCtorEq, Int.reduceToNat]) ⟨by omega, succ_all k4 (by simpa using hany)⟩ (by omega) (by (simp (disch := (first | omega | (simp only [vlen]; first | done | omega))) only [Fits_u, Fits_m, Fits_nil, List.length_append, ↓va0, ↓va1, ↓va2, ↓va3, vb0, vb1, vb2, vb3, vb4, vb5, vb6, vb7, vb8, vb9, vb10, vz0, vz1, vy0, vx0, ↓reduceIte, Nat.reduceBEq, Nat.reduceEqDiff, Nat.reduceLT, Nat.reduceLeDiff, Nat.reduceAdd, Nat.reduceMul, Nat.reduceSub, reduceCtorEq, Int.reduceToNat] <;> (repeat' first | rfl | apply And.intro)))
                  · exact loopK.mk (a + 1) (by simp (disch := (first | omega | (simp only [vlen]; first | done | omega))) only [↓va0, ↓va1, ↓va2, ↓va3, vb0, vb1, vb2, vb3, vb4, vb5, vb6, vb7, vb8, vb9, vb10, vz0, vz1, vy0, vx0, ↓reduceIte, Nat.reduceBEq, Nat.reduceEqDiff, Nat.reduceLT, Nat.reduceLeDiff, Nat.reduceAdd, Nat.reduceMul, Nat.reduceSub, reduceCtorEq, Int.reduceToNat]) ⟨by omega, succ_all k2 ⟨by assumption, any_none (i := b) (by omega) k4⟩⟩ (by omega) (by (simp (disch := (first | omega | (simp only [vlen]; first | done | omega))) only [Fits_u, Fits_m, Fits_nil, List.length_append, ↓va0, ↓va1, ↓va2, ↓va3, vb0, vb1, vb2, vb3, vb4, vb5, vb6, vb7, vb8, vb9, vb10, vz0, vz1, vy0, vx0, ↓reduceIte, Nat.reduceBEq, Nat.reduceEqDiff, Nat.reduceLT, Nat.reduceLeDiff, Nat.reduceAdd, Nat.reduceMul, Nat.reduceSub, reduceCtorEq, Int.reduceToNat] <;> (repeat' first | rfl | apply And.intro)))
            · have g5 : ¬ t5 t := by
                rintro (h | ⟨x, hx, y, hy, hh⟩)
                · unfold bs at h; rw [decide_eq_true_eq] at h; omega
                · have hrow := h2 x (by omega)
                  have ⟨q1, q2⟩ := k2 x (by omega)
                  unfold tB at hh
                  rw [Bool.or_eq_true] at hh
                  rcases hh with h | h
                  · have := any_not q1 (j := y) (by omega)
                    rw [show (t.next.getD x default).getD y default = (t.next.getD x default).getD y 0 from rfl] at this
                    rw [this] at h; cases h
                  · have := any_not q2 (j := y) (by omega)
                    rw [this] at h; cases h
              exact fin_mk ⟨0, rfl, .inr ⟨g1, .inr ⟨g2, .inr ⟨g3, .inr ⟨g4, .inr ⟨g5, rfl⟩⟩⟩⟩⟩⟩
def t5p (t : Dm.Turner) (i s : Nat) : Prop := bs t t.start = true ∨ (∃ a, a < i ∧ ∃ c, c < t.k.toNat ∧ tB t a c = true) ∨ ∃ c, c < s ∧ tB t i c = true
theorem t5p_zero {t : Dm.Turner} : bs t t.start = true ↔ t5p t 0 0 := by
  constructor
  · exact .inl
  · rintro (h | ⟨a, h, _⟩ | ⟨a, h, _⟩)
    · exact h
    · omega
    · omega
theorem t5p_row {t : Dm.Turner} {i : Nat} : t5p t i t.k.toNat ↔ t5p t (i + 1) 0 := by
  constructor
  · rintro (h | ⟨a, h, g⟩ | ⟨c, h, g⟩)
    · exact .inl h
    · exact .inr (.inl ⟨a, by omega, g⟩)
    · exact .inr (.inl ⟨i, by omega, c, h, g⟩)
  · rintro (h | ⟨a, h, g⟩ | ⟨c, h, g⟩)
    · exact .inl h
    · by_cases e : a = i
      · subst e; exact .inr (.inr g)
      · exact .inr (.inl ⟨a, by omega, g⟩)
    · omega
theorem t5p_end {t : Dm.Turner} : t5p t t.n.toNat 0 ↔ t5 t := by
  constructor
  · rintro (h | h | ⟨c, h, g⟩)
    · exact .inl h
    · exact .inr h
    · omega
  · rintro (h | h)
    · exact .inl h
    · exact .inr (.inl h)
def t5q (t : Dm.Turner) (i s q : Nat) : Prop := t5p t i s ∨ bs t ((t.next.getD i default).getD s 0) = true ∨ ∃ j, j < q ∧ badSym t.l (((t.out.getD i default).getD s default).getD j 0) = true
theorem t5q_zero {t : Dm.Turner} {i s : Nat} {b : Bool} (h : b = true ↔ t5p t i s) : (b || bs t ((t.next.getD i default).getD s 0)) = true ↔ t5q t i s 0 := by
  rw [Bool.or_eq_true]
  constructor
  · rintro (g | g)
    · exact .inl (h.1 g)
    · exact .inr (.inl g)
  · rintro (g | g | ⟨j, g, _⟩)
    · exact .inl (h.2 g)
    · exact .inr g
    · omega
theorem t5q_succ {t : Dm.Turner} {i s q : Nat} {b : Bool} (h : b = true ↔ t5q t i s q) : (b || badSym t.l (((t.out.getD i default).getD s default).getD q 0)) = true ↔ t5q t i s (q + 1) := by
  rw [Bool.or_eq_true]
  constructor
  · rintro (g | g)
    · rcases h.1 g with g | g | ⟨j, hj, g⟩
      · exact .inl g
      · exact .inr (.inl g)
      · exact .inr (.inr ⟨j, by omega, g⟩)
    · exact .inr (.inr ⟨q, by omega, g⟩)
  · rintro (g | g | ⟨j, hj, g⟩)
    · exact .inl (h.2 (.inl g))
    · exact .inl (h.2 (.inr (.inl g)))
    · by_cases e : j = q
      · subst e; exact .inr g
      · exact .inl (h.2 (.inr (.inr ⟨j, by omega, g⟩)))
theorem t5q_end {t : Dm.Turner} {i s q : Nat} (hq : q = ((t.out.getD i default).getD s default).length) : t5q t i s q ↔ t5p t i (s + 1) := by
  have hB : tB t i s = true ↔ bs t ((t.next.getD i default).getD s 0) = true ∨ ∃ j, j < q ∧ badSym t.l (((t.out.getD i default).getD s default).getD j 0) = true := by
    unfold tB
    rw [Bool.or_eq_true]
    constructor
    · rintro (g | g)
      · exact .inl g
      · obtain ⟨j, hj, hh⟩ := any_get g
        exact .inr ⟨j, by omega, hh⟩
    · rintro (g | ⟨j, hj, hh⟩)
      · exact .inl g
      · exact .inr (any_hit (i := j) (by omega) hh)
  constructor
  · rintro (g | g)
    · rcases g with h | h | ⟨c, h, g⟩
      · exact .inl h
      · exact .inr (.inl h)
      · exact .inr (.inr ⟨c, by omega, g⟩)
    · exact .inr (.inr ⟨s, by omega, hB.2 g⟩)
  · rintro (h | h | ⟨c, h, g⟩)
    · exact .inl (.inl h)
    · exact .inl (.inr (.inl h))
    · by_cases e : c = s
      · subst e; exact .inr (hB.1 g)
      · exact .inl (.inr (.inr ⟨c, by omega, g⟩))
set_option maxRecDepth 10000 in
set_option maxHeartbeats 4000000 in
theorem refT_spec (t : Dm.Turner) (ht : t.ok) : Dm.Spec Try.prog 37 [.ag (turD t)] (fun d => ∃ c, d = iv .i64 c ∧ TC t c) := by
  refine spec_of_vc mixed Try.func37 c37 (by rw [show Try.f37.ntmps = _ from Try.ntmps37]; simp) ?_
  unfold m37 r37
  have hr : t.next.length ≤ 9223372036854775807 := maxLen_le ht.2.2.2.1.1
  have hq : ∀ r, r ∈ t.next → r.length ≤ 9223372036854775807 := fun r h => maxLen_le (ht.2.2.2.1.2 r h).1
  have ho : t.out.length ≤ 9223372036854775807 := maxLen_le ht.2.2.2.2.1.1
  have hp : ∀ r, r ∈ t.out → r.length ≤ 9223372036854775807 := fun r h => maxLen_le (ht.2.2.2.2.1.2 r h).1
  have hw : ∀ r, r ∈ t.out → ∀ w, w ∈ r → w.length ≤ 9223372036854775807 := fun r h w hw => maxLen_le ((ht.2.2.2.2.1.2 r h).2 w hw).1
  have f1 : t1 t → TC t 1 := fun h => .inl ⟨h, rfl⟩
  repeat' first | (refine Br.dec (fun h => ?_) (fun h => ?_) <;> try (exfalso; omega)) | (refine Br.eqi (fun h => ?_) (fun h => ?_) <;> try (exfalso; omega)) | (simp (disch := (first | omega | (simp only [vlen]; first | done | omega))) only [↓va0, ↓va1, ↓va2, ↓va3, vb0, vb1, vb2, vb3, vb4, vb5, vb6, vb7, vb8, vb9, vb10, vz0, vz1, vy0, vx0, ↓reduceIte, Nat.reduceBEq, Nat.reduceEqDiff, Nat.reduceLT, Nat.reduceLeDiff, Nat.reduceAdd, Nat.reduceMul, Nat.reduceSub, reduceCtorEq, Int.reduceToNat]) | (refine Br.mk (fun h => ?_) (fun h => ?_)) | (refine BrN.mk (fun h => ?_) ?_) | (refine AltVC.mk ?_ ?_)
  all_goals first
    | (have g0 : t1 t := (by unfold t1; omega)
       exact fin_mk ⟨1, rfl, f1 g0⟩)
    | skip
  all_goals have g1 : ¬ t1 t := (by unfold t1; omega)
  all_goals first
    | (have g0 : t2 t := (by unfold t2; omega)
       exact fin_mk ⟨3, rfl, .inr ⟨g1, .inl ⟨g0, rfl⟩⟩⟩)
    | skip
  have g2 : ¬ t2 t := (by unfold t2; omega)
  refine LoopVC.mk (X := Nat) (fun i => [(3, iv .i64 i)]) (fun _ => [(0, tuOb t)]) (fun i => t.n.toNat - i) (fun i => i ≤ t.n.toNat ∧ ∀ j, j < i → ¬ (((t.next.getD j default).length : Int) ≠ t.k ∨ ((t.out.getD j default).length : Int) ≠ t.k)) 0 ⟨by omega, by omega⟩ ?_ ?_
  · (simp (disch := (first | omega | (simp only [vlen]; first | done | omega))) only [Fits_u, Fits_m, Fits_nil, List.length_append, ↓va0, ↓va1, ↓va2, ↓va3, vb0, vb1, vb2, vb3, vb4, vb5, vb6, vb7, vb8, vb9, vb10, vz0, vz1, vy0, vx0, ↓reduceIte, Nat.reduceBEq, Nat.reduceEqDiff, Nat.reduceLT, Nat.reduceLeDiff, Nat.reduceAdd, Nat.reduceMul, Nat.reduceSub, reduceCtorEq, Int.reduceToNat] <;> (repeat' first | rfl | apply And.intro))
  · rintro i ⟨h1, h2⟩
    repeat' first | (refine Br.dec (fun h => ?_) (fun h => ?_) <;> try (exfalso; omega)) | (refine Br.eqi (fun h => ?_) (fun h => ?_) <;> try (exfalso; omega)) | (simp (disch := (first | omega | (simp only [vlen]; first | done | omega))) only [↓va0, ↓va1, ↓va2, ↓va3, vb0, vb1, vb2, vb3, vb4, vb5, vb6, vb7, vb8, vb9, vb10, vz0, vz1, vy0, vx0, ↓reduceIte, Nat.reduceBEq, Nat.reduceEqDiff, Nat.reduceLT, Nat.reduceLeDiff, Nat.reduceAdd, Nat.reduceMul, Nat.reduceSub, reduceCtorEq, Int.reduceToNat]) | (refine Br.mk (fun h => ?_) (fun h => ?_)) | (refine BrN.mk (fun h => ?_) ?_) | (refine AltVC.mk ?_ ?_)
    · exact loopK.mk (i + 1) (by simp (disch := (first | omega | (simp only [vlen]; first | done | omega))) only [↓va0, ↓va1, ↓va2, ↓va3, vb0, vb1, vb2, vb3, vb4, vb5, vb6, vb7, vb8, vb9, vb10, vz0, vz1, vy0, vx0, ↓reduceIte, Nat.reduceBEq, Nat.reduceEqDiff, Nat.reduceLT, Nat.reduceLeDiff, Nat.reduceAdd, Nat.reduceMul, Nat.reduceSub, reduceCtorEq, Int.reduceToNat]) ⟨by omega, succ_all h2 (by omega)⟩ (by omega) (by (simp (disch := (first | omega | (simp only [vlen]; first | done | omega))) only [Fits_u, Fits_m, Fits_nil, List.length_append, ↓va0, ↓va1, ↓va2, ↓va3, vb0, vb1, vb2, vb3, vb4, vb5, vb6, vb7, vb8, vb9, vb10, vz0, vz1, vy0, vx0, ↓reduceIte, Nat.reduceBEq, Nat.reduceEqDiff, Nat.reduceLT, Nat.reduceLeDiff, Nat.reduceAdd, Nat.reduceMul, Nat.reduceSub, reduceCtorEq, Int.reduceToNat] <;> (repeat' first | rfl | apply And.intro)))
    · exact fin_mk ⟨3, rfl, .inr ⟨g1, .inr ⟨g2, .inl ⟨⟨i, by omega, .inr (by omega)⟩, rfl⟩⟩⟩⟩
    · exact fin_mk ⟨3, rfl, .inr ⟨g1, .inr ⟨g2, .inl ⟨⟨i, by omega, .inl (by omega)⟩, rfl⟩⟩⟩⟩
    · have g3 : ¬ t3 t := fun ⟨j, a, b⟩ => h2 j (by omega) b
      refine LoopVC.mk (X := Nat) (fun i => [(4, iv .i64 i)]) (fun _ => [(0, tuOb t)]) (fun i => t.n.toNat - i) (fun i => i ≤ t.n.toNat ∧ ∀ j, j < i → ∀ a, a < (t.out.getD j default).length → ¬ 4 < ((t.out.getD j default).getD a default).length) 0 ⟨by omega, by omega⟩ ?_ ?_
      · (simp (disch := (first | omega | (simp only [vlen]; first | done | omega))) only [Fits_u, Fits_m, Fits_nil, List.length_append, ↓va0, ↓va1, ↓va2, ↓va3, vb0, vb1, vb2, vb3, vb4, vb5, vb6, vb7, vb8, vb9, vb10, vz0, vz1, vy0, vx0, ↓reduceIte, Nat.reduceBEq, Nat.reduceEqDiff, Nat.reduceLT, Nat.reduceLeDiff, Nat.reduceAdd, Nat.reduceMul, Nat.reduceSub, reduceCtorEq, Int.reduceToNat] <;> (repeat' first | rfl | apply And.intro))
      · rintro i ⟨h3, h4⟩
        repeat' first | (refine Br.dec (fun h => ?_) (fun h => ?_) <;> try (exfalso; omega)) | (refine Br.eqi (fun h => ?_) (fun h => ?_) <;> try (exfalso; omega)) | (simp (disch := (first | omega | (simp only [vlen]; first | done | omega))) only [↓va0, ↓va1, ↓va2, ↓va3, vb0, vb1, vb2, vb3, vb4, vb5, vb6, vb7, vb8, vb9, vb10, vz0, vz1, vy0, vx0, ↓reduceIte, Nat.reduceBEq, Nat.reduceEqDiff, Nat.reduceLT, Nat.reduceLeDiff, Nat.reduceAdd, Nat.reduceMul, Nat.reduceSub, reduceCtorEq, Int.reduceToNat]) | (refine Br.mk (fun h => ?_) (fun h => ?_)) | (refine BrN.mk (fun h => ?_) ?_) | (refine AltVC.mk ?_ ?_)
        · have hmemo : t.out.getD i default ∈ t.out := getD_mem' (by omega)
          have hpl := hp _ hmemo
          refine LoopVC.mk (X := Nat) (fun i => [(92, iv .i64 i)]) (fun _ => [(0, tuOb t)]) (fun a => (t.out.getD i default).length - a) (fun a => a ≤ (t.out.getD i default).length ∧ ∀ c, c < a → ¬ 4 < ((t.out.getD i default).getD c default).length) 0 ⟨by omega, by omega⟩ ?_ ?_
          · (simp (disch := (first | omega | (simp only [vlen]; first | done | omega))) only [Fits_u, Fits_m, Fits_nil, List.length_append, ↓va0, ↓va1, ↓va2, ↓va3, vb0, vb1, vb2, vb3, vb4, vb5, vb6, vb7, vb8, vb9, vb10, vz0, vz1, vy0, vx0, ↓reduceIte, Nat.reduceBEq, Nat.reduceEqDiff, Nat.reduceLT, Nat.reduceLeDiff, Nat.reduceAdd, Nat.reduceMul, Nat.reduceSub, reduceCtorEq, Int.reduceToNat] <;> (repeat' first | rfl | apply And.intro))
          · rintro a ⟨h5, h6⟩
            repeat' first | (refine Br.dec (fun h => ?_) (fun h => ?_) <;> try (exfalso; omega)) | (refine Br.eqi (fun h => ?_) (fun h => ?_) <;> try (exfalso; omega)) | (simp (disch := (first | omega | (simp only [vlen]; first | done | omega))) only [↓va0, ↓va1, ↓va2, ↓va3, vb0, vb1, vb2, vb3, vb4, vb5, vb6, vb7, vb8, vb9, vb10, vz0, vz1, vy0, vx0, ↓reduceIte, Nat.reduceBEq, Nat.reduceEqDiff, Nat.reduceLT, Nat.reduceLeDiff, Nat.reduceAdd, Nat.reduceMul, Nat.reduceSub, reduceCtorEq, Int.reduceToNat]) | (refine Br.mk (fun h => ?_) (fun h => ?_)) | (refine BrN.mk (fun h => ?_) ?_) | (refine AltVC.mk ?_ ?_)
            · exact fin_mk ⟨1, rfl, .inr ⟨g1, .inr ⟨g2, .inr ⟨g3, .inl ⟨⟨i, by omega, a, by omega, by omega⟩, rfl⟩⟩⟩⟩⟩
            · exact loopK.mk (a + 1) (by simp (disch := (first | omega | (simp only [vlen]; first | done | omega))) only [↓va0, ↓va1, ↓va2, ↓va3, vb0, vb1, vb2, vb3, vb4, vb5, vb6, vb7, vb8, vb9, vb10, vz0, vz1, vy0, vx0, ↓reduceIte, Nat.reduceBEq, Nat.reduceEqDiff, Nat.reduceLT, Nat.reduceLeDiff, Nat.reduceAdd, Nat.reduceMul, Nat.reduceSub, reduceCtorEq, Int.reduceToNat]) ⟨by omega, succ_all h6 (by omega)⟩ (by omega) (by (simp (disch := (first | omega | (simp only [vlen]; first | done | omega))) only [Fits_u, Fits_m, Fits_nil, List.length_append, ↓va0, ↓va1, ↓va2, ↓va3, vb0, vb1, vb2, vb3, vb4, vb5, vb6, vb7, vb8, vb9, vb10, vz0, vz1, vy0, vx0, ↓reduceIte, Nat.reduceBEq, Nat.reduceEqDiff, Nat.reduceLT, Nat.reduceLeDiff, Nat.reduceAdd, Nat.reduceMul, Nat.reduceSub, reduceCtorEq, Int.reduceToNat] <;> (repeat' first | rfl | apply And.intro)))
            · exact loopK.mk (i + 1) (by simp (disch := (first | omega | (simp only [vlen]; first | done | omega))) only [↓va0, ↓va1, ↓va2, ↓va3, vb0, vb1, vb2, vb3, vb4, vb5, vb6, vb7, vb8, vb9, vb10, vz0, vz1, vy0, vx0, ↓reduceIte, Nat.reduceBEq, Nat.reduceEqDiff, Nat.reduceLT, Nat.reduceLeDiff, Nat.reduceAdd, Nat.reduceMul, Nat.reduceSub, reduceCtorEq, Int.reduceToNat]) ⟨by omega, succ_all h4 (fun c hc => h6 c (by omega))⟩ (by omega) (by (simp (disch := (first | omega | (simp only [vlen]; first | done | omega))) only [Fits_u, Fits_m, Fits_nil, List.length_append, ↓va0, ↓va1, ↓va2, ↓va3, vb0, vb1, vb2, vb3, vb4, vb5, vb6, vb7, vb8, vb9, vb10, vz0, vz1, vy0, vx0, ↓reduceIte, Nat.reduceBEq, Nat.reduceEqDiff, Nat.reduceLT, Nat.reduceLeDiff, Nat.reduceAdd, Nat.reduceMul, Nat.reduceSub, reduceCtorEq, Int.reduceToNat] <;> (repeat' first | rfl | apply And.intro)))
        all_goals have g4 : ¬ t4 t := (fun ⟨a, ha, j, hj, hh⟩ => h4 a (by omega) j hj hh)
        all_goals
          refine LoopVC.mk (X := Nat × Bool) (fun x => [(7, .v (.bool x.2)), (8, iv .i64 x.1)]) (fun _ => [(0, tuOb t)]) (fun x => t.n.toNat - x.1) (fun x => x.1 ≤ t.n.toNat ∧ (x.2 = true ↔ t5p t x.1 0)) (0, bs t t.start) ⟨by simp, t5p_zero⟩ ?_ ?_
          · (simp (disch := (first | omega | (simp only [vlen]; first | done | omega))) only [Fits_u, Fits_m, Fits_nil, List.length_append, ↓va0, ↓va1, ↓va2, ↓va3, vb0, vb1, vb2, vb3, vb4, vb5, vb6, vb7, vb8, vb9, vb10, vz0, vz1, vy0, vx0, ↓reduceIte, Nat.reduceBEq, Nat.reduceEqDiff, Nat.reduceLT, Nat.reduceLeDiff, Nat.reduceAdd, Nat.reduceMul, Nat.reduceSub, reduceCtorEq, Int.reduceToNat] <;> (repeat' first | rfl | apply And.intro))
            exact vbEq (by unfold bs; first | exact (decide_eq_true (by omega)).symm | exact dec_iff (by omega))
          · rintro ⟨a, b⟩ ⟨k1, k2⟩
            simp only at k1 k2
            repeat' first | (refine Br.dec (fun h => ?_) (fun h => ?_) <;> try (exfalso; omega)) | (refine Br.eqi (fun h => ?_) (fun h => ?_) <;> try (exfalso; omega)) | (simp (disch := (first | omega | (simp only [vlen]; first | done | omega))) only [↓va0, ↓va1, ↓va2, ↓va3, vb0, vb1, vb2, vb3, vb4, vb5, vb6, vb7, vb8, vb9, vb10, vz0, vz1, vy0, vx0, ↓reduceIte, Nat.reduceBEq, Nat.reduceEqDiff, Nat.reduceLT, Nat.reduceLeDiff, Nat.reduceAdd, Nat.reduceMul, Nat.reduceSub, reduceCtorEq, Int.reduceToNat]) | (refine Br.mk (fun h => ?_) (fun h => ?_)) | (refine BrN.mk (fun h => ?_) ?_) | (refine AltVC.mk ?_ ?_)
            · refine LoopVC.mk (X := Nat × Bool) (fun x => [(7, .v (.bool x.2)), (9, iv .i64 x.1)]) (fun _ => [(0, tuOb t)]) (fun x => t.k.toNat - x.1) (fun x => x.1 ≤ t.k.toNat ∧ (x.2 = true ↔ t5p t a x.1)) (0, b) ⟨by simp, k2⟩ ?_ ?_
              · (simp (disch := (first | omega | (simp only [vlen]; first | done | omega))) only [Fits_u, Fits_m, Fits_nil, List.length_append, ↓va0, ↓va1, ↓va2, ↓va3, vb0, vb1, vb2, vb3, vb4, vb5, vb6, vb7, vb8, vb9, vb10, vz0, vz1, vy0, vx0, ↓reduceIte, Nat.reduceBEq, Nat.reduceEqDiff, Nat.reduceLT, Nat.reduceLeDiff, Nat.reduceAdd, Nat.reduceMul, Nat.reduceSub, reduceCtorEq, Int.reduceToNat] <;> (repeat' first | rfl | apply And.intro))
              · rintro ⟨s, b1⟩ ⟨k3, k4⟩
                simp only at k3 k4
                have hrow : ((t.next.getD a default).length : Int) = t.k ∧ ((t.out.getD a default).length : Int) = t.k := by
                  have := h2 a (by omega)
                  omega
                have hlo : s < t.k.toNat → ¬ 4 < ((t.out.getD a default).getD s default).length := fun hs hh => g4 ⟨a, by omega, s, by omega, hh⟩
                repeat' first | (refine Br.dec (fun h => ?_) (fun h => ?_) <;> try (exfalso; omega)) | (refine Br.eqi (fun h => ?_) (fun h => ?_) <;> try (exfalso; omega)) | (simp (disch := (first | omega | (simp only [vlen]; first | done | omega))) only [↓va0, ↓va1, ↓va2, ↓va3, vb0, vb1, vb2, vb3, vb4, vb5, vb6, vb7, vb8, vb9, vb10, vz0, vz1, vy0, vx0, ↓reduceIte, Nat.reduceBEq, Nat.reduceEqDiff, Nat.reduceLT, Nat.reduceLeDiff, Nat.reduceAdd, Nat.reduceMul, Nat.reduceSub, reduceCtorEq, Int.reduceToNat]) | (refine Br.mk (fun h => ?_) (fun h => ?_)) | (refine BrN.mk (fun h => ?_) ?_) | (refine AltVC.mk ?_ ?_)
                rotate_right
                · exact loopK.mk (a + 1, b1) (by simp (disch := (first | omega | (simp only [vlen]; first | done | omega))) only [↓va0, ↓va1, ↓va2, ↓va3, vb0, vb1, vb2, vb3, vb4, vb5, vb6, vb7, vb8, vb9, vb10, vz0, vz1, vy0, vx0, ↓reduceIte, Nat.reduceBEq, Nat.reduceEqDiff, Nat.reduceLT, Nat.reduceLeDiff, Nat.reduceAdd, Nat.reduceMul, Nat.reduceSub, reduceCtorEq, Int.reduceToNat]) ⟨by simp only; omega, by simp only; rw [← t5p_row, show t.k.toNat = s by omega]; exact k4⟩ (by simp only; omega) (by (simp (disch := (first | omega | (simp only [vlen]; first | done | omega))) only [Fits_u, Fits_m, Fits_nil, List.length_append, ↓va0, ↓va1, ↓va2, ↓va3, vb0, vb1, vb2, vb3, vb4, vb5, vb6, vb7, vb8, vb9, vb10, vz0, vz1, vy0, vx0, ↓reduceIte, Nat.reduceBEq, Nat.reduceEqDiff, Nat.reduceLT, Nat.reduceLeDiff, Nat.reduceAdd, Nat.reduceMul, Nat.reduceSub, reduceCtorEq, Int.reduceToNat] <;> (repeat' first | rfl | apply And.intro)))
                all_goals
                  refine LoopVC.mk (X := Nat × Bool) (fun x => [(7, .v (.bool x.2)), (156, iv .i64 x.1)]) (fun _ => [(0, tuOb t)]) (fun x => ((t.out.getD a default).getD s default).length - x.1) (fun x => x.1 ≤ ((t.out.getD a default).getD s default).length ∧ (x.2 = true ↔ t5q t a s x.1)) (0, b1 || bs t ((t.next.getD a default).getD s 0)) ⟨by simp, t5q_zero k4⟩ ?_ ?_
                  · (simp (disch := (first | omega | (simp only [vlen]; first | done | omega))) only [Fits_u, Fits_m, Fits_nil, List.length_append, ↓va0, ↓va1, ↓va2, ↓va3, vb0, vb1, vb2, vb3, vb4, vb5, vb6, vb7, vb8, vb9, vb10, vz0, vz1, vy0, vx0, ↓reduceIte, Nat.reduceBEq, Nat.reduceEqDiff, Nat.reduceLT, Nat.reduceLeDiff, Nat.reduceAdd, Nat.reduceMul, Nat.reduceSub, reduceCtorEq, Int.reduceToNat] <;> (repeat' first | rfl | apply And.intro))
                    exact vbEq (by
                      first
                      | (rw [show b1 = true by assumption]; rfl)
                      | (rw [show b1 = false by assumption, Bool.false_or]; unfold bs; first | exact (decide_eq_true (by omega)).symm | exact dec_iff (by omega)))
                  · rintro ⟨q, b2⟩ ⟨k5, k6⟩
                    simp only at k5 k6
                    repeat' first | (refine Br.dec (fun h => ?_) (fun h => ?_) <;> try (exfalso; omega)) | (refine Br.eqi (fun h => ?_) (fun h => ?_) <;> try (exfalso; omega)) | (simp (disch := (first | omega | (simp only [vlen]; first | done | omega))) only [↓va0, ↓va1, ↓va2, ↓va3, vb0, vb1, vb2, vb3, vb4, vb5, vb6, vb7, vb8, vb9, vb10, vz0, vz1, vy0, vx0, ↓reduceIte, Nat.reduceBEq, Nat.reduceEqDiff, Nat.reduceLT, Nat.reduceLeDiff, Nat.reduceAdd, Nat.reduceMul, Nat.reduceSub, reduceCtorEq, Int.reduceToNat]) | (refine Br.mk (fun h => ?_) (fun h => ?_)) | (refine BrN.mk (fun h => ?_) ?_) | (refine AltVC.mk ?_ ?_)
                    rotate_right
                    · exact loopK.mk (s + 1, b2) (by simp (disch := (first | omega | (simp only [vlen]; first | done | omega))) only [↓va0, ↓va1, ↓va2, ↓va3, vb0, vb1, vb2, vb3, vb4, vb5, vb6, vb7, vb8, vb9, vb10, vz0, vz1, vy0, vx0, ↓reduceIte, Nat.reduceBEq, Nat.reduceEqDiff, Nat.reduceLT, Nat.reduceLeDiff, Nat.reduceAdd, Nat.reduceMul, Nat.reduceSub, reduceCtorEq, Int.reduceToNat]) ⟨by simp only; omega, by simp only; rw [← t5q_end (q := q) (by omega)]; exact k6⟩ (by simp only; omega) (by (simp (disch := (first | omega | (simp only [vlen]; first | done | omega))) only [Fits_u, Fits_m, Fits_nil, List.length_append, ↓va0, ↓va1, ↓va2, ↓va3, vb0, vb1, vb2, vb3, vb4, vb5, vb6, vb7, vb8, vb9, vb10, vz0, vz1, vy0, vx0, ↓reduceIte, Nat.reduceBEq, Nat.reduceEqDiff, Nat.reduceLT, Nat.reduceLeDiff, Nat.reduceAdd, Nat.reduceMul, Nat.reduceSub, reduceCtorEq, Int.reduceToNat] <;> (repeat' first | rfl | apply And.intro)))
                    all_goals
                      refine loopK.mk (q + 1, b2 || badSym t.l (((t.out.getD a default).getD s default).getD q 0)) (by simp (disch := (first | omega | (simp only [vlen]; first | done | omega))) only [↓va0, ↓va1, ↓va2, ↓va3, vb0, vb1, vb2, vb3, vb4, vb5, vb6, vb7, vb8, vb9, vb10, vz0, vz1, vy0, vx0, ↓reduceIte, Nat.reduceBEq, Nat.reduceEqDiff, Nat.reduceLT, Nat.reduceLeDiff, Nat.reduceAdd, Nat.reduceMul, Nat.reduceSub, reduceCtorEq, Int.reduceToNat]) ⟨by simp only; omega, t5q_succ k6⟩ (by simp only; omega) ?_
                      (simp (disch := (first | omega | (simp only [vlen]; first | done | omega))) only [Fits_u, Fits_m, Fits_nil, List.length_append, ↓va0, ↓va1, ↓va2, ↓va3, vb0, vb1, vb2, vb3, vb4, vb5, vb6, vb7, vb8, vb9, vb10, vz0, vz1, vy0, vx0, ↓reduceIte, Nat.reduceBEq, Nat.reduceEqDiff, Nat.reduceLT, Nat.reduceLeDiff, Nat.reduceAdd, Nat.reduceMul, Nat.reduceSub, reduceCtorEq, Int.reduceToNat] <;> (repeat' first | rfl | apply And.intro))
                      exact vbEq (by
                        first
                        | (rw [show b2 = true by assumption]; rfl)
                        | (rw [show b2 = false by assumption, Bool.false_or]; unfold badSym; first | exact (decide_eq_true (by omega)).symm | exact dec_iff (by omega)))
            · have hf : t5 t := t5p_end.1 (by have := k2.1 (by assumption); rwa [show t.n.toNat = a by omega])
              exact fin_mk ⟨2, rfl, .inr ⟨g1, .inr ⟨g2, .inr ⟨g3, .inr ⟨g4, .inl ⟨hf, rfl⟩⟩⟩⟩⟩⟩
            · have hb : ¬ b = true := by rw [show b = false by assumption]; simp
              have hf : ¬ t5 t := fun h => hb (k2.2 (by have := t5p_end.2 h; rwa [show t.n.toNat = a by omega] at this))
              exact fin_mk ⟨0, rfl, .inr ⟨g1, .inr ⟨g2, .inr ⟨g3, .inr ⟨g4, .inr ⟨hf, rfl⟩⟩⟩⟩⟩⟩
set_option maxRecDepth 10000 in
set_option maxHeartbeats 4000000 in
theorem turnerChecks_spec (t : Dm.Turner) (ht : t.ok) : Dm.Spec Try.prog 11 [.ag (turD t)] (· = .v (.bool true)) := by
  refine spec_of_vc mixed Try.func11 c11 (by rw [show Try.f11.ntmps = _ from Try.ntmps11]; simp) ?_
  unfold m11 r11
  repeat' first | (refine Br.dec (fun h => ?_) (fun h => ?_) <;> try (exfalso; omega)) | (refine Br.eqi (fun h => ?_) (fun h => ?_) <;> try (exfalso; omega)) | (simp (disch := (first | omega | (simp only [vlen]; first | done | omega))) only [↓va0, ↓va1, ↓va2, ↓va3, vb0, vb1, vb2, vb3, vb4, vb5, vb6, vb7, vb8, vb9, vb10, vz0, vz1, vy0, vx0, ↓reduceIte, Nat.reduceBEq, Nat.reduceEqDiff, Nat.reduceLT, Nat.reduceLeDiff, Nat.reduceAdd, Nat.reduceMul, Nat.reduceSub, reduceCtorEq, Int.reduceToNat]) | (refine Br.mk (fun h => ?_) (fun h => ?_)) | (refine BrN.mk (fun h => ?_) ?_) | (refine AltVC.mk ?_ ?_)
  refine CallP.mk (tcheck1 t ht) ?_
  rintro _ ⟨a, rfl, ha⟩
  refine ⟨by simp, ?_⟩
  repeat' first | (refine Br.dec (fun h => ?_) (fun h => ?_) <;> try (exfalso; omega)) | (refine Br.eqi (fun h => ?_) (fun h => ?_) <;> try (exfalso; omega)) | (simp (disch := (first | omega | (simp only [vlen]; first | done | omega))) only [↓va0, ↓va1, ↓va2, ↓va3, vb0, vb1, vb2, vb3, vb4, vb5, vb6, vb7, vb8, vb9, vb10, vz0, vz1, vy0, vx0, ↓reduceIte, Nat.reduceBEq, Nat.reduceEqDiff, Nat.reduceLT, Nat.reduceLeDiff, Nat.reduceAdd, Nat.reduceMul, Nat.reduceSub, reduceCtorEq, Int.reduceToNat]) | (refine Br.mk (fun h => ?_) (fun h => ?_)) | (refine BrN.mk (fun h => ?_) ?_) | (refine AltVC.mk ?_ ?_)
  refine CallP.mk (refT_spec t ht) ?_
  rintro _ ⟨c, rfl, hc⟩
  refine ⟨by simp, ?_⟩
  have := ha.uniq hc
  subst this
  repeat' first | (refine Br.dec (fun h => ?_) (fun h => ?_) <;> try (exfalso; omega)) | (refine Br.eqi (fun h => ?_) (fun h => ?_) <;> try (exfalso; omega)) | (simp (disch := (first | omega | (simp only [vlen]; first | done | omega))) only [↓va0, ↓va1, ↓va2, ↓va3, vb0, vb1, vb2, vb3, vb4, vb5, vb6, vb7, vb8, vb9, vb10, vz0, vz1, vy0, vx0, ↓reduceIte, Nat.reduceBEq, Nat.reduceEqDiff, Nat.reduceLT, Nat.reduceLeDiff, Nat.reduceAdd, Nat.reduceMul, Nat.reduceSub, reduceCtorEq, Int.reduceToNat]) | (refine Br.mk (fun h => ?_) (fun h => ?_)) | (refine BrN.mk (fun h => ?_) ?_) | (refine AltVC.mk ?_ ?_)
  exact fin_mk (vbEq (by simp))
end Go.Proofs.Ytgdmapheppkahaa
