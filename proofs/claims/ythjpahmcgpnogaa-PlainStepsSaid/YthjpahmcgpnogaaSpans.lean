/-
  table.Spans: Derives, Ends, Make: of which names each stretch of a word is made.
-/
import Derived.Test.YthjpahmcgpnogaaMakes
import Derived.Test.YthjpahmcgpnogaaLend
import Derived.Test.YthjpahmcgpnogaaMore
import Derived.Test.YthjpahmcgpnogaaTrees
import Derived.Test.YthjpahmcgpnogaaDer
namespace Go.Proofs.Ythjpahmcgpnogaa
open Go.Dm
set_option linter.unusedSimpArgs false
set_option linter.unnecessarySimpa false
set_option linter.unusedVariables false
set_option linter.defProp false

structure SE where
  i : Nat
  j : Nat
  v : Nat
deriving Inhabited
def seD (e : SE) : List D := [iv .i64 e.i, iv .i64 e.j, iv .u32 e.v]
theorem seD_eq {e : SE} : seD e = [iv .i64 e.i, iv .i64 e.j, iv .u32 e.v] := (rfl)
/-- A map that holds a table. -/
structure SI (L : List SE) (t : Nat → Nat → Nat) : Prop where
  at_ : ∀ r, r < L.length → (L.getD r default).v = t (L.getD r default).i (L.getD r default).j
  no : ∀ i j, (∀ r, r < L.length → ¬ ((L.getD r default).i = i ∧ (L.getD r default).j = j)) → t i j = 0
  nd : ∀ r r', r < L.length → r' < L.length → (L.getD r default).i = (L.getD r' default).i → (L.getD r default).j = (L.getD r' default).j → r = r'
  lt : ∀ i j, t i j < 32
def upd2 (t : Nat → Nat → Nat) (i j v : Nat) : Nat → Nat → Nat := fun a b => if a = i ∧ b = j then v else t a b
theorem upd2_at {t : Nat → Nat → Nat} {i j v : Nat} : upd2 t i j v i j = v := if_pos ⟨rfl, rfl⟩
theorem upd2_ne {t : Nat → Nat → Nat} {i j v a b : Nat} (h : ¬ (a = i ∧ b = j)) : upd2 t i j v a b = t a b := if_neg h
theorem SI.nil : SI [] (fun _ _ => 0) := ⟨fun r h => absurd h (Nat.not_lt_zero _), fun _ _ _ => rfl, fun r r' h => absurd h (Nat.not_lt_zero _), fun _ _ => by omega⟩
theorem SI.set {L : List SE} {t : Nat → Nat → Nat} (h : SI L t) {r i j v : Nat} (hr : r < L.length) (hi : (L.getD r default).i = i) (hj : (L.getD r default).j = j) (hv : v < 32) : SI (L.set r ⟨i, j, v⟩) (upd2 t i j v) := by
  have hg : ∀ r', r' < L.length → (L.set r ⟨i, j, v⟩).getD r' default = if r' = r then ⟨i, j, v⟩ else L.getD r' default := fun r' hr' => by
    simp only [List.getD_eq_getElem?_getD, List.getElem?_set]
    by_cases e : r' = r
    · subst e; simp [hr]
    · rw [if_neg (fun h => e h.symm), if_neg e]
  have hk : ∀ r', r' < L.length → ((L.set r ⟨i, j, v⟩).getD r' default).i = (L.getD r' default).i ∧ ((L.set r ⟨i, j, v⟩).getD r' default).j = (L.getD r' default).j := fun r' hr' => by
    rw [hg r' hr']
    by_cases e : r' = r
    · subst e; rw [if_pos rfl]; exact ⟨hi.symm, hj.symm⟩
    · rw [if_neg e]; exact ⟨rfl, rfl⟩
  refine ⟨fun r' hr' => ?_, fun a b hn => ?_, fun r1 r2 h1 h2 e1 e2 => ?_, fun a b => ?_⟩
  · rw [List.length_set] at hr'
    rw [(hk r' hr').1, (hk r' hr').2, hg r' hr']
    by_cases e : r' = r
    · subst e; rw [if_pos rfl, hi, hj, upd2_at]
    · rw [if_neg e, upd2_ne fun h2 => e (h.nd r' r hr' hr (h2.1.trans hi.symm) (h2.2.trans hj.symm))]
      exact h.at_ r' hr'
  · have hne : ¬ (a = i ∧ b = j) := fun h2 => hn r (by rw [List.length_set]; exact hr) (by rw [(hk r hr).1, (hk r hr).2, hi, hj]; exact ⟨h2.1.symm, h2.2.symm⟩)
    rw [upd2_ne hne]
    refine h.no a b fun r' hr' h2 => hn r' (by rw [List.length_set]; exact hr') ?_
    rw [(hk r' hr').1, (hk r' hr').2]; exact h2
  · rw [List.length_set] at h1 h2
    rw [(hk r1 h1).1, (hk r2 h2).1] at e1
    rw [(hk r1 h1).2, (hk r2 h2).2] at e2
    exact h.nd r1 r2 h1 h2 e1 e2
  · unfold upd2; split
    · exact hv
    · exact h.lt a b
theorem SI.add {L : List SE} {t : Nat → Nat → Nat} (h : SI L t) {i j v : Nat} (hn : ∀ r, r < L.length → ¬ ((L.getD r default).i = i ∧ (L.getD r default).j = j)) (hv : v < 32) : SI (L ++ [⟨i, j, v⟩]) (upd2 t i j v) := by
  have g1 : ∀ r, r < L.length → (L ++ [(⟨i, j, v⟩ : SE)]).getD r default = L.getD r default := fun r hr => by simp [List.getD, List.getElem?_append_left hr]
  have g2 : (L ++ [(⟨i, j, v⟩ : SE)]).getD L.length default = ⟨i, j, v⟩ := by simp [List.getD]
  refine ⟨fun r hr => ?_, fun a b hn2 => ?_, fun r1 r2 h1 h2 e1 e2 => ?_, fun a b => ?_⟩
  · rw [List.length_append, List.length_singleton] at hr
    by_cases e : r < L.length
    · rw [g1 r e, upd2_ne (hn r e)]; exact h.at_ r e
    · have : r = L.length := by omega
      subst this; rw [g2, upd2_at]
  · have hne : ¬ (a = i ∧ b = j) := fun h2 => hn2 L.length (by simp) (by rw [g2]; exact ⟨h2.1.symm, h2.2.symm⟩)
    rw [upd2_ne hne]
    exact h.no a b fun r hr h2 => hn2 r (by simp; omega) (by rw [g1 r hr]; exact h2)
  · rw [List.length_append, List.length_singleton] at h1 h2
    by_cases c1 : r1 < L.length
    · by_cases c2 : r2 < L.length
      · rw [g1 r1 c1, g1 r2 c2] at e1 e2; exact h.nd r1 r2 c1 c2 e1 e2
      · have : r2 = L.length := by omega
        subst this; rw [g1 r1 c1, g2] at e1 e2; exact absurd ⟨e1, e2⟩ (hn r1 c1)
    · have : r1 = L.length := by omega
      subst this
      by_cases c2 : r2 < L.length
      · rw [g1 r2 c2, g2] at e1 e2; exact absurd ⟨e1.symm, e2.symm⟩ (hn r2 c2)
      · omega
  · unfold upd2; split
    · exact hv
    · exact h.lt a b
theorem se_in {L : List SE} {t : Nat → Nat → Nat} (h : SI L t) {r i j : Nat} (hr : r < (tbl seD L).length) (he : Agr (((tbl seD L).getD r []).take 2) [.v (.int .i64 i), .v (.int .i64 j)]) : r < L.length ∧ (L.getD r default).i = i ∧ (L.getD r default).j = j ∧ (tbl seD L).getD r [] = [iv .i64 i, iv .i64 j, iv .u32 (t i j)] := by
  rw [tbl_len] at hr
  rw [tbl_get hr] at he ⊢
  rw [seD_eq] at he ⊢
  simp only [List.take_succ_cons, List.take_zero, Agr_v, D.v.injEq, Value.int.injEq, true_and, Int.natCast_inj] at he
  have hm := h.at_ r hr
  rw [he.1, he.2.1] at hm
  exact ⟨hr, he.1, he.2.1, by rw [hm, he.1, he.2.1]⟩
theorem se_out {L : List SE} {i j : Nat} (hn : ∀ r, r < (tbl seD L).length → ((tbl seD L).getD r []).take 2 ≠ [.v (.int .i64 i), .v (.int .i64 j)]) : ∀ r, r < L.length → ¬ ((L.getD r default).i = i ∧ (L.getD r default).j = j) := fun r hr h => by
  have h1 := hn r (by rw [tbl_len]; exact hr)
  rw [tbl_get hr, seD_eq, h.1, h.2] at h1
  exact h1 rfl
theorem se_app {L : List SE} {i j v : Nat} : tbl seD L ++ [[D.v (.int .i64 i), D.v (.int .i64 j), D.v (.int .u32 v)]] = tbl seD (L ++ [⟨i, j, v⟩]) := by rw [tbl_app]; rfl
theorem se_set {L : List SE} {r i j v : Nat} : (tbl seD L).set r [D.v (.int .i64 i), D.v (.int .i64 j), D.v (.int .u32 v)] = tbl seD (L.set r ⟨i, j, v⟩) := by rw [← tbl_set]; rfl
def vse := And.intro vmr <| And.intro @se_app <| And.intro @se_set <| And.intro @rulD_eq @Int.add_sub_cancel
/-- The table's bits. -/
def tbB (t : Nat → Nat → Nat) (a i j : Nat) : Bool := (t i j).testBit a
def spO (L : List SE) : List Ob := [⟨3, tbl seD L, true, false, .map [.i64, .i64] true false⟩]
theorem sp_fin {s : S} {L : List SE} {b b' : Bool} (h1 : 1 ≤ s.N) (h2 : fitL s 1 0 ((spO L).map some)) (hb : b' = b) : FinH 1 (fun d o => d = .v (.bool b) ∧ o = (spO L).map some) s (D.v (.bool b')) :=
  finH_mk ((spO L).map some) (by simp [spO]) (by simpa [spO] using h1) (by simpa [spO] using h2) ⟨by subst hb; rw [trim_v], rfl⟩
structure CW (g : Grammar) (w : List Int) : Prop where
  v : Valid g
  w : w.length ≤ 12
set_option maxRecDepth 10000 in
set_option maxHeartbeats 4000000 in
theorem derives_spec (g : Grammar) (w : List Int) (hc : CW g w) (L : List SE) (t : Nat → Nat → Nat) (hL : SI L t) (x : Int) (i j : Nat) (hx : 0 ≤ x ∧ x < g.k + g.n) (hij : i ≤ j) (hj : j ≤ w.length) : Dm.SpecH Try.prog 65 [.mp 0, .ag (graD g), .sl 1 (i64s w), iv .i64 x, .ag [iv .i64 i, iv .i64 j]] (spO L) (fun d o => d = .v (.bool (oneB g w (tbB t) x i j)) ∧ o = (spO L).map some) := by
  refine specH_of_vc mixed Try.func65 c65 (by rw [show Try.f65.ntmps = _ from Try.ntmps65]; simp) ?_
  unfold m65 r65
  have hk := hc.v.k
  have hn := hc.v.n
  have hw := hc.w
  have ht := hL.lt i j
  unfold spO
  by_cases hxk : x < g.k
  · have e : oneB g w (tbB t) x i j = decide (j = i + 1 ∧ i < w.length ∧ w.getD i 0 = x) := by unfold oneB; rw [if_pos hxk]
    rw [e]
    repeat' first | (refine Br.dec (fun h => ?_) (fun h => ?_) <;> try (exfalso; omega)) | (refine Br.eqi (fun h => ?_) (fun h => ?_) <;> try (exfalso; omega)) | (simp (disch := (first | omega | (simp only [vlen]; first | done | omega))) only [vse, ↓va0, ↓va1, ↓va2, ↓va3, vb0, vb1, vb2, vb3, vb4, vb5, vb6, vb7, vb8, vb9, vb10, vz0, vz1, vy0, vx0, ↓reduceIte, Nat.reduceBEq, Nat.reduceEqDiff, Nat.reduceLT, Nat.reduceLeDiff, Nat.reduceAdd, Nat.reduceMul, Nat.reduceSub, reduceCtorEq, Int.reduceToNat]) | (refine Br.mk (fun h => ?_) (fun h => ?_)) | (refine BrN.mk (fun h => ?_) ?_) | (refine AltVC.mk ?_ ?_)
    · refine sp_fin (L := L) (by simp (disch := (first | omega | (simp only [vlen]; first | done | omega))) only [vse, ↓va0, ↓va1, ↓va2, ↓va3, vb0, vb1, vb2, vb3, vb4, vb5, vb6, vb7, vb8, vb9, vb10, vz0, vz1, vy0, vx0, ↓reduceIte, Nat.reduceBEq, Nat.reduceEqDiff, Nat.reduceLT, Nat.reduceLeDiff, Nat.reduceAdd, Nat.reduceMul, Nat.reduceSub, reduceCtorEq, Int.reduceToNat]) (by unfold spO; simp (disch := (first | omega | (simp only [vlen]; first | done | omega))) only [vse, ↓va0, ↓va1, ↓va2, ↓va3, vb0, vb1, vb2, vb3, vb4, vb5, vb6, vb7, vb8, vb9, vb10, vz0, vz1, vy0, vx0, ↓reduceIte, Nat.reduceBEq, Nat.reduceEqDiff, Nat.reduceLT, Nat.reduceLeDiff, Nat.reduceAdd, Nat.reduceMul, Nat.reduceSub, reduceCtorEq, Int.reduceToNat]) ?_
      rw [Bool.eq_iff_iff, beq_iff_eq, decide_eq_true_eq]
      exact ⟨fun h2 => ⟨by omega, by omega, h2⟩, fun h2 => h2.2.2⟩
    · refine sp_fin (L := L) (by simp (disch := (first | omega | (simp only [vlen]; first | done | omega))) only [vse, ↓va0, ↓va1, ↓va2, ↓va3, vb0, vb1, vb2, vb3, vb4, vb5, vb6, vb7, vb8, vb9, vb10, vz0, vz1, vy0, vx0, ↓reduceIte, Nat.reduceBEq, Nat.reduceEqDiff, Nat.reduceLT, Nat.reduceLeDiff, Nat.reduceAdd, Nat.reduceMul, Nat.reduceSub, reduceCtorEq, Int.reduceToNat]) (by unfold spO; simp (disch := (first | omega | (simp only [vlen]; first | done | omega))) only [vse, ↓va0, ↓va1, ↓va2, ↓va3, vb0, vb1, vb2, vb3, vb4, vb5, vb6, vb7, vb8, vb9, vb10, vz0, vz1, vy0, vx0, ↓reduceIte, Nat.reduceBEq, Nat.reduceEqDiff, Nat.reduceLT, Nat.reduceLeDiff, Nat.reduceAdd, Nat.reduceMul, Nat.reduceSub, reduceCtorEq, Int.reduceToNat]) ?_
      exact (decide_eq_false fun h2 => by have := h2.1; omega).symm
  · have e : oneB g w (tbB t) x i j = (t i j).testBit (x - g.k).toNat := by unfold oneB; rw [if_neg hxk]; rfl
    rw [e]
    obtain ⟨a, ha⟩ : ∃ a : Nat, x - g.k = a := ⟨(x - g.k).toNat, by omega⟩
    repeat' first | (refine Br.dec (fun h => ?_) (fun h => ?_) <;> try (exfalso; omega)) | (refine Br.eqi (fun h => ?_) (fun h => ?_) <;> try (exfalso; omega)) | (simp (disch := (first | omega | (simp only [vlen]; first | done | omega))) only [vse, ha, ↓va0, ↓va1, ↓va2, ↓va3, vb0, vb1, vb2, vb3, vb4, vb5, vb6, vb7, vb8, vb9, vb10, vz0, vz1, vy0, vx0, ↓reduceIte, Nat.reduceBEq, Nat.reduceEqDiff, Nat.reduceLT, Nat.reduceLeDiff, Nat.reduceAdd, Nat.reduceMul, Nat.reduceSub, reduceCtorEq, Int.reduceToNat]) | (refine Br.mk (fun h => ?_) (fun h => ?_)) | (refine BrN.mk (fun h => ?_) ?_) | (refine AltVC.mk ?_ ?_)
    refine BrK.mk (fun r hr he => ?_) (fun hnn => ?_)
    · obtain ⟨_, _, _, hR⟩ := se_in hL hr he
      repeat' first | (refine Br.dec (fun h => ?_) (fun h => ?_) <;> try (exfalso; omega)) | (refine Br.eqi (fun h => ?_) (fun h => ?_) <;> try (exfalso; omega)) | (simp (disch := (first | omega | (simp only [vlen]; first | done | omega))) only [vse, ha, hR, ↓va0, ↓va1, ↓va2, ↓va3, vb0, vb1, vb2, vb3, vb4, vb5, vb6, vb7, vb8, vb9, vb10, vz0, vz1, vy0, vx0, ↓reduceIte, Nat.reduceBEq, Nat.reduceEqDiff, Nat.reduceLT, Nat.reduceLeDiff, Nat.reduceAdd, Nat.reduceMul, Nat.reduceSub, reduceCtorEq, Int.reduceToNat]) | (refine Br.mk (fun h => ?_) (fun h => ?_)) | (refine BrN.mk (fun h => ?_) ?_) | (refine AltVC.mk ?_ ?_)
      refine CallVC.eq (has_spec (t i j) a (by omega) (by omega)) ?_
      repeat' first | (refine Br.dec (fun h => ?_) (fun h => ?_) <;> try (exfalso; omega)) | (refine Br.eqi (fun h => ?_) (fun h => ?_) <;> try (exfalso; omega)) | (simp (disch := (first | omega | (simp only [vlen]; first | done | omega))) only [vse, ↓va0, ↓va1, ↓va2, ↓va3, vb0, vb1, vb2, vb3, vb4, vb5, vb6, vb7, vb8, vb9, vb10, vz0, vz1, vy0, vx0, ↓reduceIte, Nat.reduceBEq, Nat.reduceEqDiff, Nat.reduceLT, Nat.reduceLeDiff, Nat.reduceAdd, Nat.reduceMul, Nat.reduceSub, reduceCtorEq, Int.reduceToNat]) | (refine Br.mk (fun h => ?_) (fun h => ?_)) | (refine BrN.mk (fun h => ?_) ?_) | (refine AltVC.mk ?_ ?_)
      exact sp_fin (L := L) (by simp (disch := (first | omega | (simp only [vlen]; first | done | omega))) only [vse, ↓va0, ↓va1, ↓va2, ↓va3, vb0, vb1, vb2, vb3, vb4, vb5, vb6, vb7, vb8, vb9, vb10, vz0, vz1, vy0, vx0, ↓reduceIte, Nat.reduceBEq, Nat.reduceEqDiff, Nat.reduceLT, Nat.reduceLeDiff, Nat.reduceAdd, Nat.reduceMul, Nat.reduceSub, reduceCtorEq, Int.reduceToNat]) (by unfold spO; simp (disch := (first | omega | (simp only [vlen]; first | done | omega))) only [vse, ↓va0, ↓va1, ↓va2, ↓va3, vb0, vb1, vb2, vb3, vb4, vb5, vb6, vb7, vb8, vb9, vb10, vz0, vz1, vy0, vx0, ↓reduceIte, Nat.reduceBEq, Nat.reduceEqDiff, Nat.reduceLT, Nat.reduceLeDiff, Nat.reduceAdd, Nat.reduceMul, Nat.reduceSub, reduceCtorEq, Int.reduceToNat]) rfl
    · have h0 := hL.no i j (se_out hnn)
      repeat' first | (refine Br.dec (fun h => ?_) (fun h => ?_) <;> try (exfalso; omega)) | (refine Br.eqi (fun h => ?_) (fun h => ?_) <;> try (exfalso; omega)) | (simp (disch := (first | omega | (simp only [vlen]; first | done | omega))) only [vse, ha, ↓va0, ↓va1, ↓va2, ↓va3, vb0, vb1, vb2, vb3, vb4, vb5, vb6, vb7, vb8, vb9, vb10, vz0, vz1, vy0, vx0, ↓reduceIte, Nat.reduceBEq, Nat.reduceEqDiff, Nat.reduceLT, Nat.reduceLeDiff, Nat.reduceAdd, Nat.reduceMul, Nat.reduceSub, reduceCtorEq, Int.reduceToNat]) | (refine Br.mk (fun h => ?_) (fun h => ?_)) | (refine BrN.mk (fun h => ?_) ?_) | (refine AltVC.mk ?_ ?_)
      refine CallVC.eq (has_spec 0 a (by omega) (by omega)) ?_
      repeat' first | (refine Br.dec (fun h => ?_) (fun h => ?_) <;> try (exfalso; omega)) | (refine Br.eqi (fun h => ?_) (fun h => ?_) <;> try (exfalso; omega)) | (simp (disch := (first | omega | (simp only [vlen]; first | done | omega))) only [vse, ↓va0, ↓va1, ↓va2, ↓va3, vb0, vb1, vb2, vb3, vb4, vb5, vb6, vb7, vb8, vb9, vb10, vz0, vz1, vy0, vx0, ↓reduceIte, Nat.reduceBEq, Nat.reduceEqDiff, Nat.reduceLT, Nat.reduceLeDiff, Nat.reduceAdd, Nat.reduceMul, Nat.reduceSub, reduceCtorEq, Int.reduceToNat]) | (refine Br.mk (fun h => ?_) (fun h => ?_)) | (refine BrN.mk (fun h => ?_) ?_) | (refine AltVC.mk ?_ ?_)
      exact sp_fin (L := L) (by simp (disch := (first | omega | (simp only [vlen]; first | done | omega))) only [vse, ↓va0, ↓va1, ↓va2, ↓va3, vb0, vb1, vb2, vb3, vb4, vb5, vb6, vb7, vb8, vb9, vb10, vz0, vz1, vy0, vx0, ↓reduceIte, Nat.reduceBEq, Nat.reduceEqDiff, Nat.reduceLT, Nat.reduceLeDiff, Nat.reduceAdd, Nat.reduceMul, Nat.reduceSub, reduceCtorEq, Int.reduceToNat]) (by unfold spO; simp (disch := (first | omega | (simp only [vlen]; first | done | omega))) only [vse, ↓va0, ↓va1, ↓va2, ↓va3, vb0, vb1, vb2, vb3, vb4, vb5, vb6, vb7, vb8, vb9, vb10, vz0, vz1, vy0, vx0, ↓reduceIte, Nat.reduceBEq, Nat.reduceEqDiff, Nat.reduceLT, Nat.reduceLeDiff, Nat.reduceAdd, Nat.reduceMul, Nat.reduceSub, reduceCtorEq, Int.reduceToNat]) (by rw [h0])
/-- The places to which signs may lead. -/
def ndP (g : Grammar) (w : List Int) (t : Nat → Nat → Nat) (l : List Int) (i : Nat) (j : Nat) : Bool := ovB g w (tbB t) l i j
def ndS (g : Grammar) (w : List Int) (t : Nat → Nat → Nat) (l : List Int) (i : Nat) : Nat := setOf (ndP g w t l i) (w.length + 1)
/-- On the way: from places ahead of m, and from m to places ahead of j. -/
def nxP (g : Grammar) (w : List Int) (t : Nat → Nat → Nat) (l : List Int) (x : Int) (i m j b : Nat) : Bool := (List.range (w.length + 1)).any fun k => decide (i ≤ k ∧ k ≤ b ∧ (k < m ∨ (k = m ∧ b < j))) && (ovB g w (tbB t) l i k && oneB g w (tbB t) x k b)
def nxS (g : Grammar) (w : List Int) (t : Nat → Nat → Nat) (l : List Int) (x : Int) (i m j : Nat) : Nat := setOf (nxP g w t l x i m j) (w.length + 1)
theorem nxP_iff {g : Grammar} {w : List Int} {t : Nat → Nat → Nat} {l : List Int} {x : Int} {i m j b : Nat} : nxP g w t l x i m j b = true ↔ ∃ k, k ≤ w.length ∧ (i ≤ k ∧ k ≤ b ∧ (k < m ∨ (k = m ∧ b < j))) ∧ ovB g w (tbB t) l i k = true ∧ oneB g w (tbB t) x k b = true := by
  unfold nxP
  simp only [List.any_eq_true, List.mem_range, Bool.and_eq_true, decide_eq_true_eq]
  exact ⟨fun ⟨k, h1, h2, h3, h4⟩ => ⟨k, by omega, h2, h3, h4⟩, fun ⟨k, h1, h2, h3, h4⟩ => ⟨k, by omega, h2, h3, h4⟩⟩
theorem setOf_ext {p q : Nat → Bool} {n : Nat} (h : ∀ b, b < n → p b = q b) : setOf p n = setOf q n := set_ext setOf_lt fun b hb => by rw [setOf_bit, h b hb]; simp [hb]
theorem nx_start {g : Grammar} {w : List Int} {t : Nat → Nat → Nat} {l : List Int} {x : Int} {i : Nat} : nxS g w t l x i i i = 0 := by
  have : nxS g w t l x i i i = setOf (fun _ => false) (w.length + 1) := setOf_ext fun b hb => by
    rw [Bool.eq_false_iff]; intro h
    obtain ⟨k, h1, h2, h3⟩ := nxP_iff.mp h; omega
  rw [this]
  exact (set_ext (S := 0) (Nat.pow_pos (by omega)) fun b hb => by simp).symm
theorem nx_row {g : Grammar} {w : List Int} {t : Nat → Nat → Nat} {l : List Int} {x : Int} {i m j : Nat} (h : w.length < j) : nxS g w t l x i m j = nxS g w t l x i (m + 1) (m + 1) := setOf_ext fun b hb => by
  rw [Bool.eq_iff_iff, nxP_iff, nxP_iff]
  constructor
  · rintro ⟨k, h1, h2, h3⟩; exact ⟨k, h1, by omega, h3⟩
  · rintro ⟨k, h1, h2, h3⟩; exact ⟨k, h1, by omega, h3⟩
theorem nx_hit {g : Grammar} {w : List Int} {t : Nat → Nat → Nat} {l : List Int} {x : Int} {i m j : Nat} (him : i ≤ m) (hmj : m ≤ j) (hj : j ≤ w.length) (h1 : ovB g w (tbB t) l i m = true) (h2 : oneB g w (tbB t) x m j = true) : nxS g w t l x i m (j + 1) = nxS g w t l x i m j ||| 2 ^ j := by
  refine (set_ext (or_two_lt setOf_lt (by omega)) fun b hb => ?_).symm
  rw [or_bit, Bool.eq_iff_iff, Bool.or_eq_true]
  rw [setOf_bit, Bool.and_eq_true, decide_eq_true_eq, decide_eq_true_eq, nxP_iff, nxP_iff]
  constructor
  · rintro (⟨_, k, k1, k2, k3⟩ | rfl)
    · exact ⟨k, k1, by omega, k3⟩
    · exact ⟨m, by omega, by omega, h1, h2⟩
  · rintro ⟨k, k1, k2, k3⟩
    by_cases e : b = j
    · exact .inr e
    · exact .inl ⟨hb, k, k1, by omega, k3⟩
theorem nx_miss {g : Grammar} {w : List Int} {t : Nat → Nat → Nat} {l : List Int} {x : Int} {i m j : Nat} (h : ¬ (ovB g w (tbB t) l i m = true ∧ oneB g w (tbB t) x m j = true)) : nxS g w t l x i m (j + 1) = nxS g w t l x i m j := setOf_ext fun b hb => by
  rw [Bool.eq_iff_iff, nxP_iff, nxP_iff]
  constructor
  · rintro ⟨k, k1, k2, k3⟩
    refine ⟨k, k1, ?_, k3⟩
    by_cases e : k = m ∧ b = j
    · obtain ⟨rfl, rfl⟩ := e; exact absurd k3 h
    · omega
  · rintro ⟨k, k1, k2, k3⟩; exact ⟨k, k1, by omega, k3⟩
theorem nx_all {g : Grammar} {w : List Int} {t : Nat → Nat → Nat} {l : List Int} {x : Int} {i m j : Nat} (h : w.length < m) : nxS g w t l x i m j = ndS g w t (l ++ [x]) i := setOf_ext fun b hb => by
  rw [Bool.eq_iff_iff, nxP_iff]
  unfold ndP
  rw [ovB_snoc]
  constructor
  · rintro ⟨k, k1, k2, k3, k4⟩; exact ⟨k, by omega, by omega, k3, k4⟩
  · rintro ⟨k, k1, k2, k3, k4⟩; exact ⟨k, by omega, by omega, k3, k4⟩
theorem nd_nil {g : Grammar} {w : List Int} {t : Nat → Nat → Nat} {i : Nat} (h : i ≤ w.length) : ndS g w t [] i = 2 ^ i := (set_ext (Nat.pow_lt_pow_right (by omega) (by omega)) fun b hb => by
  unfold ndP ovB
  rw [Nat.testBit_two_pow]).symm
theorem nd_bit {g : Grammar} {w : List Int} {t : Nat → Nat → Nat} {l : List Int} {i j : Nat} (h : j ≤ w.length) : (ndS g w t l i).testBit j = ovB g w (tbB t) l i j := by
  unfold ndS; rw [setOf_bit]; simp [ndP, show j < w.length + 1 by omega]
def enO (g : Grammar) (L : List SE) : List (Nat × Ob) := [(0, ⟨3, tbl seD L, true, false, .map [.i64, .i64] true false⟩), (1, ⟨4, [[iv .i64 g.k, iv .i64 g.n, iv .i64 g.start, .sl 2 (tbl rulD g.rules)]], true, false, .fix⟩)]
set_option maxRecDepth 10000 in
set_option maxHeartbeats 4000000 in
theorem ends_spec (g : Grammar) (w : List Int) (hc : CW g w) (L : List SE) (t : Nat → Nat → Nat) (hL : SI L t) (l : List Int) (hl : l.length ≤ 4) (hx : ∀ k, k < l.length → 0 ≤ l.getD k 0 ∧ l.getD k 0 < g.k + g.n) (i : Nat) (hi : i ≤ w.length) : Dm.SpecH Try.prog 75 [.mp 0, .ag (graD g), .sl 1 (i64s w), .sl 1 (i64s l), iv .i64 i] (spO L) (fun d o => d = .v (.int .u32 (ndS g w t l i)) ∧ o = (spO L).map some) := by
  refine specH_of_vc mixed Try.func75 c75 (by rw [show Try.f75.ntmps = _ from Try.ntmps75]; simp) ?_
  unfold m75 r75
  have hk := hc.v.k
  have hn := hc.v.n
  have hw := hc.w
  have hp : 2 ^ (w.length + 1) ≤ 8192 := Nat.le_trans (Nat.pow_le_pow_right (show 0 < 2 by omega) (show w.length + 1 ≤ 13 by omega)) (by decide)
  have hnd : ∀ l, ndS g w t l i < 2 ^ (w.length + 1) := fun l => setOf_lt
  have hnx : ∀ l x m j, nxS g w t l x i m j < 2 ^ (w.length + 1) := fun l x m j => setOf_lt
  have hs1 := @shlN i (by omega)
  unfold spO
  repeat' first | (refine Br.dec (fun h => ?_) (fun h => ?_) <;> try (exfalso; omega)) | (refine Br.eqi (fun h => ?_) (fun h => ?_) <;> try (exfalso; omega)) | (simp (disch := (first | omega | (simp only [vlen]; first | done | omega))) only [vse, hs1, ↓va0, ↓va1, ↓va2, ↓va3, vb0, vb1, vb2, vb3, vb4, vb5, vb6, vb7, vb8, vb9, vb10, vz0, vz1, vy0, vx0, ↓reduceIte, Nat.reduceBEq, Nat.reduceEqDiff, Nat.reduceLT, Nat.reduceLeDiff, Nat.reduceAdd, Nat.reduceMul, Nat.reduceSub, reduceCtorEq, Int.reduceToNat]) | (refine Br.mk (fun h => ?_) (fun h => ?_)) | (refine BrN.mk (fun h => ?_) ?_) | (refine AltVC.mk ?_ ?_)
  refine LoopVC.mk (X := Nat) (fun q => [(11, iv .u32 (ndS g w t (l.take q) i)), (21, iv .i64 q)]) (fun _ => enO g L) (fun q => l.length - q) (fun q => q ≤ l.length) 0 (Nat.zero_le _) ?_ ?_
  · unfold enO
    rw [List.take_zero, nd_nil hi]
    (simp (disch := (first | omega | (simp only [vlen]; first | done | omega))) only [Fits_u, Fits_m, Fits_nil, List.length_append, vse, ↓va0, ↓va1, ↓va2, ↓va3, vb0, vb1, vb2, vb3, vb4, vb5, vb6, vb7, vb8, vb9, vb10, vz0, vz1, vy0, vx0, ↓reduceIte, Nat.reduceBEq, Nat.reduceEqDiff, Nat.reduceLT, Nat.reduceLeDiff, Nat.reduceAdd, Nat.reduceMul, Nat.reduceSub, reduceCtorEq, Int.reduceToNat] <;> (repeat' first | rfl | apply And.intro))
  · intro q hq
    unfold enO
    have hS := hnd (l.take q)
    by_cases hql : q < l.length
    · have hxq := hx q hql
      obtain ⟨x, hxe⟩ : ∃ x, l.getD q 0 = x := ⟨_, rfl⟩
      rw [hxe] at hxq
      repeat' first | (refine Br.dec (fun h => ?_) (fun h => ?_) <;> try (exfalso; omega)) | (refine Br.eqi (fun h => ?_) (fun h => ?_) <;> try (exfalso; omega)) | (simp (disch := (first | omega | (simp only [vlen]; first | done | omega))) only [vse, hxe, ↓va0, ↓va1, ↓va2, ↓va3, vb0, vb1, vb2, vb3, vb4, vb5, vb6, vb7, vb8, vb9, vb10, vz0, vz1, vy0, vx0, ↓reduceIte, Nat.reduceBEq, Nat.reduceEqDiff, Nat.reduceLT, Nat.reduceLeDiff, Nat.reduceAdd, Nat.reduceMul, Nat.reduceSub, reduceCtorEq, Int.reduceToNat]) | (refine Br.mk (fun h => ?_) (fun h => ?_)) | (refine BrN.mk (fun h => ?_) ?_) | (refine AltVC.mk ?_ ?_)
      refine LoopVC.mk (X := Nat) (fun m => [(14, iv .u32 (nxS g w t (l.take q) x i m m)), (15, iv .i64 m)]) (fun _ => enO g L) (fun m => w.length + 1 - m) (fun m => i ≤ m ∧ m ≤ w.length + 1) i ⟨Nat.le_refl _, by omega⟩ ?_ ?_
      · unfold enO
        rw [nx_start]
        (simp (disch := (first | omega | (simp only [vlen]; first | done | omega))) only [Fits_u, Fits_m, Fits_nil, List.length_append, vse, ↓va0, ↓va1, ↓va2, ↓va3, vb0, vb1, vb2, vb3, vb4, vb5, vb6, vb7, vb8, vb9, vb10, vz0, vz1, vy0, vx0, ↓reduceIte, Nat.reduceBEq, Nat.reduceEqDiff, Nat.reduceLT, Nat.reduceLeDiff, Nat.reduceAdd, Nat.reduceMul, Nat.reduceSub, reduceCtorEq, Int.reduceToNat] <;> (repeat' first | rfl | apply And.intro))
      · rintro m ⟨hm1, hm2⟩
        unfold enO
        by_cases hm : m ≤ w.length
        · have hH := has_spec (ndS g w t (l.take q) i) m (by omega) (by omega)
          rw [nd_bit hm] at hH
          repeat' first | (refine Br.dec (fun h => ?_) (fun h => ?_) <;> try (exfalso; omega)) | (refine Br.eqi (fun h => ?_) (fun h => ?_) <;> try (exfalso; omega)) | (simp (disch := (first | omega | (simp only [vlen]; first | done | omega))) only [vse, hxe, ↓va0, ↓va1, ↓va2, ↓va3, vb0, vb1, vb2, vb3, vb4, vb5, vb6, vb7, vb8, vb9, vb10, vz0, vz1, vy0, vx0, ↓reduceIte, Nat.reduceBEq, Nat.reduceEqDiff, Nat.reduceLT, Nat.reduceLeDiff, Nat.reduceAdd, Nat.reduceMul, Nat.reduceSub, reduceCtorEq, Int.reduceToNat]) | (refine Br.mk (fun h => ?_) (fun h => ?_)) | (refine BrN.mk (fun h => ?_) ?_) | (refine AltVC.mk ?_ ?_)
          refine LoopVC.mk (X := Nat) (fun j => [(14, iv .u32 (nxS g w t (l.take q) x i m j)), (16, iv .i64 j)]) (fun _ => enO g L) (fun j => w.length + 1 - j) (fun j => m ≤ j ∧ j ≤ w.length + 1) m ⟨Nat.le_refl _, by omega⟩ ?_ ?_
          · unfold enO
            (simp (disch := (first | omega | (simp only [vlen]; first | done | omega))) only [Fits_u, Fits_m, Fits_nil, List.length_append, vse, ↓va0, ↓va1, ↓va2, ↓va3, vb0, vb1, vb2, vb3, vb4, vb5, vb6, vb7, vb8, vb9, vb10, vz0, vz1, vy0, vx0, ↓reduceIte, Nat.reduceBEq, Nat.reduceEqDiff, Nat.reduceLT, Nat.reduceLeDiff, Nat.reduceAdd, Nat.reduceMul, Nat.reduceSub, reduceCtorEq, Int.reduceToNat] <;> (repeat' first | rfl | apply And.intro))
          · rintro j ⟨hj1, hj2⟩
            unfold enO
            by_cases hj : j ≤ w.length
            · have hN := hnx (l.take q) x m j
              have hor := @orN (nxS g w t (l.take q) x i m j) (2 ^ j) (by omega) (by have := @pow_le31 j (by omega); omega)
              have hsh := @shlN j (by omega)
              cases hb : ovB g w (tbB t) (l.take q) i m with
              | false =>
                have hms := nx_miss (t := t) (l := l.take q) (x := x) (i := i) (m := m) (j := j) fun h => by rw [hb] at h; cases h.1
                rw [hb] at hH
                repeat' first | (refine Br.dec (fun h => ?_) (fun h => ?_) <;> try (exfalso; omega)) | (refine Br.eqi (fun h => ?_) (fun h => ?_) <;> try (exfalso; omega)) | (simp (disch := (first | omega | (simp only [vlen]; first | done | omega))) only [vse, ↓va0, ↓va1, ↓va2, ↓va3, vb0, vb1, vb2, vb3, vb4, vb5, vb6, vb7, vb8, vb9, vb10, vz0, vz1, vy0, vx0, ↓reduceIte, Nat.reduceBEq, Nat.reduceEqDiff, Nat.reduceLT, Nat.reduceLeDiff, Nat.reduceAdd, Nat.reduceMul, Nat.reduceSub, reduceCtorEq, Int.reduceToNat]) | (refine Br.mk (fun h => ?_) (fun h => ?_)) | (refine BrN.mk (fun h => ?_) ?_) | (refine AltVC.mk ?_ ?_)
                refine CallVC.eq hH ?_
                repeat' first | (refine Br.dec (fun h => ?_) (fun h => ?_) <;> try (exfalso; omega)) | (refine Br.eqi (fun h => ?_) (fun h => ?_) <;> try (exfalso; omega)) | (simp (disch := (first | omega | (simp only [vlen]; first | done | omega))) only [vse, ↓va0, ↓va1, ↓va2, ↓va3, vb0, vb1, vb2, vb3, vb4, vb5, vb6, vb7, vb8, vb9, vb10, vz0, vz1, vy0, vx0, ↓reduceIte, Nat.reduceBEq, Nat.reduceEqDiff, Nat.reduceLT, Nat.reduceLeDiff, Nat.reduceAdd, Nat.reduceMul, Nat.reduceSub, reduceCtorEq, Int.reduceToNat]) | (refine Br.mk (fun h => ?_) (fun h => ?_)) | (refine BrN.mk (fun h => ?_) ?_) | (refine AltVC.mk ?_ ?_)
                refine loopK.mk (j + 1) (by simp (disch := (first | omega | (simp only [vlen]; first | done | omega))) only [↓va0, ↓va1, ↓va2, ↓va3, vb0, vb1, vb2, vb3, vb4, vb5, vb6, vb7, vb8, vb9, vb10, vz0, vz1, vy0, vx0, ↓reduceIte, Nat.reduceBEq, Nat.reduceEqDiff, Nat.reduceLT, Nat.reduceLeDiff, Nat.reduceAdd, Nat.reduceMul, Nat.reduceSub, reduceCtorEq, Int.reduceToNat]) (by omega) (by omega) ?_
                rw [hms]
                (simp (disch := (first | omega | (simp only [vlen]; first | done | omega))) only [Fits_u, Fits_m, Fits_nil, List.length_append, vse, ↓va0, ↓va1, ↓va2, ↓va3, vb0, vb1, vb2, vb3, vb4, vb5, vb6, vb7, vb8, vb9, vb10, vz0, vz1, vy0, vx0, ↓reduceIte, Nat.reduceBEq, Nat.reduceEqDiff, Nat.reduceLT, Nat.reduceLeDiff, Nat.reduceAdd, Nat.reduceMul, Nat.reduceSub, reduceCtorEq, Int.reduceToNat] <;> (repeat' first | rfl | apply And.intro))
              | true =>
                have hD := derives_spec g w hc L t hL x m j hxq hj1 hj
                rw [hb] at hH
                cases hd : oneB g w (tbB t) x m j with
                | false =>
                  have hms := nx_miss (t := t) (l := l.take q) (x := x) (i := i) (m := m) (j := j) fun h => by rw [hd] at h; cases h.2
                  rw [hd] at hD
                  repeat' first | (refine Br.dec (fun h => ?_) (fun h => ?_) <;> try (exfalso; omega)) | (refine Br.eqi (fun h => ?_) (fun h => ?_) <;> try (exfalso; omega)) | (simp (disch := (first | omega | (simp only [vlen]; first | done | omega))) only [vse, ↓va0, ↓va1, ↓va2, ↓va3, vb0, vb1, vb2, vb3, vb4, vb5, vb6, vb7, vb8, vb9, vb10, vz0, vz1, vy0, vx0, ↓reduceIte, Nat.reduceBEq, Nat.reduceEqDiff, Nat.reduceLT, Nat.reduceLeDiff, Nat.reduceAdd, Nat.reduceMul, Nat.reduceSub, reduceCtorEq, Int.reduceToNat]) | (refine Br.mk (fun h => ?_) (fun h => ?_)) | (refine BrN.mk (fun h => ?_) ?_) | (refine AltVC.mk ?_ ?_)
                  refine CallVC.eq hH ?_
                  repeat' first | (refine Br.dec (fun h => ?_) (fun h => ?_) <;> try (exfalso; omega)) | (refine Br.eqi (fun h => ?_) (fun h => ?_) <;> try (exfalso; omega)) | (simp (disch := (first | omega | (simp only [vlen]; first | done | omega))) only [vse, ↓va0, ↓va1, ↓va2, ↓va3, vb0, vb1, vb2, vb3, vb4, vb5, vb6, vb7, vb8, vb9, vb10, vz0, vz1, vy0, vx0, ↓reduceIte, Nat.reduceBEq, Nat.reduceEqDiff, Nat.reduceLT, Nat.reduceLeDiff, Nat.reduceAdd, Nat.reduceMul, Nat.reduceSub, reduceCtorEq, Int.reduceToNat]) | (refine Br.mk (fun h => ?_) (fun h => ?_)) | (refine BrN.mk (fun h => ?_) ?_) | (refine AltVC.mk ?_ ?_)
                  refine CallVC.lendE [0] [.mp 0, .ag (graD g), .sl 1 (i64s w), iv .i64 x, .ag [iv .i64 m, iv .i64 j]] (spO L) hD (by simp) (by rfl) (by unfold spO; (simp (disch := (first | omega | (simp only [vlen]; first | done | omega))) only [vle0, ↓va0, ↓va1, ↓va2, ↓va3, vb0, vb1, vb2, vb3, vb4, vb5, vb6, vb7, vb8, vb9, vb10, vz0, vz1, vy0, vx0, ↓reduceIte, Nat.reduceBEq, Nat.reduceEqDiff, Nat.reduceLT, Nat.reduceLeDiff, Nat.reduceAdd, Nat.reduceMul, Nat.reduceSub, reduceCtorEq, Int.reduceToNat] <;> (repeat' first | rfl | apply And.intro))) ?_
                  rintro _ _ ⟨rfl, rfl⟩
                  unfold spO
                  repeat' first | (refine Br.dec (fun h => ?_) (fun h => ?_) <;> try (exfalso; omega)) | (refine Br.eqi (fun h => ?_) (fun h => ?_) <;> try (exfalso; omega)) | (simp (disch := (first | omega | (simp only [vlen]; first | done | omega))) only [vse, ↓va0, ↓va1, ↓va2, ↓va3, vb0, vb1, vb2, vb3, vb4, vb5, vb6, vb7, vb8, vb9, vb10, vz0, vz1, vy0, vx0, ↓reduceIte, Nat.reduceBEq, Nat.reduceEqDiff, Nat.reduceLT, Nat.reduceLeDiff, Nat.reduceAdd, Nat.reduceMul, Nat.reduceSub, reduceCtorEq, Int.reduceToNat]) | (refine Br.mk (fun h => ?_) (fun h => ?_)) | (refine BrN.mk (fun h => ?_) ?_) | (refine AltVC.mk ?_ ?_)
                  refine loopK.mk (j + 1) (by simp (disch := (first | omega | (simp only [vlen]; first | done | omega))) only [↓va0, ↓va1, ↓va2, ↓va3, vb0, vb1, vb2, vb3, vb4, vb5, vb6, vb7, vb8, vb9, vb10, vz0, vz1, vy0, vx0, ↓reduceIte, Nat.reduceBEq, Nat.reduceEqDiff, Nat.reduceLT, Nat.reduceLeDiff, Nat.reduceAdd, Nat.reduceMul, Nat.reduceSub, reduceCtorEq, Int.reduceToNat]) (by omega) (by omega) ?_
                  rw [hms]
                  (simp (disch := (first | omega | (simp only [vlen]; first | done | omega))) only [Fits_u, Fits_m, Fits_nil, List.length_append, vse, ↓va0, ↓va1, ↓va2, ↓va3, vb0, vb1, vb2, vb3, vb4, vb5, vb6, vb7, vb8, vb9, vb10, vz0, vz1, vy0, vx0, ↓reduceIte, Nat.reduceBEq, Nat.reduceEqDiff, Nat.reduceLT, Nat.reduceLeDiff, Nat.reduceAdd, Nat.reduceMul, Nat.reduceSub, reduceCtorEq, Int.reduceToNat] <;> (repeat' first | rfl | apply And.intro))
                | true =>
                  have hms := nx_hit (t := t) (l := l.take q) (x := x) (i := i) hm1 hj1 hj hb hd
                  rw [hd] at hD
                  repeat' first | (refine Br.dec (fun h => ?_) (fun h => ?_) <;> try (exfalso; omega)) | (refine Br.eqi (fun h => ?_) (fun h => ?_) <;> try (exfalso; omega)) | (simp (disch := (first | omega | (simp only [vlen]; first | done | omega))) only [vse, ↓va0, ↓va1, ↓va2, ↓va3, vb0, vb1, vb2, vb3, vb4, vb5, vb6, vb7, vb8, vb9, vb10, vz0, vz1, vy0, vx0, ↓reduceIte, Nat.reduceBEq, Nat.reduceEqDiff, Nat.reduceLT, Nat.reduceLeDiff, Nat.reduceAdd, Nat.reduceMul, Nat.reduceSub, reduceCtorEq, Int.reduceToNat]) | (refine Br.mk (fun h => ?_) (fun h => ?_)) | (refine BrN.mk (fun h => ?_) ?_) | (refine AltVC.mk ?_ ?_)
                  refine CallVC.eq hH ?_
                  repeat' first | (refine Br.dec (fun h => ?_) (fun h => ?_) <;> try (exfalso; omega)) | (refine Br.eqi (fun h => ?_) (fun h => ?_) <;> try (exfalso; omega)) | (simp (disch := (first | omega | (simp only [vlen]; first | done | omega))) only [vse, ↓va0, ↓va1, ↓va2, ↓va3, vb0, vb1, vb2, vb3, vb4, vb5, vb6, vb7, vb8, vb9, vb10, vz0, vz1, vy0, vx0, ↓reduceIte, Nat.reduceBEq, Nat.reduceEqDiff, Nat.reduceLT, Nat.reduceLeDiff, Nat.reduceAdd, Nat.reduceMul, Nat.reduceSub, reduceCtorEq, Int.reduceToNat]) | (refine Br.mk (fun h => ?_) (fun h => ?_)) | (refine BrN.mk (fun h => ?_) ?_) | (refine AltVC.mk ?_ ?_)
                  refine CallVC.lendE [0] [.mp 0, .ag (graD g), .sl 1 (i64s w), iv .i64 x, .ag [iv .i64 m, iv .i64 j]] (spO L) hD (by simp) (by rfl) (by unfold spO; (simp (disch := (first | omega | (simp only [vlen]; first | done | omega))) only [vle0, ↓va0, ↓va1, ↓va2, ↓va3, vb0, vb1, vb2, vb3, vb4, vb5, vb6, vb7, vb8, vb9, vb10, vz0, vz1, vy0, vx0, ↓reduceIte, Nat.reduceBEq, Nat.reduceEqDiff, Nat.reduceLT, Nat.reduceLeDiff, Nat.reduceAdd, Nat.reduceMul, Nat.reduceSub, reduceCtorEq, Int.reduceToNat] <;> (repeat' first | rfl | apply And.intro))) ?_
                  rintro _ _ ⟨rfl, rfl⟩
                  unfold spO
                  repeat' first | (refine Br.dec (fun h => ?_) (fun h => ?_) <;> try (exfalso; omega)) | (refine Br.eqi (fun h => ?_) (fun h => ?_) <;> try (exfalso; omega)) | (simp (disch := (first | omega | (simp only [vlen]; first | done | omega))) only [vse, hsh, hor, ↓va0, ↓va1, ↓va2, ↓va3, vb0, vb1, vb2, vb3, vb4, vb5, vb6, vb7, vb8, vb9, vb10, vz0, vz1, vy0, vx0, ↓reduceIte, Nat.reduceBEq, Nat.reduceEqDiff, Nat.reduceLT, Nat.reduceLeDiff, Nat.reduceAdd, Nat.reduceMul, Nat.reduceSub, reduceCtorEq, Int.reduceToNat]) | (refine Br.mk (fun h => ?_) (fun h => ?_)) | (refine BrN.mk (fun h => ?_) ?_) | (refine AltVC.mk ?_ ?_)
                  refine loopK.mk (j + 1) (by simp (disch := (first | omega | (simp only [vlen]; first | done | omega))) only [↓va0, ↓va1, ↓va2, ↓va3, vb0, vb1, vb2, vb3, vb4, vb5, vb6, vb7, vb8, vb9, vb10, vz0, vz1, vy0, vx0, ↓reduceIte, Nat.reduceBEq, Nat.reduceEqDiff, Nat.reduceLT, Nat.reduceLeDiff, Nat.reduceAdd, Nat.reduceMul, Nat.reduceSub, reduceCtorEq, Int.reduceToNat]) (by omega) (by omega) ?_
                  rw [hms]
                  (simp (disch := (first | omega | (simp only [vlen]; first | done | omega))) only [Fits_u, Fits_m, Fits_nil, List.length_append, vse, hsh, hor, ↓va0, ↓va1, ↓va2, ↓va3, vb0, vb1, vb2, vb3, vb4, vb5, vb6, vb7, vb8, vb9, vb10, vz0, vz1, vy0, vx0, ↓reduceIte, Nat.reduceBEq, Nat.reduceEqDiff, Nat.reduceLT, Nat.reduceLeDiff, Nat.reduceAdd, Nat.reduceMul, Nat.reduceSub, reduceCtorEq, Int.reduceToNat] <;> (repeat' first | rfl | apply And.intro))
            · repeat' first | (refine Br.dec (fun h => ?_) (fun h => ?_) <;> try (exfalso; omega)) | (refine Br.eqi (fun h => ?_) (fun h => ?_) <;> try (exfalso; omega)) | (simp (disch := (first | omega | (simp only [vlen]; first | done | omega))) only [vse, ↓va0, ↓va1, ↓va2, ↓va3, vb0, vb1, vb2, vb3, vb4, vb5, vb6, vb7, vb8, vb9, vb10, vz0, vz1, vy0, vx0, ↓reduceIte, Nat.reduceBEq, Nat.reduceEqDiff, Nat.reduceLT, Nat.reduceLeDiff, Nat.reduceAdd, Nat.reduceMul, Nat.reduceSub, reduceCtorEq, Int.reduceToNat]) | (refine Br.mk (fun h => ?_) (fun h => ?_)) | (refine BrN.mk (fun h => ?_) ?_) | (refine AltVC.mk ?_ ?_)
              refine loopK.mk (m + 1) (by simp (disch := (first | omega | (simp only [vlen]; first | done | omega))) only [↓va0, ↓va1, ↓va2, ↓va3, vb0, vb1, vb2, vb3, vb4, vb5, vb6, vb7, vb8, vb9, vb10, vz0, vz1, vy0, vx0, ↓reduceIte, Nat.reduceBEq, Nat.reduceEqDiff, Nat.reduceLT, Nat.reduceLeDiff, Nat.reduceAdd, Nat.reduceMul, Nat.reduceSub, reduceCtorEq, Int.reduceToNat]) ⟨by omega, by omega⟩ (by omega) ?_
              rw [← nx_row (j := j) (by omega)]
              (simp (disch := (first | omega | (simp only [vlen]; first | done | omega))) only [Fits_u, Fits_m, Fits_nil, List.length_append, vse, ↓va0, ↓va1, ↓va2, ↓va3, vb0, vb1, vb2, vb3, vb4, vb5, vb6, vb7, vb8, vb9, vb10, vz0, vz1, vy0, vx0, ↓reduceIte, Nat.reduceBEq, Nat.reduceEqDiff, Nat.reduceLT, Nat.reduceLeDiff, Nat.reduceAdd, Nat.reduceMul, Nat.reduceSub, reduceCtorEq, Int.reduceToNat] <;> (repeat' first | rfl | apply And.intro))
        · repeat' first | (refine Br.dec (fun h => ?_) (fun h => ?_) <;> try (exfalso; omega)) | (refine Br.eqi (fun h => ?_) (fun h => ?_) <;> try (exfalso; omega)) | (simp (disch := (first | omega | (simp only [vlen]; first | done | omega))) only [vse, hxe, ↓va0, ↓va1, ↓va2, ↓va3, vb0, vb1, vb2, vb3, vb4, vb5, vb6, vb7, vb8, vb9, vb10, vz0, vz1, vy0, vx0, ↓reduceIte, Nat.reduceBEq, Nat.reduceEqDiff, Nat.reduceLT, Nat.reduceLeDiff, Nat.reduceAdd, Nat.reduceMul, Nat.reduceSub, reduceCtorEq, Int.reduceToNat]) | (refine Br.mk (fun h => ?_) (fun h => ?_)) | (refine BrN.mk (fun h => ?_) ?_) | (refine AltVC.mk ?_ ?_)
          refine loopK.mk (q + 1) (by simp (disch := (first | omega | (simp only [vlen]; first | done | omega))) only [↓va0, ↓va1, ↓va2, ↓va3, vb0, vb1, vb2, vb3, vb4, vb5, vb6, vb7, vb8, vb9, vb10, vz0, vz1, vy0, vx0, ↓reduceIte, Nat.reduceBEq, Nat.reduceEqDiff, Nat.reduceLT, Nat.reduceLeDiff, Nat.reduceAdd, Nat.reduceMul, Nat.reduceSub, reduceCtorEq, Int.reduceToNat]) (by omega) (by omega) ?_
          rw [take_succ_getD hql 0, hxe, ← nx_all (m := m) (j := m) (by omega)]
          (simp (disch := (first | omega | (simp only [vlen]; first | done | omega))) only [Fits_u, Fits_m, Fits_nil, List.length_append, vse, ↓va0, ↓va1, ↓va2, ↓va3, vb0, vb1, vb2, vb3, vb4, vb5, vb6, vb7, vb8, vb9, vb10, vz0, vz1, vy0, vx0, ↓reduceIte, Nat.reduceBEq, Nat.reduceEqDiff, Nat.reduceLT, Nat.reduceLeDiff, Nat.reduceAdd, Nat.reduceMul, Nat.reduceSub, reduceCtorEq, Int.reduceToNat] <;> (repeat' first | rfl | apply And.intro))
    · have e : q = l.length := by omega
      subst e
      rw [List.take_length]
      repeat' first | (refine Br.dec (fun h => ?_) (fun h => ?_) <;> try (exfalso; omega)) | (refine Br.eqi (fun h => ?_) (fun h => ?_) <;> try (exfalso; omega)) | (simp (disch := (first | omega | (simp only [vlen]; first | done | omega))) only [vse, ↓va0, ↓va1, ↓va2, ↓va3, vb0, vb1, vb2, vb3, vb4, vb5, vb6, vb7, vb8, vb9, vb10, vz0, vz1, vy0, vx0, ↓reduceIte, Nat.reduceBEq, Nat.reduceEqDiff, Nat.reduceLT, Nat.reduceLeDiff, Nat.reduceAdd, Nat.reduceMul, Nat.reduceSub, reduceCtorEq, Int.reduceToNat]) | (refine Br.mk (fun h => ?_) (fun h => ?_)) | (refine BrN.mk (fun h => ?_) ?_) | (refine AltVC.mk ?_ ?_)
      exact finH_mk ((spO L).map some) (by simp [spO]) (by simp only [spO, List.map_cons, List.map_nil, List.length_cons, List.length_nil]; simp (disch := (first | omega | (simp only [vlen]; first | done | omega))) only [vse, ↓va0, ↓va1, ↓va2, ↓va3, vb0, vb1, vb2, vb3, vb4, vb5, vb6, vb7, vb8, vb9, vb10, vz0, vz1, vy0, vx0, ↓reduceIte, Nat.reduceBEq, Nat.reduceEqDiff, Nat.reduceLT, Nat.reduceLeDiff, Nat.reduceAdd, Nat.reduceMul, Nat.reduceSub, reduceCtorEq, Int.reduceToNat]) (by unfold spO; simp (disch := (first | omega | (simp only [vlen]; first | done | omega))) only [vse, ↓va0, ↓va1, ↓va2, ↓va3, vb0, vb1, vb2, vb3, vb4, vb5, vb6, vb7, vb8, vb9, vb10, vz0, vz1, vy0, vx0, ↓reduceIte, Nat.reduceBEq, Nat.reduceEqDiff, Nat.reduceLT, Nat.reduceLeDiff, Nat.reduceAdd, Nat.reduceMul, Nat.reduceSub, reduceCtorEq, Int.reduceToNat]) ⟨trim_v, rfl⟩
end Go.Proofs.Ythjpahmcgpnogaa
