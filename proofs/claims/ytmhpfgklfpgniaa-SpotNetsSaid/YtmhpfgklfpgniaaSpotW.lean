/-
  coppicerref.Written.
-/
import Derived.Test.YtmhpfgklfpgniaaGlyphP
namespace Go.Proofs.Ytmhpfgklfpgniaa
open Go.Dm
set_option linter.unusedSimpArgs false
set_option linter.unnecessarySimpa false
set_option linter.unusedVariables false
set_option linter.defProp false
/-- The symbols that are written in an expression. -/
inductive Wr (l : List Dm.Node) : Nat → List Int → Prop
  | none {i : Nat} (h : (l.getD i default).kind < 3) : Wr l i []
  | sym {i : Nat} (h : (l.getD i default).kind = 3) : Wr l i [(l.getD i default).a]
  | two {i : Nat} {s t : List Int} (h : (l.getD i default).kind = 4 ∨ (l.getD i default).kind = 5) (hs : Wr l (l.getD i default).a.toNat s) (ht : Wr l (l.getD i default).b.toNat t) : Wr l i (s ++ t)
  | star {i : Nat} {s : List Int} (h : (l.getD i default).kind = 6) (hs : Wr l (l.getD i default).a.toNat s) : Wr l i s
theorem wr_det {l : List Dm.Node} {i : Nat} {s : List Int} (h : Wr l i s) : ∀ {t : List Int}, Wr l i t → s = t := by
  induction h with
  | none h => intro t k; cases k with
    | none _ => rfl
    | sym h2 => omega
    | two h2 _ _ => omega
    | star h2 _ => omega
  | sym h => intro t k; cases k with
    | none h2 => omega
    | sym _ => rfl
    | two h2 _ _ => omega
    | star h2 _ => omega
  | two h _ _ ih1 ih2 => intro t k; cases k with
    | none h2 => omega
    | sym h2 => omega
    | two _ k1 k2 => rw [ih1 k1, ih2 k2]
    | star h2 _ => omega
  | star h _ ih => intro t k; cases k with
    | none h2 => omega
    | sym h2 => omega
    | two h2 _ _ => omega
    | star _ k1 => exact ih k1
theorem bl_wr {l : List Dm.Node} {i : Nat} {u u' : Au} {x : Ps} (h : Bl l i u x u') : ∃ t, u'.syms = u.syms ++ t ∧ Wr l i t := by
  induction h with
  | none h => exact ⟨[], by simp, .none h⟩
  | sym h => exact ⟨_, rfl, .sym h⟩
  | cat h _ _ ih1 ih2 =>
    obtain ⟨t1, e1, k1⟩ := ih1
    obtain ⟨t2, e2, k2⟩ := ih2
    exact ⟨t1 ++ t2, by show _ = _; rw [e2, e1, List.append_assoc], .two (.inl h) k1 k2⟩
  | or h _ _ ih1 ih2 =>
    obtain ⟨t1, e1, k1⟩ := ih1
    obtain ⟨t2, e2, k2⟩ := ih2
    exact ⟨t1 ++ t2, by rw [e2, e1, List.append_assoc], .two (.inr h) k1 k2⟩
  | star h _ ih =>
    obtain ⟨t, e, k⟩ := ih
    exact ⟨t, e, .star h k⟩
theorem wr_ok {k0 : Int} {l : List Dm.Node} (hv : NodesOk k0 l) {i : Nat} {s : List Int} (h : Wr l i s) : i < l.length → ∀ c, c ∈ s → 0 ≤ c ∧ c < k0 := by
  induction h with
  | none _ => intro _ c hc; cases hc
  | @sym i h =>
    intro hi c hc
    rw [List.mem_singleton] at hc
    subst hc
    exact (hv i hi).2.2.1 h
  | @two i s t h _ _ ih1 ih2 =>
    intro hi c hc
    obtain ⟨_, _, _, h4, h5⟩ := hv i hi
    have h4 := h4 (by omega)
    have h5 := h5 h
    rcases List.mem_append.mp hc with hc | hc
    · exact ih1 (by omega) c hc
    · exact ih2 (by omega) c hc
  | @star i s h _ ih =>
    intro hi c hc
    obtain ⟨_, _, _, h4, _⟩ := hv i hi
    have h4 := h4 (by omega)
    exact ih (by omega) c hc
theorem wr_ex {k0 : Int} {l : List Dm.Node} (hv : NodesOk k0 l) (i : Nat) (hi : i < l.length) : ∃ s, Wr l i s := by
  have hok := hv i hi
  obtain ⟨hk1, hk6, _, h4, h5⟩ := hok
  have hkk : (l.getD i default).kind < 3 ∨ (l.getD i default).kind = 3 ∨ ((l.getD i default).kind = 4 ∨ (l.getD i default).kind = 5) ∨ (l.getD i default).kind = 6 := by omega
  rcases hkk with hk | hk | hk | hk
  · exact ⟨_, .none hk⟩
  · exact ⟨_, .sym hk⟩
  · have h4 := h4 (by omega)
    have h5 := h5 hk
    obtain ⟨s, h1⟩ := wr_ex hv (l.getD i default).a.toNat (by omega)
    obtain ⟨t, h2⟩ := wr_ex hv (l.getD i default).b.toNat (by omega)
    exact ⟨_, .two hk h1 h2⟩
  · have h4 := h4 (by omega)
    obtain ⟨s, h1⟩ := wr_ex hv (l.getD i default).a.toNat (by omega)
    exact ⟨_, .star hk h1⟩
termination_by i
decreasing_by all_goals omega
def wrR (l : List Dm.Node) (i most : Nat) (d : D) : Prop := ∃ r t, d = .sl 1 (i64s r) ∧ Wr l i t ∧ (r = t ∨ (most < r.length ∧ most < t.length)) ∧ r.length ≤ 2 ^ i
set_option maxRecDepth 10000 in
set_option maxHeartbeats 4000000 in
theorem written_spec (k0 : Int) (l : List Dm.Node) (hv : NodesOk k0 l) (hl : l.length ≤ 9) (i : Nat) (hi : i < l.length) (most : Nat) (hm : most ≤ 1000) : Dm.Spec Try.prog 26 [.sl 3 (tbl nodD l), iv .i64 i, iv .i64 most] (wrR l i most) := by
  refine spec_of_vc mixed Try.func26 c26 (by rw [show Try.f26.ntmps = _ from Try.ntmps26]; simp) ?_
  unfold m26 r26
  have hok := hv i hi
  obtain ⟨hk1, hk6, hk3, hk4, hk5⟩ := hok
  obtain ⟨nd, hnd⟩ : ∃ nd, l.getD i default = nd := ⟨_, rfl⟩
  rw [hnd] at hk1 hk6 hk3 hk4 hk5
  obtain ⟨B, hB⟩ : ∃ B, 2 ^ i = B := ⟨_, rfl⟩
  have hB0 : 0 < B := by rw [← hB]; exact Nat.pow_pos (by omega)
  have hB256 : B ≤ 256 := by rw [← hB]; exact Nat.le_trans (Nat.pow_le_pow_right (by omega) (show i ≤ 8 by omega)) (by decide)
  have hkk : nd.kind < 3 ∨ nd.kind = 3 ∨ (nd.kind = 4 ∨ nd.kind = 5) ∨ nd.kind = 6 := by omega
  rcases hkk with hk | hk | hk | hk
  · have hw : Wr l i [] := .none (by rw [hnd]; exact hk)
    repeat' first | (refine Br.dec (fun h => ?_) (fun h => ?_) <;> try (exfalso; omega)) | (refine Br.eqi (fun h => ?_) (fun h => ?_) <;> try (exfalso; omega)) | (simp (disch := (first | omega | (simp only [vlen]; first | done | omega))) only [vgc, hnd, ↓va0, ↓va1, ↓va2, ↓va3, vb0, vb1, vb2, vb3, vb4, vb5, vb6, vb7, vb8, vb9, vb10, vz0, vz1, vy0, vx0, ↓reduceIte, Nat.reduceBEq, Nat.reduceEqDiff, Nat.reduceLT, Nat.reduceLeDiff, Nat.reduceAdd, Nat.reduceMul, Nat.reduceSub, reduceCtorEq, Int.reduceToNat]) | (refine Br.mk (fun h => ?_) (fun h => ?_)) | (refine BrN.mk (fun h => ?_) ?_) | (refine AltVC.mk ?_ ?_)
    all_goals first | (exfalso; omega; done) | skip
    exact fin_mk ⟨[], [], rfl, hw, .inl rfl, Nat.zero_le _⟩
  · have hw : Wr l i _ := .sym (by rw [hnd]; exact hk)
    rw [hnd] at hw
    repeat' first | (refine Br.dec (fun h => ?_) (fun h => ?_) <;> try (exfalso; omega)) | (refine Br.eqi (fun h => ?_) (fun h => ?_) <;> try (exfalso; omega)) | (simp (disch := (first | omega | (simp only [vlen]; first | done | omega))) only [vgc, hnd, ↓va0, ↓va1, ↓va2, ↓va3, vb0, vb1, vb2, vb3, vb4, vb5, vb6, vb7, vb8, vb9, vb10, vz0, vz1, vy0, vx0, ↓reduceIte, Nat.reduceBEq, Nat.reduceEqDiff, Nat.reduceLT, Nat.reduceLeDiff, Nat.reduceAdd, Nat.reduceMul, Nat.reduceSub, reduceCtorEq, Int.reduceToNat]) | (refine Br.mk (fun h => ?_) (fun h => ?_)) | (refine BrN.mk (fun h => ?_) ?_) | (refine AltVC.mk ?_ ?_)
    all_goals first | (exfalso; omega; done) | skip
    exact fin_mk ⟨_, _, rfl, hw, .inl rfl, by rw [hB]; simp; omega⟩
  · obtain ⟨h4a, h4b⟩ := hk4 (by omega)
    obtain ⟨h5a, h5b⟩ := hk5 hk
    obtain ⟨a, ha⟩ : ∃ a : Nat, nd.a = a := ⟨nd.a.toNat, by omega⟩
    obtain ⟨b, hb⟩ : ∃ b : Nat, nd.b = b := ⟨nd.b.toNat, by omega⟩
    have hpa : 0 < 2 ^ a := Nat.pow_pos (by omega)
    have hpb : 0 < 2 ^ b := Nat.pow_pos (by omega)
    have hab := two_pow2 (a := a) (b := b) (i := i) (by omega) (by omega)
    have hIa := written_spec k0 l hv hl a (by omega) most hm
    have hIb := written_spec k0 l hv hl b (by omega) most hm
    rw [hB] at hab
    have key : ∀ {s t : List Int}, Wr l a s → Wr l b t → Wr l i (s ++ t) := fun h1 h2 => .two (by rw [hnd]; exact hk) (by rw [hnd, ha]; exact h1) (by rw [hnd, hb]; exact h2)
    rcases hk with hk | hk
    all_goals
      repeat' first | (refine Br.dec (fun h => ?_) (fun h => ?_) <;> try (exfalso; omega)) | (refine Br.eqi (fun h => ?_) (fun h => ?_) <;> try (exfalso; omega)) | (simp (disch := (first | omega | (simp only [vlen]; first | done | omega))) only [vgc, hnd, ha, hb, ↓va0, ↓va1, ↓va2, ↓va3, vb0, vb1, vb2, vb3, vb4, vb5, vb6, vb7, vb8, vb9, vb10, vz0, vz1, vy0, vx0, ↓reduceIte, Nat.reduceBEq, Nat.reduceEqDiff, Nat.reduceLT, Nat.reduceLeDiff, Nat.reduceAdd, Nat.reduceMul, Nat.reduceSub, reduceCtorEq, Int.reduceToNat]) | (refine Br.mk (fun h => ?_) (fun h => ?_)) | (refine BrN.mk (fun h => ?_) ?_) | (refine AltVC.mk ?_ ?_)
      all_goals first | (exfalso; omega; done) | skip
      refine CallVC.mk hIa ?_
      rintro _ ⟨r1, t1, rfl, w1, c1, n1⟩
      by_cases hr : most < r1.length
      · obtain ⟨t2, w2⟩ := wr_ex hv b (by omega)
        repeat' first | (refine Br.dec (fun h => ?_) (fun h => ?_) <;> try (exfalso; omega)) | (refine Br.eqi (fun h => ?_) (fun h => ?_) <;> try (exfalso; omega)) | (simp (disch := (first | omega | (simp only [vlen]; first | done | omega))) only [vgc, hnd, ha, hb, ↓va0, ↓va1, ↓va2, ↓va3, vb0, vb1, vb2, vb3, vb4, vb5, vb6, vb7, vb8, vb9, vb10, vz0, vz1, vy0, vx0, ↓reduceIte, Nat.reduceBEq, Nat.reduceEqDiff, Nat.reduceLT, Nat.reduceLeDiff, Nat.reduceAdd, Nat.reduceMul, Nat.reduceSub, reduceCtorEq, Int.reduceToNat]) | (refine Br.mk (fun h => ?_) (fun h => ?_)) | (refine BrN.mk (fun h => ?_) ?_) | (refine AltVC.mk ?_ ?_)
        refine fin_mk ⟨r1, _, rfl, key w1 w2, .inr ⟨hr, ?_⟩, by rw [hB]; omega⟩
        rw [List.length_append]
        rcases c1 with c1 | c1
        · rw [← c1]; omega
        · omega
      · have e1 : r1 = t1 := by
          rcases c1 with c1 | c1
          · exact c1
          · exact absurd c1.1 hr
        subst e1
        repeat' first | (refine Br.dec (fun h => ?_) (fun h => ?_) <;> try (exfalso; omega)) | (refine Br.eqi (fun h => ?_) (fun h => ?_) <;> try (exfalso; omega)) | (simp (disch := (first | omega | (simp only [vlen]; first | done | omega))) only [vgc, hnd, ha, hb, ↓va0, ↓va1, ↓va2, ↓va3, vb0, vb1, vb2, vb3, vb4, vb5, vb6, vb7, vb8, vb9, vb10, vz0, vz1, vy0, vx0, ↓reduceIte, Nat.reduceBEq, Nat.reduceEqDiff, Nat.reduceLT, Nat.reduceLeDiff, Nat.reduceAdd, Nat.reduceMul, Nat.reduceSub, reduceCtorEq, Int.reduceToNat]) | (refine Br.mk (fun h => ?_) (fun h => ?_)) | (refine BrN.mk (fun h => ?_) ?_) | (refine AltVC.mk ?_ ?_)
        refine DrawVC.t ?_
        repeat' first | (refine Br.dec (fun h => ?_) (fun h => ?_) <;> try (exfalso; omega)) | (refine Br.eqi (fun h => ?_) (fun h => ?_) <;> try (exfalso; omega)) | (simp (disch := (first | omega | (simp only [vlen]; first | done | omega))) only [vgc, hnd, ha, hb, ↓va0, ↓va1, ↓va2, ↓va3, vb0, vb1, vb2, vb3, vb4, vb5, vb6, vb7, vb8, vb9, vb10, vz0, vz1, vy0, vx0, ↓reduceIte, Nat.reduceBEq, Nat.reduceEqDiff, Nat.reduceLT, Nat.reduceLeDiff, Nat.reduceAdd, Nat.reduceMul, Nat.reduceSub, reduceCtorEq, Int.reduceToNat]) | (refine Br.mk (fun h => ?_) (fun h => ?_)) | (refine BrN.mk (fun h => ?_) ?_) | (refine AltVC.mk ?_ ?_)
        all_goals
          refine CallVC.mk hIb ?_
          rintro _ ⟨r2, t2, rfl, w2, c2, n2⟩
          repeat' first | (refine Br.dec (fun h => ?_) (fun h => ?_) <;> try (exfalso; omega)) | (refine Br.eqi (fun h => ?_) (fun h => ?_) <;> try (exfalso; omega)) | (simp (disch := (first | omega | (simp only [vlen]; first | done | omega))) only [vgc, hnd, ha, hb, ↓va0, ↓va1, ↓va2, ↓va3, vb0, vb1, vb2, vb3, vb4, vb5, vb6, vb7, vb8, vb9, vb10, vz0, vz1, vy0, vx0, ↓reduceIte, Nat.reduceBEq, Nat.reduceEqDiff, Nat.reduceLT, Nat.reduceLeDiff, Nat.reduceAdd, Nat.reduceMul, Nat.reduceSub, reduceCtorEq, Int.reduceToNat]) | (refine Br.mk (fun h => ?_) (fun h => ?_)) | (refine BrN.mk (fun h => ?_) ?_) | (refine AltVC.mk ?_ ?_)
          refine fin_mk ⟨r1 ++ r2, _, ?_, key w1 w2, ?_, by rw [hB, List.length_append]; omega⟩
          · rfl
          · rcases c2 with c2 | c2
            · exact .inl (by rw [c2])
            · exact .inr (by rw [List.length_append, List.length_append]; omega)
  · obtain ⟨h4a, h4b⟩ := hk4 (by omega)
    obtain ⟨a, ha⟩ : ∃ a : Nat, nd.a = a := ⟨nd.a.toNat, by omega⟩
    have hIa := written_spec k0 l hv hl a (by omega) most hm
    have hab := two_pow2 (a := a) (b := a) (i := i) (by omega) (by omega)
    have hpa : 0 < 2 ^ a := Nat.pow_pos (by omega)
    rw [hB] at hab
    repeat' first | (refine Br.dec (fun h => ?_) (fun h => ?_) <;> try (exfalso; omega)) | (refine Br.eqi (fun h => ?_) (fun h => ?_) <;> try (exfalso; omega)) | (simp (disch := (first | omega | (simp only [vlen]; first | done | omega))) only [vgc, hnd, ha, ↓va0, ↓va1, ↓va2, ↓va3, vb0, vb1, vb2, vb3, vb4, vb5, vb6, vb7, vb8, vb9, vb10, vz0, vz1, vy0, vx0, ↓reduceIte, Nat.reduceBEq, Nat.reduceEqDiff, Nat.reduceLT, Nat.reduceLeDiff, Nat.reduceAdd, Nat.reduceMul, Nat.reduceSub, reduceCtorEq, Int.reduceToNat]) | (refine Br.mk (fun h => ?_) (fun h => ?_)) | (refine BrN.mk (fun h => ?_) ?_) | (refine AltVC.mk ?_ ?_)
    all_goals first | (exfalso; omega; done) | skip
    refine CallVC.mk hIa ?_
    rintro _ ⟨r1, t1, rfl, w1, c1, n1⟩
    have hw : Wr l i t1 := .star (by rw [hnd]; exact hk) (by rw [hnd, ha]; exact w1)
    repeat' first | (refine Br.dec (fun h => ?_) (fun h => ?_) <;> try (exfalso; omega)) | (refine Br.eqi (fun h => ?_) (fun h => ?_) <;> try (exfalso; omega)) | (simp (disch := (first | omega | (simp only [vlen]; first | done | omega))) only [vgc, hnd, ha, ↓va0, ↓va1, ↓va2, ↓va3, vb0, vb1, vb2, vb3, vb4, vb5, vb6, vb7, vb8, vb9, vb10, vz0, vz1, vy0, vx0, ↓reduceIte, Nat.reduceBEq, Nat.reduceEqDiff, Nat.reduceLT, Nat.reduceLeDiff, Nat.reduceAdd, Nat.reduceMul, Nat.reduceSub, reduceCtorEq, Int.reduceToNat]) | (refine Br.mk (fun h => ?_) (fun h => ?_)) | (refine BrN.mk (fun h => ?_) ?_) | (refine AltVC.mk ?_ ?_)
    exact fin_mk ⟨_, _, rfl, hw, c1, by rw [hB]; omega⟩
termination_by i
end Go.Proofs.Ytmhpfgklfpgniaa
