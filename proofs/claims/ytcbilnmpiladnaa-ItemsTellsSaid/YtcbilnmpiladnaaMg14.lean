/-
 Texts of this claim, one behind another.
-/
import Derived.Test.YtcbilnmpiladnaaMg13
import Derived.Test.YtcbilnmpiladnaaMg11
import Derived.WalkKit
import Derived.LoopTactic
import Derived.Deep.RegionHeld3
import Derived.Sort.Grow
namespace Go.Proofs.Ytcbilnmpiladnaa
open Go.Dm
set_option linter.unusedSimpArgs false
set_option linter.unnecessarySimpa false
set_option linter.unusedVariables false
set_option linter.defProp false
structure IC (g : Grammar) (w : List Int) : Prop where
  v : Valid g
  w : w.length ≤ 12
theorem IC.small {g : Grammar} {w : List Int} (h : IC g w) {S : List (List It)} (hS : Snd g w S) (i : Nat) : (S.getD i []).length ≤ 650 := hS.small h.v.len h.v.long h.w i
theorem Ear.bd {g : Grammar} {w : List Int} (h : IC g w) {i : Nat} {x : It} (hx : Ear g w i x) : x.1 < g.rules.length ∧ x.2.1 ≤ (rgt g x.1).length ∧ x.2.2 ≤ i ∧ i ≤ w.length ∧ x.1 ≤ 100000 ∧ x.2.1 ≤ 100000 ∧ x.2.2 ≤ 100000 := by
  obtain ⟨h1, h2, h3, h4⟩ := hx.wi
  have h5 := h.v.len
  have h6 : (rgt g x.1).length ≤ 4 := h.v.long _ (getD_mem' h1)
  have h7 := h.w
  exact ⟨h1, h2, h3, h4, by omega, by omega, by omega⟩
def stR (g : Grammar) (w : List Int) (S : List (List It)) (i : Nat) (P : List (List It) → Prop) (d : D) (o : List (Option Ob)) : Prop :=
  d = .tu [] ∧ ∃ S' H', o = (chO g S' H').map some ∧ HI S' H' ∧ Snd g w S' ∧ Ext i S S' ∧ P S'
def beP (g : Grammar) (i : Nat) (nm : Int) (n : Nat) (S' : List (List It)) : Prop := ∀ r, r < n → lft g r = nm → (r, 0, i) ∈ S'.getD i []
set_option maxRecDepth 10000 in
set_option maxHeartbeats 4000000 in
theorem begin_spec (g : Grammar) (w : List Int) (hc : IC g w) (S : List (List It)) (H : List (List Ha)) (hH : HI S H) (hS : Snd g w S) (i : Nat) (hi : i ≤ w.length) (nm : Int) (hp : ∀ r, r < g.rules.length → lft g r = nm → Ear g w i (r, 0, i)) : Dm.SpecH Try.prog 93 [.ptr 0 6 0 0, iv .i64 i, iv .i64 nm] (chO g S H) (stR g w S i (beP g i nm g.rules.length)) := by
  refine specH_of_vc mixed Try.func93 c93 (by rw [show Try.f93.ntmps = _ from Try.ntmps93]; simp) ?_
  unfold m93 r93
  have hlen := hS.len
  have hrl := hc.v.len
  have hwl := hc.w
  unfold chO
  repeat' first | ((first | refine Br.dec ?_ ?_ | refine Br.eqi ?_ ?_) <;> intro h <;> try (exfalso; omega)) | (simp (disch := first | omega | (simp only [vlen]; first | done | omega)) only [vit, ↓vAq, vBq, ↓reduceIte, Nat.reduceBEq, Nat.reduceEqDiff, Nat.reduceLT, Nat.reduceLeDiff, Nat.reduceAdd, Nat.reduceMul, Nat.reduceSub, reduceCtorEq, Int.reduceToNat]) | (refine Br.mk ?_ ?_ <;> intro h) | (refine BrN.mk (fun h => ?_) ?_) | (refine AltVC.mk ?_ ?_)
  refine LoopVC.mk (X := Nat × List (List It) × List (List Ha)) (fun x => [(14, iv .i64 x.1)]) (fun x => [(0, ⟨6, [[iv .i64 g.k, iv .i64 g.n, iv .i64 g.start, .sl 2 (tbl rulD g.rules), .ref 1 1 0 x.2.1.length, .ref 2 1 0 x.2.2.length]], false, true, .fix⟩), (1, ⟨1, tbl scR x.2.1, true, true, .fix⟩), (2, ⟨1, tbl hmR x.2.2, true, true, .fix⟩)]) (fun x => g.rules.length - x.1)
    (fun x => x.1 ≤ g.rules.length ∧ HI x.2.1 x.2.2 ∧ Snd g w x.2.1 ∧ Ext i S x.2.1 ∧ beP g i nm x.1 x.2.1) (0, S, H) ⟨Nat.zero_le _, hH, hS, .refl, fun r hr => absurd hr (Nat.not_lt_zero _)⟩ ?_ ?_
  · (simp (disch := first | omega | (simp only [vlen]; first | done | omega)) only [Fits_u, Fits_m, Fits_nil, List.length_append, vit, ↓vAq, vBq, ↓reduceIte, Nat.reduceBEq, Nat.reduceEqDiff, Nat.reduceLT, Nat.reduceLeDiff, Nat.reduceAdd, Nat.reduceMul, Nat.reduceSub, reduceCtorEq, Int.reduceToNat] <;> (repeat' first | rfl | apply And.intro))
    all_goals trace_state
  · rintro ⟨r, S1, H1⟩ ⟨h1, h2, h3, h4, h5⟩
    simp only at h1 h2 h3 h4 h5 ⊢
    have hl1 := h3.len
    by_cases hlt : r < g.rules.length
    · have hsm := hc.small h3 i
      by_cases he : lft g r = nm
      · have hE := hp r hlt he
        have had := add_spec g S1 H1 h2 i (by omega) (by omega) (r, 0, i) ⟨by show r ≤ 100000; omega, Nat.zero_le _, by show i ≤ 100000; omega⟩
        have he' : (g.rules.getD r default).left = nm := he
        repeat' first | ((first | refine Br.dec ?_ ?_ | refine Br.eqi ?_ ?_) <;> intro h <;> try (exfalso; omega)) | (simp (disch := first | omega | (simp only [vlen]; first | done | omega)) only [he', vit, ↓vAq, vBq, ↓reduceIte, Nat.reduceBEq, Nat.reduceEqDiff, Nat.reduceLT, Nat.reduceLeDiff, Nat.reduceAdd, Nat.reduceMul, Nat.reduceSub, reduceCtorEq, Int.reduceToNat]) | (refine Br.mk ?_ ?_ <;> intro h) | (refine BrN.mk (fun h => ?_) ?_) | (refine AltVC.mk ?_ ?_)
        refine CallVC.lendE [0, 1, 2] [.ptr 0 6 0 0, iv .i64 i, .ag (itD (r, 0, i))] (chO g S1 H1) had (by simp) (by rfl) (by unfold chO; simp (disch := first | omega | (simp only [vlen]; first | done | omega)) only [vle0, vit, ↓vAq, vBq, ↓reduceIte, Nat.reduceBEq, Nat.reduceEqDiff, Nat.reduceLT, Nat.reduceLeDiff, Nat.reduceAdd, Nat.reduceMul, Nat.reduceSub, reduceCtorEq, Int.reduceToNat] <;> (repeat' first | rfl | apply And.intro)) ?_
        rintro _ _ ⟨rfl, H2, rfl, h6⟩
        have hx := addS_ext (S := S1) (i := i) (x := (r, 0, i)) (by omega)
        have hl2 := hx.len
        unfold chO
        repeat' first | ((first | refine Br.dec ?_ ?_ | refine Br.eqi ?_ ?_) <;> intro h <;> try (exfalso; omega)) | (simp (disch := first | omega | (simp only [vlen]; first | done | omega)) only [vit, ↓vAq, vBq, ↓reduceIte, Nat.reduceBEq, Nat.reduceEqDiff, Nat.reduceLT, Nat.reduceLeDiff, Nat.reduceAdd, Nat.reduceMul, Nat.reduceSub, reduceCtorEq, Int.reduceToNat]) | (refine Br.mk ?_ ?_ <;> intro h) | (refine BrN.mk (fun h => ?_) ?_) | (refine AltVC.mk ?_ ?_)
        refine loopK.mk (r + 1, addS S1 i (r, 0, i), H2) (by simp (disch := first | omega | (simp only [vlen]; first | done | omega)) only [vit, ↓vAq, vBq, ↓reduceIte, Nat.reduceBEq, Nat.reduceEqDiff, Nat.reduceLT, Nat.reduceLeDiff, Nat.reduceAdd, Nat.reduceMul, Nat.reduceSub, reduceCtorEq, Int.reduceToNat]) ⟨by show r + 1 ≤ _; omega, h6, h3.add hE, h4.trans hx, fun q hq hl => by
          by_cases e : q = r
          · subst e; exact addS_mem (by omega)
          · exact hx.sub (h5 q (by omega) hl)⟩ (by show _ - (r + 1) < _ - r; omega) ?_
        (simp (disch := first | omega | (simp only [vlen]; first | done | omega)) only [Fits_u, Fits_m, Fits_nil, List.length_append, vit, ↓vAq, vBq, ↓reduceIte, Nat.reduceBEq, Nat.reduceEqDiff, Nat.reduceLT, Nat.reduceLeDiff, Nat.reduceAdd, Nat.reduceMul, Nat.reduceSub, reduceCtorEq, Int.reduceToNat] <;> (repeat' first | rfl | apply And.intro))
        all_goals trace_state
      · have he' : ¬ (g.rules.getD r default).left = nm := he
        repeat' first | ((first | refine Br.dec ?_ ?_ | refine Br.eqi ?_ ?_) <;> intro h <;> try (exfalso; omega)) | (simp (disch := first | omega | (simp only [vlen]; first | done | omega)) only [vit, ↓vAq, vBq, ↓reduceIte, Nat.reduceBEq, Nat.reduceEqDiff, Nat.reduceLT, Nat.reduceLeDiff, Nat.reduceAdd, Nat.reduceMul, Nat.reduceSub, reduceCtorEq, Int.reduceToNat]) | (refine Br.mk ?_ ?_ <;> intro h) | (refine BrN.mk (fun h => ?_) ?_) | (refine AltVC.mk ?_ ?_)
        refine loopK.mk (r + 1, S1, H1) (by simp (disch := first | omega | (simp only [vlen]; first | done | omega)) only [vit, ↓vAq, vBq, ↓reduceIte, Nat.reduceBEq, Nat.reduceEqDiff, Nat.reduceLT, Nat.reduceLeDiff, Nat.reduceAdd, Nat.reduceMul, Nat.reduceSub, reduceCtorEq, Int.reduceToNat]) ⟨by show r + 1 ≤ _; omega, h2, h3, h4, fun q hq hl => by
          by_cases e : q = r
          · subst e; exact absurd hl he
          · exact h5 q (by omega) hl⟩ (by show _ - (r + 1) < _ - r; omega) ?_
        (simp (disch := first | omega | (simp only [vlen]; first | done | omega)) only [Fits_u, Fits_m, Fits_nil, List.length_append, vit, ↓vAq, vBq, ↓reduceIte, Nat.reduceBEq, Nat.reduceEqDiff, Nat.reduceLT, Nat.reduceLeDiff, Nat.reduceAdd, Nat.reduceMul, Nat.reduceSub, reduceCtorEq, Int.reduceToNat] <;> (repeat' first | rfl | apply And.intro))
        all_goals trace_state
    · have hie : r = g.rules.length := by omega
      subst hie
      repeat' first | ((first | refine Br.dec ?_ ?_ | refine Br.eqi ?_ ?_) <;> intro h <;> try (exfalso; omega)) | (simp (disch := first | omega | (simp only [vlen]; first | done | omega)) only [vit, ↓vAq, vBq, ↓reduceIte, Nat.reduceBEq, Nat.reduceEqDiff, Nat.reduceLT, Nat.reduceLeDiff, Nat.reduceAdd, Nat.reduceMul, Nat.reduceSub, reduceCtorEq, Int.reduceToNat]) | (refine Br.mk ?_ ?_ <;> intro h) | (refine BrN.mk (fun h => ?_) ?_) | (refine AltVC.mk ?_ ?_)
      exact ch_fin (g := g) (S := S1) (H := H1) (by simp (disch := first | omega | (simp only [vlen]; first | done | omega)) only [vit, ↓vAq, vBq, ↓reduceIte, Nat.reduceBEq, Nat.reduceEqDiff, Nat.reduceLT, Nat.reduceLeDiff, Nat.reduceAdd, Nat.reduceMul, Nat.reduceSub, reduceCtorEq, Int.reduceToNat]) (by unfold chO; simp (disch := first | omega | (simp only [vlen]; first | done | omega)) only [vit, ↓vAq, vBq, ↓reduceIte, Nat.reduceBEq, Nat.reduceEqDiff, Nat.reduceLT, Nat.reduceLeDiff, Nat.reduceAdd, Nat.reduceMul, Nat.reduceSub, reduceCtorEq, Int.reduceToNat]) ⟨by simp (disch := first | omega | (simp only [vlen]; first | done | omega)) only [vit, ↓vAq, vBq, ↓reduceIte, Nat.reduceBEq, Nat.reduceEqDiff, Nat.reduceLT, Nat.reduceLeDiff, Nat.reduceAdd, Nat.reduceMul, Nat.reduceSub, reduceCtorEq, Int.reduceToNat], S1, H1, rfl, h2, h3, h4, h5⟩
def coP (g : Grammar) (i : Nat) (x : It) (S' : List (List It)) : Prop := ∀ y, y ∈ S'.getD x.2.2 [] → nxt g y = some (g.k + lft g x.1) → (y.1, y.2.1 + 1, y.2.2) ∈ S'.getD i []
theorem mem_ix {α : Type} [Inhabited α] {l : List α} {x : α} (h : x ∈ l) : ∃ j, j < l.length ∧ l.getD j default = x := by
  obtain ⟨j, hj, e⟩ := List.mem_iff_getElem.1 h
  exact ⟨j, hj, by simp [List.getD_eq_getElem?_getD, hj, e]⟩
set_option maxRecDepth 10000 in
set_option maxHeartbeats 4000000 in
theorem complete_spec (g : Grammar) (w : List Int) (hc : IC g w) (S : List (List It)) (H : List (List Ha)) (hH : HI S H) (hS : Snd g w S) (i : Nat) (x : It) (hx : Ear g w i x) (hn : nxt g x = none) : Dm.SpecH Try.prog 109 [.ptr 0 6 0 0, iv .i64 i, .ag (itD x)] (chO g S H) (stR g w S i (coP g i x)) := by
  refine specH_of_vc mixed Try.func109 c109 (by rw [show Try.f109.ntmps = _ from Try.ntmps109]; simp) ?_
  unfold m109 r109
  have hlen := hS.len
  have hrl := hc.v.len
  have hwl := hc.w
  have hk := hc.v.k
  have hnn := hc.v.n
  obtain ⟨b1, b2, b3, b4, b5, b6, b7⟩ := Ear.bd hc hx
  have hleft := hc.v.left _ (getD_mem' b1)
  unfold chO
  repeat' first | ((first | refine Br.dec ?_ ?_ | refine Br.eqi ?_ ?_) <;> intro h <;> try (exfalso; omega)) | (simp (disch := first | omega | (simp only [vlen]; first | done | omega)) only [vit, ↓vAq, vBq, ↓reduceIte, Nat.reduceBEq, Nat.reduceEqDiff, Nat.reduceLT, Nat.reduceLeDiff, Nat.reduceAdd, Nat.reduceMul, Nat.reduceSub, reduceCtorEq, Int.reduceToNat]) | (refine Br.mk ?_ ?_ <;> intro h) | (refine BrN.mk (fun h => ?_) ?_) | (refine AltVC.mk ?_ ?_)
  refine LoopVC.mk (X := Nat × List (List It) × List (List Ha)) (fun x => [(7, iv .i64 x.1)]) (fun z => [(0, ⟨6, [[iv .i64 g.k, iv .i64 g.n, iv .i64 g.start, .sl 2 (tbl rulD g.rules), .ref 1 1 0 z.2.1.length, .ref 2 1 0 z.2.2.length]], false, true, .fix⟩), (1, ⟨1, tbl scR z.2.1, true, true, .fix⟩), (2, ⟨1, tbl hmR z.2.2, true, true, .fix⟩), (3, ⟨3, [itD x], true, false, .fix⟩)]) (fun z => 651 - z.1)
    (fun z => z.1 ≤ (z.2.1.getD x.2.2 default).length ∧ HI z.2.1 z.2.2 ∧ Snd g w z.2.1 ∧ Ext i S z.2.1 ∧ ∀ j, j < z.1 → nxt g ((z.2.1.getD x.2.2 default).getD j default) = some (g.k + lft g x.1) → (((z.2.1.getD x.2.2 default).getD j default).1, ((z.2.1.getD x.2.2 default).getD j default).2.1 + 1, ((z.2.1.getD x.2.2 default).getD j default).2.2) ∈ z.2.1.getD i []) (0, S, H) ⟨Nat.zero_le _, hH, hS, .refl, fun r hr => absurd hr (Nat.not_lt_zero _)⟩ ?_ ?_
  · (simp (disch := first | omega | (simp only [vlen]; first | done | omega)) only [Fits_u, Fits_m, Fits_nil, List.length_append, vit, ↓vAq, vBq, ↓reduceIte, Nat.reduceBEq, Nat.reduceEqDiff, Nat.reduceLT, Nat.reduceLeDiff, Nat.reduceAdd, Nat.reduceMul, Nat.reduceSub, reduceCtorEq, Int.reduceToNat] <;> (repeat' first | rfl | apply And.intro))
    all_goals trace_state
  · rintro ⟨j, S1, H1⟩ ⟨h1, h2, h3, h4, h5⟩
    simp only at h1 h2 h3 h4 h5 ⊢
    have hl1 := h3.len
    have hsm := hc.small h3 i
    have hsf : (S1.getD x.2.2 default).length ≤ 650 := hc.small h3 x.2.2
    by_cases hlt : j < (S1.getD x.2.2 default).length
    · have hyE : Ear g w x.2.2 ((S1.getD x.2.2 default).getD j default) := h3.ear _ _ (getD_mem' hlt)
      generalize hy : (S1.getD x.2.2 default).getD j default = y at *
      obtain ⟨c1, c2, c3, c4, c5, c6, c7⟩ := Ear.bd hc hyE
      have hnx := next_spec g S1 H1 y c1 c2
      cases hny : nxt g y with
      | none =>
        rw [nxD_none hny] at hnx
        repeat' first | ((first | refine Br.dec ?_ ?_ | refine Br.eqi ?_ ?_) <;> intro h <;> try (exfalso; omega)) | (simp (disch := first | omega | (simp only [vlen]; first | done | omega)) only [hy, vit, ↓vAq, vBq, ↓reduceIte, Nat.reduceBEq, Nat.reduceEqDiff, Nat.reduceLT, Nat.reduceLeDiff, Nat.reduceAdd, Nat.reduceMul, Nat.reduceSub, reduceCtorEq, Int.reduceToNat]) | (refine Br.mk ?_ ?_ <;> intro h) | (refine BrN.mk (fun h => ?_) ?_) | (refine AltVC.mk ?_ ?_)
        refine CallVC.fold 4 1 x.2.2 0 true ?_
        repeat' first | ((first | refine Br.dec ?_ ?_ | refine Br.eqi ?_ ?_) <;> intro h <;> try (exfalso; omega)) | (simp (disch := first | omega | (simp only [vlen]; first | done | omega)) only [vit, ↓vAq, vBq, ↓reduceIte, Nat.reduceBEq, Nat.reduceEqDiff, Nat.reduceLT, Nat.reduceLeDiff, Nat.reduceAdd, Nat.reduceMul, Nat.reduceSub, reduceCtorEq, Int.reduceToNat]) | (refine Br.mk ?_ ?_ <;> intro h) | (refine BrN.mk (fun h => ?_) ?_) | (refine AltVC.mk ?_ ?_)
        refine CallVC.lendE [0, 1, 2] [.ptr 0 6 0 0, .ag (itD y)] (chO g S1 H1) hnx (by simp) (by rfl) (by unfold chO; simp (disch := first | omega | (simp only [vlen]; first | done | omega)) only [vle0, vit, ↓vAq, vBq, ↓reduceIte, Nat.reduceBEq, Nat.reduceEqDiff, Nat.reduceLT, Nat.reduceLeDiff, Nat.reduceAdd, Nat.reduceMul, Nat.reduceSub, reduceCtorEq, Int.reduceToNat] <;> (repeat' first | rfl | apply And.intro)) ?_
        rintro _ _ ⟨rfl, rfl⟩
        unfold chO
        repeat' first | ((first | refine Br.dec ?_ ?_ | refine Br.eqi ?_ ?_) <;> intro h <;> try (exfalso; omega)) | (simp (disch := first | omega | (simp only [vlen]; first | done | omega)) only [vit, ↓vAq, vBq, ↓reduceIte, Nat.reduceBEq, Nat.reduceEqDiff, Nat.reduceLT, Nat.reduceLeDiff, Nat.reduceAdd, Nat.reduceMul, Nat.reduceSub, reduceCtorEq, Int.reduceToNat]) | (refine Br.mk ?_ ?_ <;> intro h) | (refine BrN.mk (fun h => ?_) ?_) | (refine AltVC.mk ?_ ?_)
        refine loopK.mk (j + 1, S1, H1) (by simp (disch := first | omega | (simp only [vlen]; first | done | omega)) only [vit, ↓vAq, vBq, ↓reduceIte, Nat.reduceBEq, Nat.reduceEqDiff, Nat.reduceLT, Nat.reduceLeDiff, Nat.reduceAdd, Nat.reduceMul, Nat.reduceSub, reduceCtorEq, Int.reduceToNat]) ⟨by show j + 1 ≤ (S1.getD x.2.2 default).length; omega, h2, h3, h4, fun q hq hl => by
          by_cases e : q = j
          · subst e; rw [hy, hny] at hl; cases hl
          · exact h5 q (by omega) hl⟩ (by show 651 - (j + 1) < 651 - j; omega) ?_
        (simp (disch := first | omega | (simp only [vlen]; first | done | omega)) only [Fits_u, Fits_m, Fits_nil, List.length_append, vit, ↓vAq, vBq, ↓reduceIte, Nat.reduceBEq, Nat.reduceEqDiff, Nat.reduceLT, Nat.reduceLeDiff, Nat.reduceAdd, Nat.reduceMul, Nat.reduceSub, reduceCtorEq, Int.reduceToNat] <;> (repeat' first | rfl | apply And.intro))
        all_goals trace_state
      | some s =>
        rw [nxD_some hny] at hnx
        repeat' first | ((first | refine Br.dec ?_ ?_ | refine Br.eqi ?_ ?_) <;> intro h <;> try (exfalso; omega)) | (simp (disch := first | omega | (simp only [vlen]; first | done | omega)) only [hy, vit, ↓vAq, vBq, ↓reduceIte, Nat.reduceBEq, Nat.reduceEqDiff, Nat.reduceLT, Nat.reduceLeDiff, Nat.reduceAdd, Nat.reduceMul, Nat.reduceSub, reduceCtorEq, Int.reduceToNat]) | (refine Br.mk ?_ ?_ <;> intro h) | (refine BrN.mk (fun h => ?_) ?_) | (refine AltVC.mk ?_ ?_)
        refine CallVC.fold 4 1 x.2.2 0 true ?_
        repeat' first | ((first | refine Br.dec ?_ ?_ | refine Br.eqi ?_ ?_) <;> intro h <;> try (exfalso; omega)) | (simp (disch := first | omega | (simp only [vlen]; first | done | omega)) only [vit, ↓vAq, vBq, ↓reduceIte, Nat.reduceBEq, Nat.reduceEqDiff, Nat.reduceLT, Nat.reduceLeDiff, Nat.reduceAdd, Nat.reduceMul, Nat.reduceSub, reduceCtorEq, Int.reduceToNat]) | (refine Br.mk ?_ ?_ <;> intro h) | (refine BrN.mk (fun h => ?_) ?_) | (refine AltVC.mk ?_ ?_)
        refine CallVC.lendE [0, 1, 2] [.ptr 0 6 0 0, .ag (itD y)] (chO g S1 H1) hnx (by simp) (by rfl) (by unfold chO; simp (disch := first | omega | (simp only [vlen]; first | done | omega)) only [vle0, vit, ↓vAq, vBq, ↓reduceIte, Nat.reduceBEq, Nat.reduceEqDiff, Nat.reduceLT, Nat.reduceLeDiff, Nat.reduceAdd, Nat.reduceMul, Nat.reduceSub, reduceCtorEq, Int.reduceToNat] <;> (repeat' first | rfl | apply And.intro)) ?_
        rintro _ _ ⟨rfl, rfl⟩
        unfold chO
        by_cases hse : s = g.k + lft g x.1
        · have hE : Ear g w i (y.1, y.2.1 + 1, y.2.2) := .comp hx hn hyE (by rw [hny, hse])
          obtain ⟨d1, d2, d3, d4, d5, d6, d7⟩ := Ear.bd hc hE
          have had := add_spec g S1 H1 h2 i (by omega) (by omega) (y.1, y.2.1 + 1, y.2.2) ⟨d5, d6, d7⟩
          have hse' : s = g.k + (g.rules.getD x.1 default).left := hse
          repeat' first | ((first | refine Br.dec ?_ ?_ | refine Br.eqi ?_ ?_) <;> intro h <;> try (exfalso; omega)) | (simp (disch := first | omega | (simp only [vlen]; first | done | omega)) only [vit, ↓vAq, vBq, ↓reduceIte, Nat.reduceBEq, Nat.reduceEqDiff, Nat.reduceLT, Nat.reduceLeDiff, Nat.reduceAdd, Nat.reduceMul, Nat.reduceSub, reduceCtorEq, Int.reduceToNat]) | (refine Br.mk ?_ ?_ <;> intro h) | (refine BrN.mk (fun h => ?_) ?_) | (refine AltVC.mk ?_ ?_)
          refine CallVC.lendE [0, 1, 2] [.ptr 0 6 0 0, iv .i64 i, .ag (itD (y.1, y.2.1 + 1, y.2.2))] (chO g S1 H1) had (by simp) (by rfl) (by unfold chO; simp (disch := first | omega | (simp only [vlen]; first | done | omega)) only [vle0, vit, ↓vAq, vBq, ↓reduceIte, Nat.reduceBEq, Nat.reduceEqDiff, Nat.reduceLT, Nat.reduceLeDiff, Nat.reduceAdd, Nat.reduceMul, Nat.reduceSub, reduceCtorEq, Int.reduceToNat] <;> (repeat' first | rfl | apply And.intro)) ?_
          rintro _ _ ⟨rfl, H2, rfl, h6⟩
          have hxt := addS_ext (S := S1) (i := i) (x := (y.1, y.2.1 + 1, y.2.2)) (by omega)
          have hl2 := hxt.len
          unfold chO
          repeat' first | ((first | refine Br.dec ?_ ?_ | refine Br.eqi ?_ ?_) <;> intro h <;> try (exfalso; omega)) | (simp (disch := first | omega | (simp only [vlen]; first | done | omega)) only [vit, ↓vAq, vBq, ↓reduceIte, Nat.reduceBEq, Nat.reduceEqDiff, Nat.reduceLT, Nat.reduceLeDiff, Nat.reduceAdd, Nat.reduceMul, Nat.reduceSub, reduceCtorEq, Int.reduceToNat]) | (refine Br.mk ?_ ?_ <;> intro h) | (refine BrN.mk (fun h => ?_) ?_) | (refine AltVC.mk ?_ ?_)
          refine loopK.mk (j + 1, addS S1 i (y.1, y.2.1 + 1, y.2.2), H2) (by simp (disch := first | omega | (simp only [vlen]; first | done | omega)) only [vit, ↓vAq, vBq, ↓reduceIte, Nat.reduceBEq, Nat.reduceEqDiff, Nat.reduceLT, Nat.reduceLeDiff, Nat.reduceAdd, Nat.reduceMul, Nat.reduceSub, reduceCtorEq, Int.reduceToNat]) ⟨by
              show j + 1 ≤ ((addS S1 i (y.1, y.2.1 + 1, y.2.2)).getD x.2.2 []).length
              have h7 : j < (S1.getD x.2.2 []).length := hlt
              by_cases e : x.2.2 = i
              · rw [e] at h7 ⊢
                have := hxt.le; omega
              · rw [hxt.oth _ e]; omega, h6, h3.add hE, h4.trans hxt, fun q hq hl => by
            have hg := hxt.get (j := x.2.2) (k := q) (show q < (S1.getD x.2.2 []).length by have h7 : j < (S1.getD x.2.2 []).length := hlt; omega)
            have hg' : ((addS S1 i (y.1, y.2.1 + 1, y.2.2)).getD x.2.2 default).getD q default = (S1.getD x.2.2 default).getD q default := hg
            simp only at hl ⊢
            rw [hg'] at hl ⊢
            by_cases e : q = j
            · subst e; rw [hy]; exact addS_mem (by omega)
            · exact hxt.sub (h5 q (by omega) hl)⟩ (by show 651 - (j + 1) < 651 - j; omega) ?_
          (simp (disch := first | omega | (simp only [vlen]; first | done | omega)) only [Fits_u, Fits_m, Fits_nil, List.length_append, vit, ↓vAq, vBq, ↓reduceIte, Nat.reduceBEq, Nat.reduceEqDiff, Nat.reduceLT, Nat.reduceLeDiff, Nat.reduceAdd, Nat.reduceMul, Nat.reduceSub, reduceCtorEq, Int.reduceToNat] <;> (repeat' first | rfl | apply And.intro))
          all_goals trace_state
        · have hse' : ¬ s = g.k + (g.rules.getD x.1 default).left := hse
          repeat' first | ((first | refine Br.dec ?_ ?_ | refine Br.eqi ?_ ?_) <;> intro h <;> try (exfalso; omega)) | (simp (disch := first | omega | (simp only [vlen]; first | done | omega)) only [vit, ↓vAq, vBq, ↓reduceIte, Nat.reduceBEq, Nat.reduceEqDiff, Nat.reduceLT, Nat.reduceLeDiff, Nat.reduceAdd, Nat.reduceMul, Nat.reduceSub, reduceCtorEq, Int.reduceToNat]) | (refine Br.mk ?_ ?_ <;> intro h) | (refine BrN.mk (fun h => ?_) ?_) | (refine AltVC.mk ?_ ?_)
          refine loopK.mk (j + 1, S1, H1) (by simp (disch := first | omega | (simp only [vlen]; first | done | omega)) only [vit, ↓vAq, vBq, ↓reduceIte, Nat.reduceBEq, Nat.reduceEqDiff, Nat.reduceLT, Nat.reduceLeDiff, Nat.reduceAdd, Nat.reduceMul, Nat.reduceSub, reduceCtorEq, Int.reduceToNat]) ⟨by show j + 1 ≤ (S1.getD x.2.2 default).length; omega, h2, h3, h4, fun q hq hl => by
            by_cases e : q = j
            · subst e; rw [hy, hny] at hl; exact absurd (Option.some.inj hl) hse
            · exact h5 q (by omega) hl⟩ (by show 651 - (j + 1) < 651 - j; omega) ?_
          (simp (disch := first | omega | (simp only [vlen]; first | done | omega)) only [Fits_u, Fits_m, Fits_nil, List.length_append, vit, ↓vAq, vBq, ↓reduceIte, Nat.reduceBEq, Nat.reduceEqDiff, Nat.reduceLT, Nat.reduceLeDiff, Nat.reduceAdd, Nat.reduceMul, Nat.reduceSub, reduceCtorEq, Int.reduceToNat] <;> (repeat' first | rfl | apply And.intro))
          all_goals trace_state
    · repeat' first | ((first | refine Br.dec ?_ ?_ | refine Br.eqi ?_ ?_) <;> intro h <;> try (exfalso; omega)) | (simp (disch := first | omega | (simp only [vlen]; first | done | omega)) only [vit, ↓vAq, vBq, ↓reduceIte, Nat.reduceBEq, Nat.reduceEqDiff, Nat.reduceLT, Nat.reduceLeDiff, Nat.reduceAdd, Nat.reduceMul, Nat.reduceSub, reduceCtorEq, Int.reduceToNat]) | (refine Br.mk ?_ ?_ <;> intro h) | (refine BrN.mk (fun h => ?_) ?_) | (refine AltVC.mk ?_ ?_)
      refine FinH.fold 4 1 x.2.2 0 true tu_kill ?_
      repeat' first | ((first | refine Br.dec ?_ ?_ | refine Br.eqi ?_ ?_) <;> intro h <;> try (exfalso; omega)) | (simp (disch := first | omega | (simp only [vlen]; first | done | omega)) only [vit, ↓vAq, vBq, ↓reduceIte, Nat.reduceBEq, Nat.reduceEqDiff, Nat.reduceLT, Nat.reduceLeDiff, Nat.reduceAdd, Nat.reduceMul, Nat.reduceSub, reduceCtorEq, Int.reduceToNat]) | (refine Br.mk ?_ ?_ <;> intro h) | (refine BrN.mk (fun h => ?_) ?_) | (refine AltVC.mk ?_ ?_)
      exact ch_fin (g := g) (S := S1) (H := H1) (by simp (disch := first | omega | (simp only [vlen]; first | done | omega)) only [vit, ↓vAq, vBq, ↓reduceIte, Nat.reduceBEq, Nat.reduceEqDiff, Nat.reduceLT, Nat.reduceLeDiff, Nat.reduceAdd, Nat.reduceMul, Nat.reduceSub, reduceCtorEq, Int.reduceToNat]) (by unfold chO; simp (disch := first | omega | (simp only [vlen]; first | done | omega)) only [vit, ↓vAq, vBq, ↓reduceIte, Nat.reduceBEq, Nat.reduceEqDiff, Nat.reduceLT, Nat.reduceLeDiff, Nat.reduceAdd, Nat.reduceMul, Nat.reduceSub, reduceCtorEq, Int.reduceToNat]) ⟨by simp (disch := first | omega | (simp only [vlen]; first | done | omega)) only [vit, ↓vAq, vBq, ↓reduceIte, Nat.reduceBEq, Nat.reduceEqDiff, Nat.reduceLT, Nat.reduceLeDiff, Nat.reduceAdd, Nat.reduceMul, Nat.reduceSub, reduceCtorEq, Int.reduceToNat], S1, H1, rfl, h2, h3, h4, fun y hy hny => by
        obtain ⟨q, hq, rfl⟩ := mem_ix hy
        exact h5 q (by have h7 : q < (S1.getD x.2.2 default).length := hq; omega) hny⟩
end Go.Proofs.Ytcbilnmpiladnaa

namespace Go.Proofs.Ytcbilnmpiladnaa
open Go.Dm
set_option linter.unusedSimpArgs false
set_option linter.unnecessarySimpa false
set_option linter.unusedVariables false
set_option linter.defProp false
def vir := And.intro vmr <| And.intro @itD_eq <| And.intro @graD_eq @rulD_eq
def nxI (g : Grammar) (x : It) : Int := match nxt g x with
  | some s => s
  | none => -1
theorem nxI_some {g : Grammar} {x : It} {s : Int} (h : nxt g x = some s) : nxI g x = s := by unfold nxI; rw [h]
theorem nxI_none {g : Grammar} {x : It} (h : nxt g x = none) : nxI g x = -1 := by unfold nxI; rw [h]
set_option maxRecDepth 10000 in
set_option maxHeartbeats 4000000 in
theorem rnext_spec (g : Grammar) (x : It) (h1 : x.1 < g.rules.length) (h2 : (rgt g x.1).length ≤ 4) : Dm.Spec Try.prog 100 [.ag (graD g), .ag (itD x)] (· = iv .i64 (nxI g x)) := by
  refine spec_of_vc mixed Try.func100 c100 (by rw [show Try.f100.ntmps = _ from Try.ntmps100]; simp) ?_
  unfold m100 r100
  unfold rgt at h2
  by_cases he : x.2.1 < (g.rules.getD x.1 default).right.length
  · have hs : nxt g x = some ((g.rules.getD x.1 default).right.getD x.2.1 0) := by
      unfold nxt rgt
      exact get_some (by omega)
    rw [nxI_some hs]
    repeat' first | ((first | refine Br.dec ?_ ?_ | refine Br.eqi ?_ ?_) <;> intro h <;> try (exfalso; omega)) | (simp (disch := first | omega | (simp only [vlen]; first | done | omega)) only [vir, ↓vAq, vBq, ↓reduceIte, Nat.reduceBEq, Nat.reduceEqDiff, Nat.reduceLT, Nat.reduceLeDiff, Nat.reduceAdd, Nat.reduceMul, Nat.reduceSub, reduceCtorEq, Int.reduceToNat]) | (refine Br.mk ?_ ?_ <;> intro h) | (refine BrN.mk (fun h => ?_) ?_) | (refine AltVC.mk ?_ ?_)
    exact fin_mk rfl
  · have hn : nxt g x = none := by unfold nxt rgt; exact List.getElem?_eq_none_iff.2 (by omega)
    rw [nxI_none hn]
    repeat' first | ((first | refine Br.dec ?_ ?_ | refine Br.eqi ?_ ?_) <;> intro h <;> try (exfalso; omega)) | (simp (disch := first | omega | (simp only [vlen]; first | done | omega)) only [vir, ↓vAq, vBq, ↓reduceIte, Nat.reduceBEq, Nat.reduceEqDiff, Nat.reduceLT, Nat.reduceLeDiff, Nat.reduceAdd, Nat.reduceMul, Nat.reduceSub, reduceCtorEq, Int.reduceToNat]) | (refine Br.mk ?_ ?_ <;> intro h) | (refine BrN.mk (fun h => ?_) ?_) | (refine AltVC.mk ?_ ?_)
    exact fin_mk rfl
def SmI (x : It) : Prop := x.1 ≤ 100000 ∧ x.2.1 ≤ 100000 ∧ x.2.2 ≤ 100000
set_option maxRecDepth 10000 in
set_option maxHeartbeats 4000000 in
theorem there_spec (l : List It) (x : It) (hl : l.length ≤ 100000) (hb : ∀ y, y ∈ l → SmI y) (hx : SmI x) : Dm.Spec Try.prog 68 [.sl 3 (tbl itD l), .ag (itD x)] (· = .v (.bool (decide (x ∈ l)))) := by
  refine spec_of_vc mixed Try.func68 c68 (by rw [show Try.f68.ntmps = _ from Try.ntmps68]; simp) ?_
  unfold m68 r68
  repeat' first | ((first | refine Br.dec ?_ ?_ | refine Br.eqi ?_ ?_) <;> intro h <;> try (exfalso; omega)) | (simp (disch := first | omega | (simp only [vlen]; first | done | omega)) only [vir, ↓vAq, vBq, ↓reduceIte, Nat.reduceBEq, Nat.reduceEqDiff, Nat.reduceLT, Nat.reduceLeDiff, Nat.reduceAdd, Nat.reduceMul, Nat.reduceSub, reduceCtorEq, Int.reduceToNat]) | (refine Br.mk ?_ ?_ <;> intro h) | (refine BrN.mk (fun h => ?_) ?_) | (refine AltVC.mk ?_ ?_)
  refine LoopVC.mk (X := Nat) (fun i => [(9, iv .i64 i)]) (fun i => [(0, ⟨3, [itD x], true, false, .fix⟩)]) (fun i => l.length - i) (fun i => i ≤ l.length ∧ ∀ j, j < i → l.getD j default ≠ x) 0 ⟨Nat.zero_le _, fun j hj => absurd hj (Nat.not_lt_zero _)⟩ ?_ ?_
  · (simp (disch := first | omega | (simp only [vlen]; first | done | omega)) only [Fits_u, Fits_m, Fits_nil, List.length_append, vir, ↓vAq, vBq, ↓reduceIte, Nat.reduceBEq, Nat.reduceEqDiff, Nat.reduceLT, Nat.reduceLeDiff, Nat.reduceAdd, Nat.reduceMul, Nat.reduceSub, reduceCtorEq, Int.reduceToNat] <;> (repeat' first | rfl | apply And.intro))
    all_goals trace_state
  · rintro i ⟨hi, hn⟩
    by_cases hlt : i < l.length
    · have hm := getD_mem' hlt
      have hn1 := hn
      obtain ⟨b1, b2, b3⟩ := hb _ hm
      obtain ⟨d1, d2, d3⟩ := hx
      generalize hy : l.getD i default = y at *
      repeat' first | ((first | refine Br.dec ?_ ?_ | refine Br.eqi ?_ ?_) <;> intro h <;> try (exfalso; omega)) | (simp (disch := first | omega | (simp only [vlen]; first | done | omega)) only [hy, vir, ↓vAq, vBq, ↓reduceIte, Nat.reduceBEq, Nat.reduceEqDiff, Nat.reduceLT, Nat.reduceLeDiff, Nat.reduceAdd, Nat.reduceMul, Nat.reduceSub, reduceCtorEq, Int.reduceToNat]) | (refine Br.mk ?_ ?_ <;> intro h) | (refine BrN.mk (fun h => ?_) ?_) | (refine AltVC.mk ?_ ?_)
      refine BrE.mk (fun h => ?_) (fun h => ?_)
      · have e : y = x := by
          obtain ⟨a, b, c⟩ := y
          obtain ⟨a', b', c'⟩ := x
          simp at h
          simp; omega
        have hd : decide (x ∈ l) = true := decide_eq_true (e ▸ hm)
        rw [hd]
        repeat' first | ((first | refine Br.dec ?_ ?_ | refine Br.eqi ?_ ?_) <;> intro h <;> try (exfalso; omega)) | (simp (disch := first | omega | (simp only [vlen]; first | done | omega)) only [vir, ↓vAq, vBq, ↓reduceIte, Nat.reduceBEq, Nat.reduceEqDiff, Nat.reduceLT, Nat.reduceLeDiff, Nat.reduceAdd, Nat.reduceMul, Nat.reduceSub, reduceCtorEq, Int.reduceToNat]) | (refine Br.mk ?_ ?_ <;> intro h) | (refine BrN.mk (fun h => ?_) ?_) | (refine AltVC.mk ?_ ?_)
        exact fin_mk rfl
      · have e : y ≠ x := fun e => h (by rw [e])
        repeat' first | ((first | refine Br.dec ?_ ?_ | refine Br.eqi ?_ ?_) <;> intro h <;> try (exfalso; omega)) | (simp (disch := first | omega | (simp only [vlen]; first | done | omega)) only [vir, ↓vAq, vBq, ↓reduceIte, Nat.reduceBEq, Nat.reduceEqDiff, Nat.reduceLT, Nat.reduceLeDiff, Nat.reduceAdd, Nat.reduceMul, Nat.reduceSub, reduceCtorEq, Int.reduceToNat]) | (refine Br.mk ?_ ?_ <;> intro h) | (refine BrN.mk (fun h => ?_) ?_) | (refine AltVC.mk ?_ ?_)
        refine loopK.mk (i + 1) (by simp (disch := first | omega | (simp only [vlen]; first | done | omega)) only [vir, ↓vAq, vBq, ↓reduceIte, Nat.reduceBEq, Nat.reduceEqDiff, Nat.reduceLT, Nat.reduceLeDiff, Nat.reduceAdd, Nat.reduceMul, Nat.reduceSub, reduceCtorEq, Int.reduceToNat]) ⟨by show i + 1 ≤ _; omega, fun j hj => by
          by_cases e2 : j = i
          · subst e2; rw [hy]; exact e
          · exact hn1 j (by omega)⟩ (by show _ - (i + 1) < _ - i; omega) ?_
        (simp (disch := first | omega | (simp only [vlen]; first | done | omega)) only [Fits_u, Fits_m, Fits_nil, List.length_append, vir, ↓vAq, vBq, ↓reduceIte, Nat.reduceBEq, Nat.reduceEqDiff, Nat.reduceLT, Nat.reduceLeDiff, Nat.reduceAdd, Nat.reduceMul, Nat.reduceSub, reduceCtorEq, Int.reduceToNat] <;> (repeat' first | rfl | apply And.intro))
        all_goals trace_state
    · have hd : decide (x ∈ l) = false := decide_eq_false fun hm => by
        obtain ⟨j, hj, e⟩ := mem_ix hm
        exact hn j (by omega) e
      rw [hd]
      repeat' first | ((first | refine Br.dec ?_ ?_ | refine Br.eqi ?_ ?_) <;> intro h <;> try (exfalso; omega)) | (simp (disch := first | omega | (simp only [vlen]; first | done | omega)) only [vir, ↓vAq, vBq, ↓reduceIte, Nat.reduceBEq, Nat.reduceEqDiff, Nat.reduceLT, Nat.reduceLeDiff, Nat.reduceAdd, Nat.reduceMul, Nat.reduceSub, reduceCtorEq, Int.reduceToNat]) | (refine Br.mk ?_ ?_ <;> intro h) | (refine BrN.mk (fun h => ?_) ?_) | (refine AltVC.mk ?_ ?_)
      exact fin_mk rfl
set_option maxRecDepth 10000 in
set_option maxHeartbeats 4000000 in
theorem ahead_spec (a b : It) : Dm.Spec Try.prog 70 [.ag (itD a), .ag (itD b)] (· = .v (.bool (ilt a b))) := by
  refine spec_of_vc mixed Try.func70 c70 (by rw [show Try.f70.ntmps = _ from Try.ntmps70]; simp) ?_
  unfold m70 r70
  unfold ilt
  by_cases h1 : a.1 = b.1
  · by_cases h2 : a.2.1 = b.2.1
    · repeat' first | ((first | refine Br.dec ?_ ?_ | refine Br.eqi ?_ ?_) <;> intro h <;> try (exfalso; omega)) | (simp (disch := first | omega | (simp only [vlen]; first | done | omega)) only [vir, ↓vAq, vBq, ↓reduceIte, Nat.reduceBEq, Nat.reduceEqDiff, Nat.reduceLT, Nat.reduceLeDiff, Nat.reduceAdd, Nat.reduceMul, Nat.reduceSub, reduceCtorEq, Int.reduceToNat]) | (refine Br.mk ?_ ?_ <;> intro h) | (refine BrN.mk (fun h => ?_) ?_) | (refine AltVC.mk ?_ ?_)
      exact fin_mk (vbEq (by rw [decide_eq_decide]; omega))
    · repeat' first | ((first | refine Br.dec ?_ ?_ | refine Br.eqi ?_ ?_) <;> intro h <;> try (exfalso; omega)) | (simp (disch := first | omega | (simp only [vlen]; first | done | omega)) only [vir, ↓vAq, vBq, ↓reduceIte, Nat.reduceBEq, Nat.reduceEqDiff, Nat.reduceLT, Nat.reduceLeDiff, Nat.reduceAdd, Nat.reduceMul, Nat.reduceSub, reduceCtorEq, Int.reduceToNat]) | (refine Br.mk ?_ ?_ <;> intro h) | (refine BrN.mk (fun h => ?_) ?_) | (refine AltVC.mk ?_ ?_)
      exact fin_mk (vbEq (by rw [decide_eq_decide]; omega))
  · repeat' first | ((first | refine Br.dec ?_ ?_ | refine Br.eqi ?_ ?_) <;> intro h <;> try (exfalso; omega)) | (simp (disch := first | omega | (simp only [vlen]; first | done | omega)) only [vir, ↓vAq, vBq, ↓reduceIte, Nat.reduceBEq, Nat.reduceEqDiff, Nat.reduceLT, Nat.reduceLeDiff, Nat.reduceAdd, Nat.reduceMul, Nat.reduceSub, reduceCtorEq, Int.reduceToNat]) | (refine Br.mk ?_ ?_ <;> intro h) | (refine BrN.mk (fun h => ?_) ?_) | (refine AltVC.mk ?_ ?_)
    exact fin_mk (vbEq (by rw [decide_eq_decide]; omega))
end Go.Proofs.Ytcbilnmpiladnaa

namespace Go.Proofs.Ytcbilnmpiladnaa
open Go.Dm
set_option linter.unusedSimpArgs false
set_option linter.unnecessarySimpa false
set_option linter.unusedVariables false
set_option linter.defProp false
def cmpI (a b : Int) : Int := if a < b then -1 else if b < a then 1 else 0
def fnz : List Int → Int
  | [] => 0
  | x :: l => if x ≠ 0 then x else fnz l
def icmp (a b : It) : Int := fnz [cmpI a.1 b.1, cmpI a.2.1 b.2.1, cmpI a.2.2 b.2.2]
end Go.Proofs.Ytcbilnmpiladnaa

namespace Go.Proofs.Ytcbilnmpiladnaa
open Go.Dm
theorem cmpI_lt {a b : Int} (h : a < b) : cmpI a b = -1 := if_pos h
theorem cmpI_gt {a b : Int} (h : b < a) : cmpI a b = 1 := by unfold cmpI; rw [if_neg (by omega), if_pos h]
theorem cmpI_eq {a b : Int} (h : a = b) : cmpI a b = 0 := by unfold cmpI; rw [if_neg (by omega), if_neg (by omega)]
theorem fnz_z {x : Int} {l : List Int} (h : x = 0) : fnz (x :: l) = fnz l := if_neg (by simp [h])
theorem fnz_n {x : Int} {l : List Int} (h : x ≠ 0) : fnz (x :: l) = x := if_pos h
theorem icmp_lt {a b : It} : icmp a b < 0 ↔ ilt a b = true := by
  unfold icmp ilt
  rw [decide_eq_true_eq]
  rcases Nat.lt_trichotomy a.1 b.1 with h | h | h
  · rw [cmpI_lt (by omega), fnz_n (by decide)]
    exact ⟨fun _ => .inl h, fun _ => by decide⟩
  · rw [cmpI_eq (by omega), fnz_z rfl]
    rcases Nat.lt_trichotomy a.2.1 b.2.1 with h2 | h2 | h2
    · rw [cmpI_lt (by omega), fnz_n (by decide)]
      exact ⟨fun _ => .inr ⟨h, .inl h2⟩, fun _ => by decide⟩
    · rw [cmpI_eq (by omega), fnz_z rfl]
      rcases Nat.lt_trichotomy a.2.2 b.2.2 with h3 | h3 | h3
      · rw [cmpI_lt (by omega), fnz_n (by decide)]
        exact ⟨fun _ => .inr ⟨h, .inr ⟨h2, h3⟩⟩, fun _ => by decide⟩
      · rw [cmpI_eq (by omega), fnz_z rfl]
        exact ⟨fun h => absurd h (by decide), fun _ => by omega⟩
      · rw [cmpI_gt (by omega), fnz_n (by decide)]
        exact ⟨fun h => absurd h (by decide), fun _ => by omega⟩
    · rw [cmpI_gt (by omega), fnz_n (by decide)]
      exact ⟨fun h => absurd h (by decide), fun _ => by omega⟩
  · rw [cmpI_gt (by omega), fnz_n (by decide)]
    exact ⟨fun h => absurd h (by decide), fun _ => by omega⟩
end Go.Proofs.Ytcbilnmpiladnaa

namespace Go.Proofs.Ytcbilnmpiladnaa
open Go.RowKit Go.Dm
set_option linter.unusedSimpArgs false
set_option linter.unnecessarySimpa false
set_option linter.unusedVariables false
set_option maxHeartbeats 1000000 in
theorem isNaN_run (a : Int) (W : World) : Calls Try.prog 99 #[.int .i64 a] W fun e w' => e = .returned (.bool false) ∧ w' = W := by
  go_enter Try.func99, Try.ntmps99
  go_wp2
  all_goals first
    | (go_ret; exact ⟨by simp, rfl⟩)
    | (go_end0; exact ⟨by simp, rfl⟩)
set_option maxRecDepth 100000 in
set_option maxHeartbeats 2000000 in
theorem ccmp_run (a b : Int) (W : World) : Calls Try.prog 67 #[.int .i64 a, .int .i64 b] W fun e w' => e = .returned (.int .i64 (cmpI a b)) ∧ w' = W := by
  have h1 := fun W' => isNaN_run a W'
  have h2 := fun W' => isNaN_run b W'
  go_enter Try.func67, Try.ntmps67
  go_wp2_with (go_at_call 99; first | (refine (h1 _).mono ?_; rintro e w' ⟨rfl, rfl⟩) | (refine (h2 _).mono ?_; rintro e w' ⟨rfl, rfl⟩))
  all_goals first
    | (go_ret; refine ⟨?_, rfl⟩; first | (simp [*, cmpI]; done) | (rw [cmpI_eq (by omega)]; rfl))
    | (go_end0; refine ⟨?_, rfl⟩; first | (simp [*, cmpI]; done) | (rw [cmpI_eq (by omega)]; rfl))
set_option maxRecDepth 100000 in
set_option maxHeartbeats 2000000 in
theorem cor_run (x y z : Int) (b : Nat) (W : World) (h0 : W.cell? ⟨b, 0, none⟩ = some (.int .i64 x)) (h1 : W.cell? ⟨b, 1, none⟩ = some (.int .i64 y)) (h2 : W.cell? ⟨b, 2, none⟩ = some (.int .i64 z)) :
    Calls Try.prog 66 #[.slice (some ⟨b, 0, none⟩) 3 3] W fun e w' => e = .returned (.int .i64 (fnz [x, y, z])) ∧ w' = W := by
  go_enter Try.func66, Try.ntmps66
  go_wp2
  go_loop [8] (fun i => i = .int .i64 0 ∨ (i = .int .i64 1 ∧ x = 0) ∨ (i = .int .i64 2 ∧ x = 0 ∧ y = 0) ∨ (i = .int .i64 3 ∧ x = 0 ∧ y = 0 ∧ z = 0)) (fun i => (3 - intOf i).toNat)
  case atStart => exact .inl rfl
  case round =>
    rcases hrel with rfl | ⟨rfl, e1⟩ | ⟨rfl, e1, e2⟩ | ⟨rfl, e1, e2, e3⟩
    · by_cases hx : x = 0
      · go_wp2
        go_round
        case rel => exact .inr (.inl ⟨rfl, hx⟩)
        case measure => simp [intOf]
      · go_wp2
        go_ret
        exact ⟨by simp [fnz, hx], rfl⟩
    · by_cases hx : y = 0
      · go_wp2
        go_round
        case rel => exact .inr (.inr (.inl ⟨rfl, e1, hx⟩))
        case measure => simp [intOf]
      · go_wp2
        go_ret
        exact ⟨by simp [fnz, hx, e1], rfl⟩
    · by_cases hx : z = 0
      · go_wp2
        go_round
        case rel => exact .inr (.inr (.inr ⟨rfl, e1, e2, hx⟩))
        case measure => simp [intOf]
      · go_wp2
        go_ret
        exact ⟨by simp [fnz, hx, e1, e2], rfl⟩
    · go_wp2
      go_ret
      exact ⟨by simp [fnz, e1, e2, e3], rfl⟩
theorem acell {W : World} {arr : Array Value} {T : TypeId} {j : Nat} {x : Value} (h : arr[j]? = some x) : (W.alloc (Obj.cells arr T)).drew.cell? ⟨W.heap.size, j, none⟩ = some x := by
  have h2 : (W.alloc (Obj.cells arr T)).drew.heap[W.heap.size]? = some (Obj.cells arr T) := by
    show (W.heap.push _)[_]? = _
    rw [Array.getElem?_push, if_pos rfl]
  unfold World.cell?
  rw [h2]
  simpa using h
set_option maxRecDepth 100000 in
set_option maxHeartbeats 800000 in
theorem icmp_run0 (c : Int → Int → Int) (a1 a2 a3 b1 b2 b3 r : Int) (hc : Hid (∀ a b W', Calls Try.prog 67 #[.int .i64 a, .int .i64 b] W' fun e w' => e = .returned (.int .i64 (c a b)) ∧ w' = W'))
    (hor : Hid (∀ b W', W'.cell? ⟨b, 0, none⟩ = some (.int .i64 (c a1 b1)) → W'.cell? ⟨b, 1, none⟩ = some (.int .i64 (c a2 b2)) → W'.cell? ⟨b, 2, none⟩ = some (.int .i64 (c a3 b3)) → Calls Try.prog 66 #[.slice (some ⟨b, 0, none⟩) 3 3] W' fun e w' => e = .returned (.int .i64 r) ∧ w' = W'))
    (W : World) : Calls Try.prog 65 #[.agg #[.int .i64 a1, .int .i64 a2, .int .i64 a3], .agg #[.int .i64 b1, .int .i64 b2, .int .i64 b3]] W fun e w' => e = .returned (.int .i64 r) ∧ ∃ q os', w' = Go.Sort.grow (W.drewN q) os' := by
  obtain ⟨o1, ho1⟩ : ∃ o1, o1 = Obj.cells #[Value.int IntKind.i64 a1, Value.int IntKind.i64 a2, Value.int IntKind.i64 a3] 120 := ⟨_, rfl⟩
  obtain ⟨o2, ho2⟩ : ∃ o2, o2 = Obj.cells #[Value.int IntKind.i64 b1, Value.int IntKind.i64 b2, Value.int IntKind.i64 b3] 120 := ⟨_, rfl⟩
  obtain ⟨W2, hW2⟩ : ∃ W2, W2 = (W.alloc o1).alloc o2 := ⟨_, rfl⟩
  obtain ⟨H, hH⟩ : ∃ H, H = W.heap.size := ⟨_, rfl⟩
  have g1 : W2.heap[H]? = some o1 := by
    rw [hW2, hH]
    show ((W.heap.push o1).push o2)[_]? = _
    rw [Array.getElem?_push, if_neg (by simp), Array.getElem?_push, if_pos rfl]
  have g2 : W2.heap[H + 1]? = some o2 := by
    rw [hW2, hH]
    show ((W.heap.push o1).push o2)[_]? = _
    rw [Array.getElem?_push, if_pos (by simp)]
  have d1 : W2.cell? ⟨H, 0, none⟩ = some (.int .i64 a1) := by simp [World.cell?, g1, ho1]
  have d2 : W2.cell? ⟨H, 1, none⟩ = some (.int .i64 a2) := by simp [World.cell?, g1, ho1]
  have d3 : W2.cell? ⟨H, 2, none⟩ = some (.int .i64 a3) := by simp [World.cell?, g1, ho1]
  have d4 : W2.cell? ⟨H + 1, 0, none⟩ = some (.int .i64 b1) := by simp [World.cell?, g2, ho2]
  have d5 : W2.cell? ⟨H + 1, 1, none⟩ = some (.int .i64 b2) := by simp [World.cell?, g2, ho2]
  have d6 : W2.cell? ⟨H + 1, 2, none⟩ = some (.int .i64 b3) := by simp [World.cell?, g2, ho2]
  have hgr : Hid (W2 = Go.Sort.grow W #[o1, o2]) := by
    show W2 = _
    rw [hW2, Go.Sort.alloc_eq_grow, Go.Sort.alloc_eq_grow, Go.Sort.grow_grow]; rfl
  go_enter Try.func65, Try.ntmps65
  go_wp2
  rw [← ho1, ← ho2, ← hW2, ← hH]
  clear hW2 g1 g2 ho1 ho2 hH
  go_region_held3 (fun w' => w'.cell? ⟨H, 0, none⟩ = some (.int .i64 a1) ∧ w'.cell? ⟨H, 1, none⟩ = some (.int .i64 a2) ∧ w'.cell? ⟨H, 2, none⟩ = some (.int .i64 a3)
    ∧ w'.cell? ⟨H + 1, 0, none⟩ = some (.int .i64 b1) ∧ w'.cell? ⟨H + 1, 1, none⟩ = some (.int .i64 b2) ∧ w'.cell? ⟨H + 1, 2, none⟩ = some (.int .i64 b3)) (go_keep)
    (first | (go_at_call 67; refine (hc.out _ _ _).mono ?_; rintro e w' ⟨rfl, rfl⟩) | (go_at_call 66; refine (hor.out _ _ ?_ ?_ ?_).mono ?_; (exact acell rfl); (exact acell rfl); (exact acell rfl); rintro e w' ⟨rfl, rfl⟩))
  go_wp2
  go_ret
  refine ⟨rfl, 1, #[o1, o2, Obj.cells #[Value.int IntKind.i64 (c a1 b1), Value.int IntKind.i64 (c a2 b2), Value.int IntKind.i64 (c a3 b3)] 3], ?_⟩
  rw [hgr.out]
  rw [Go.Sort.alloc_eq_grow, Go.Sort.grow_grow]; rfl
theorem icmp_run (a b : It) (W : World) : Calls Try.prog 65 #[.agg #[.int .i64 a.1, .int .i64 a.2.1, .int .i64 a.2.2], .agg #[.int .i64 b.1, .int .i64 b.2.1, .int .i64 b.2.2]] W fun e w' => e = .returned (.int .i64 (icmp a b)) ∧ ∃ q os', w' = Go.Sort.grow (W.drewN q) os' :=
  icmp_run0 cmpI _ _ _ _ _ _ _ ccmp_run (fun b W' h0 h1 h2 => cor_run _ _ _ b W' h0 h1 h2) W
end Go.Proofs.Ytcbilnmpiladnaa

namespace Go.Proofs.Ytcbilnmpiladnaa
open Go.Dm
set_option linter.unusedSimpArgs false
set_option linter.unnecessarySimpa false
set_option linter.unusedVariables false
set_option linter.defProp false
def ClI (g : Grammar) (i : Nat) (S : List (List It)) (x : It) : Prop := (∀ r, r < g.rules.length → nxt g x = some (g.k + lft g r) → (r, 0, i) ∈ S.getD i []) ∧ (nxt g x = none → coP g i x S)
def clP (g : Grammar) (i : Nat) (S : List (List It)) : Prop := ∀ x, x ∈ S.getD i [] → ClI g i S x
theorem Ext.mid {i : Nat} {S1 S2 S3 : List (List It)} (h : Ext i S1 S2) (k : Ext i S2 S3) (e : S3 = S1) : S2 = S1 := by
  subst e
  exact h.same (by have := h.le; have := k.le; omega)
def chM (g : Grammar) (S : List (List It)) (H : List (List Ha)) : List (Nat × Ob) := [(0, ⟨6, [[iv .i64 g.k, iv .i64 g.n, iv .i64 g.start, .sl 2 (tbl rulD g.rules), .ref 1 1 0 S.length, .ref 2 1 0 H.length]], false, true, .fix⟩), (1, ⟨1, tbl scR S, true, true, .fix⟩), (2, ⟨1, tbl hmR H, true, true, .fix⟩)]
set_option maxRecDepth 10000 in
set_option maxHeartbeats 4000000 in
theorem close_spec (g : Grammar) (w : List Int) (hc : IC g w) (S : List (List It)) (H : List (List Ha)) (hH : HI S H) (hS : Snd g w S) (i : Nat) (hi : i ≤ w.length) : Dm.SpecH Try.prog 94 [.ptr 0 6 0 0, iv .i64 i] (chO g S H) (stR g w S i (clP g i)) := by
  refine specH_of_vc mixed Try.func94 c94 (by rw [show Try.f94.ntmps = _ from Try.ntmps94]; simp) ?_
  unfold m94 r94
  have hlen := hS.len
  have hrl := hc.v.len
  have hwl := hc.w
  have hk := hc.v.k
  have hnn := hc.v.n
  unfold chO
  repeat' first | ((first | refine Br.dec ?_ ?_ | refine Br.eqi ?_ ?_) <;> intro h <;> try (exfalso; omega)) | (simp (disch := first | omega | (simp only [vlen]; first | done | omega)) only [vit, ↓vAq, vBq, ↓reduceIte, Nat.reduceBEq, Nat.reduceEqDiff, Nat.reduceLT, Nat.reduceLeDiff, Nat.reduceAdd, Nat.reduceMul, Nat.reduceSub, reduceCtorEq, Int.reduceToNat]) | (refine Br.mk ?_ ?_ <;> intro h) | (refine BrN.mk (fun h => ?_) ?_) | (refine AltVC.mk ?_ ?_)
  refine LoopVC.mk (X := Int × List (List It) × List (List Ha)) (fun z => [(4, iv .i64 z.1)]) (fun z => chM g z.2.1 z.2.2) (fun z => (652 - z.1).toNat)
    (fun z => HI z.2.1 z.2.2 ∧ Snd g w z.2.1 ∧ Ext i S z.2.1 ∧ -1 ≤ z.1 ∧ z.1 ≤ (z.2.1.getD i default).length ∧ (z.1 = (z.2.1.getD i default).length → clP g i z.2.1)) (-1, S, H) ⟨hH, hS, .refl, Int.le_refl _, by show (-1 : Int) ≤ _; omega, fun e => absurd e (by show ¬ (-1 : Int) = _; omega)⟩ ?_ ?_
  · unfold chM
    (simp (disch := first | omega | (simp only [vlen]; first | done | omega)) only [Fits_u, Fits_m, Fits_nil, List.length_append, vit, ↓vAq, vBq, ↓reduceIte, Nat.reduceBEq, Nat.reduceEqDiff, Nat.reduceLT, Nat.reduceLeDiff, Nat.reduceAdd, Nat.reduceMul, Nat.reduceSub, reduceCtorEq, Int.reduceToNat] <;> (repeat' first | rfl | apply And.intro))
    all_goals trace_state
  · rintro ⟨m, S1, H1⟩ ⟨h1, h2, h3, h4, h5, h6⟩
    simp only at h1 h2 h3 h4 h5 h6 ⊢
    have hl1 := h2.len
    have hs1 : (S1.getD i default).length ≤ 650 := hc.small h2 i
    unfold chM
    by_cases hme : m = (S1.getD i default).length
    · repeat' first | ((first | refine Br.dec ?_ ?_ | refine Br.eqi ?_ ?_) <;> intro h <;> try (exfalso; omega)) | (simp (disch := first | omega | (simp only [vlen]; first | done | omega)) only [vit, ↓vAq, vBq, ↓reduceIte, Nat.reduceBEq, Nat.reduceEqDiff, Nat.reduceLT, Nat.reduceLeDiff, Nat.reduceAdd, Nat.reduceMul, Nat.reduceSub, reduceCtorEq, Int.reduceToNat]) | (refine Br.mk ?_ ?_ <;> intro h) | (refine BrN.mk (fun h => ?_) ?_) | (refine AltVC.mk ?_ ?_)
      refine FinH.fold 3 1 i 0 true tu_kill ?_
      repeat' first | ((first | refine Br.dec ?_ ?_ | refine Br.eqi ?_ ?_) <;> intro h <;> try (exfalso; omega)) | (simp (disch := first | omega | (simp only [vlen]; first | done | omega)) only [vit, ↓vAq, vBq, ↓reduceIte, Nat.reduceBEq, Nat.reduceEqDiff, Nat.reduceLT, Nat.reduceLeDiff, Nat.reduceAdd, Nat.reduceMul, Nat.reduceSub, reduceCtorEq, Int.reduceToNat]) | (refine Br.mk ?_ ?_ <;> intro h) | (refine BrN.mk (fun h => ?_) ?_) | (refine AltVC.mk ?_ ?_)
      exact ch_fin (g := g) (S := S1) (H := H1) (by simp (disch := first | omega | (simp only [vlen]; first | done | omega)) only [vit, ↓vAq, vBq, ↓reduceIte, Nat.reduceBEq, Nat.reduceEqDiff, Nat.reduceLT, Nat.reduceLeDiff, Nat.reduceAdd, Nat.reduceMul, Nat.reduceSub, reduceCtorEq, Int.reduceToNat]) (by unfold chO; simp (disch := first | omega | (simp only [vlen]; first | done | omega)) only [vit, ↓vAq, vBq, ↓reduceIte, Nat.reduceBEq, Nat.reduceEqDiff, Nat.reduceLT, Nat.reduceLeDiff, Nat.reduceAdd, Nat.reduceMul, Nat.reduceSub, reduceCtorEq, Int.reduceToNat]) ⟨by simp (disch := first | omega | (simp only [vlen]; first | done | omega)) only [vit, ↓vAq, vBq, ↓reduceIte, Nat.reduceBEq, Nat.reduceEqDiff, Nat.reduceLT, Nat.reduceLeDiff, Nat.reduceAdd, Nat.reduceMul, Nat.reduceSub, reduceCtorEq, Int.reduceToNat], S1, H1, rfl, h1, h2, h3, h6 hme⟩
    · repeat' first | ((first | refine Br.dec ?_ ?_ | refine Br.eqi ?_ ?_) <;> intro h <;> try (exfalso; omega)) | (simp (disch := first | omega | (simp only [vlen]; first | done | omega)) only [vit, ↓vAq, vBq, ↓reduceIte, Nat.reduceBEq, Nat.reduceEqDiff, Nat.reduceLT, Nat.reduceLeDiff, Nat.reduceAdd, Nat.reduceMul, Nat.reduceSub, reduceCtorEq, Int.reduceToNat]) | (refine Br.mk ?_ ?_ <;> intro h) | (refine BrN.mk (fun h => ?_) ?_) | (refine AltVC.mk ?_ ?_)
      refine LoopVC.fold 3 1 i 0 true ?_
      repeat' first | ((first | refine Br.dec ?_ ?_ | refine Br.eqi ?_ ?_) <;> intro h <;> try (exfalso; omega)) | (simp (disch := first | omega | (simp only [vlen]; first | done | omega)) only [vit, ↓vAq, vBq, ↓reduceIte, Nat.reduceBEq, Nat.reduceEqDiff, Nat.reduceLT, Nat.reduceLeDiff, Nat.reduceAdd, Nat.reduceMul, Nat.reduceSub, reduceCtorEq, Int.reduceToNat]) | (refine Br.mk ?_ ?_ <;> intro h) | (refine BrN.mk (fun h => ?_) ?_) | (refine AltVC.mk ?_ ?_)
      refine LoopVC.mk (X := Nat × List (List It) × List (List Ha)) (fun z => [(5, iv .i64 z.1), (4, iv .i64 (S1.getD i default).length)]) (fun z => chM g z.2.1 z.2.2) (fun z => 651 - z.1)
        (fun z => z.1 ≤ (z.2.1.getD i default).length ∧ HI z.2.1 z.2.2 ∧ Snd g w z.2.1 ∧ Ext i S1 z.2.1 ∧ (z.2.1 = S1 → ∀ q, q < z.1 → ClI g i S1 ((S1.getD i default).getD q default))) (0, S1, H1) ⟨Nat.zero_le _, h1, h2, .refl, fun _ q hq => absurd hq (Nat.not_lt_zero _)⟩ ?_ ?_
      · unfold chM
        (simp (disch := first | omega | (simp only [vlen]; first | done | omega)) only [Fits_u, Fits_m, Fits_nil, List.length_append, vit, ↓vAq, vBq, ↓reduceIte, Nat.reduceBEq, Nat.reduceEqDiff, Nat.reduceLT, Nat.reduceLeDiff, Nat.reduceAdd, Nat.reduceMul, Nat.reduceSub, reduceCtorEq, Int.reduceToNat] <;> (repeat' first | rfl | apply And.intro))
        all_goals trace_state
      · rintro ⟨j, S2, H2⟩ ⟨k1, k2, k3, k4, k5⟩
        simp only at k1 k2 k3 k4 k5 ⊢
        have hl2 := k3.len
        have hs2 : (S2.getD i default).length ≤ 650 := hc.small k3 i
        unfold chM
        by_cases hlt : j < (S2.getD i default).length
        · have hxE : Ear g w i ((S2.getD i default).getD j default) := k3.ear _ _ (getD_mem' hlt)
          have hxj : S2 = S1 → (S1.getD i default).getD j default = (S2.getD i default).getD j default := fun e => by rw [e]
          generalize hx : (S2.getD i default).getD j default = x at *
          obtain ⟨c1, c2, c3, c4, c5, c6, c7⟩ := Ear.bd hc hxE
          have hnx := next_spec g S2 H2 x c1 c2
          cases hny : nxt g x with
          | none =>
            rw [nxD_none hny] at hnx
            have hco := complete_spec g w hc S2 H2 k2 k3 i x hxE hny
            repeat' first | ((first | refine Br.dec ?_ ?_ | refine Br.eqi ?_ ?_) <;> intro h <;> try (exfalso; omega)) | (simp (disch := first | omega | (simp only [vlen]; first | done | omega)) only [hx, vit, ↓vAq, vBq, ↓reduceIte, Nat.reduceBEq, Nat.reduceEqDiff, Nat.reduceLT, Nat.reduceLeDiff, Nat.reduceAdd, Nat.reduceMul, Nat.reduceSub, reduceCtorEq, Int.reduceToNat]) | (refine Br.mk ?_ ?_ <;> intro h) | (refine BrN.mk (fun h => ?_) ?_) | (refine AltVC.mk ?_ ?_)
            refine CallVC.fold 4 1 i 0 true ?_
            repeat' first | ((first | refine Br.dec ?_ ?_ | refine Br.eqi ?_ ?_) <;> intro h <;> try (exfalso; omega)) | (simp (disch := first | omega | (simp only [vlen]; first | done | omega)) only [vit, ↓vAq, vBq, ↓reduceIte, Nat.reduceBEq, Nat.reduceEqDiff, Nat.reduceLT, Nat.reduceLeDiff, Nat.reduceAdd, Nat.reduceMul, Nat.reduceSub, reduceCtorEq, Int.reduceToNat]) | (refine Br.mk ?_ ?_ <;> intro h) | (refine BrN.mk (fun h => ?_) ?_) | (refine AltVC.mk ?_ ?_)
            refine CallVC.lendE [0, 1, 2] [.ptr 0 6 0 0, .ag (itD x)] (chO g S2 H2) hnx (by simp) (by rfl) (by unfold chO; simp (disch := first | omega | (simp only [vlen]; first | done | omega)) only [vle0, vit, ↓vAq, vBq, ↓reduceIte, Nat.reduceBEq, Nat.reduceEqDiff, Nat.reduceLT, Nat.reduceLeDiff, Nat.reduceAdd, Nat.reduceMul, Nat.reduceSub, reduceCtorEq, Int.reduceToNat] <;> (repeat' first | rfl | apply And.intro)) ?_
            rintro _ _ ⟨rfl, rfl⟩
            unfold chO
            repeat' first | ((first | refine Br.dec ?_ ?_ | refine Br.eqi ?_ ?_) <;> intro h <;> try (exfalso; omega)) | (simp (disch := first | omega | (simp only [vlen]; first | done | omega)) only [vit, ↓vAq, vBq, ↓reduceIte, Nat.reduceBEq, Nat.reduceEqDiff, Nat.reduceLT, Nat.reduceLeDiff, Nat.reduceAdd, Nat.reduceMul, Nat.reduceSub, reduceCtorEq, Int.reduceToNat]) | (refine Br.mk ?_ ?_ <;> intro h) | (refine BrN.mk (fun h => ?_) ?_) | (refine AltVC.mk ?_ ?_)
            refine CallVC.lendE [0, 1, 2] [.ptr 0 6 0 0, iv .i64 i, .ag (itD x)] (chO g S2 H2) hco (by simp) (by rfl) (by unfold chO; simp (disch := first | omega | (simp only [vlen]; first | done | omega)) only [vle0, vit, ↓vAq, vBq, ↓reduceIte, Nat.reduceBEq, Nat.reduceEqDiff, Nat.reduceLT, Nat.reduceLeDiff, Nat.reduceAdd, Nat.reduceMul, Nat.reduceSub, reduceCtorEq, Int.reduceToNat] <;> (repeat' first | rfl | apply And.intro)) ?_
            rintro _ _ ⟨rfl, S3, H3, rfl, e1, e2, e3, e4⟩
            have hl3 := e3.len
            unfold chO
            repeat' first | ((first | refine Br.dec ?_ ?_ | refine Br.eqi ?_ ?_) <;> intro h <;> try (exfalso; omega)) | (simp (disch := first | omega | (simp only [vlen]; first | done | omega)) only [vit, ↓vAq, vBq, ↓reduceIte, Nat.reduceBEq, Nat.reduceEqDiff, Nat.reduceLT, Nat.reduceLeDiff, Nat.reduceAdd, Nat.reduceMul, Nat.reduceSub, reduceCtorEq, Int.reduceToNat]) | (refine Br.mk ?_ ?_ <;> intro h) | (refine BrN.mk (fun h => ?_) ?_) | (refine AltVC.mk ?_ ?_)
            refine loopK.mk (j + 1, S3, H3) (by simp (disch := first | omega | (simp only [vlen]; first | done | omega)) only [vit, ↓vAq, vBq, ↓reduceIte, Nat.reduceBEq, Nat.reduceEqDiff, Nat.reduceLT, Nat.reduceLeDiff, Nat.reduceAdd, Nat.reduceMul, Nat.reduceSub, reduceCtorEq, Int.reduceToNat]) ⟨by show j + 1 ≤ (S3.getD i []).length; have h7 : j < (S2.getD i []).length := hlt; have := e3.le; omega, e1, e2, k4.trans e3, fun e q hq => by
              have e5 := Ext.mid k4 e3 e
              by_cases e6 : q = j
              · subst e6
                rw [hxj e5]
                exact ⟨fun r hr hl => (by rw [hny] at hl; cases hl), fun _ => (by have e' : S3 = S1 := e; rw [← e']; exact e4)⟩
              · exact k5 e5 q (by omega)⟩ (by show 651 - (j + 1) < 651 - j; omega) ?_
            (simp (disch := first | omega | (simp only [vlen]; first | done | omega)) only [Fits_u, Fits_m, Fits_nil, List.length_append, vit, ↓vAq, vBq, ↓reduceIte, Nat.reduceBEq, Nat.reduceEqDiff, Nat.reduceLT, Nat.reduceLeDiff, Nat.reduceAdd, Nat.reduceMul, Nat.reduceSub, reduceCtorEq, Int.reduceToNat] <;> (repeat' first | rfl | apply And.intro))
            all_goals trace_state
          | some s =>
            rw [nxD_some hny] at hnx
            repeat' first | ((first | refine Br.dec ?_ ?_ | refine Br.eqi ?_ ?_) <;> intro h <;> try (exfalso; omega)) | (simp (disch := first | omega | (simp only [vlen]; first | done | omega)) only [hx, vit, ↓vAq, vBq, ↓reduceIte, Nat.reduceBEq, Nat.reduceEqDiff, Nat.reduceLT, Nat.reduceLeDiff, Nat.reduceAdd, Nat.reduceMul, Nat.reduceSub, reduceCtorEq, Int.reduceToNat]) | (refine Br.mk ?_ ?_ <;> intro h) | (refine BrN.mk (fun h => ?_) ?_) | (refine AltVC.mk ?_ ?_)
            refine CallVC.fold 4 1 i 0 true ?_
            repeat' first | ((first | refine Br.dec ?_ ?_ | refine Br.eqi ?_ ?_) <;> intro h <;> try (exfalso; omega)) | (simp (disch := first | omega | (simp only [vlen]; first | done | omega)) only [vit, ↓vAq, vBq, ↓reduceIte, Nat.reduceBEq, Nat.reduceEqDiff, Nat.reduceLT, Nat.reduceLeDiff, Nat.reduceAdd, Nat.reduceMul, Nat.reduceSub, reduceCtorEq, Int.reduceToNat]) | (refine Br.mk ?_ ?_ <;> intro h) | (refine BrN.mk (fun h => ?_) ?_) | (refine AltVC.mk ?_ ?_)
            refine CallVC.lendE [0, 1, 2] [.ptr 0 6 0 0, .ag (itD x)] (chO g S2 H2) hnx (by simp) (by rfl) (by unfold chO; simp (disch := first | omega | (simp only [vlen]; first | done | omega)) only [vle0, vit, ↓vAq, vBq, ↓reduceIte, Nat.reduceBEq, Nat.reduceEqDiff, Nat.reduceLT, Nat.reduceLeDiff, Nat.reduceAdd, Nat.reduceMul, Nat.reduceSub, reduceCtorEq, Int.reduceToNat] <;> (repeat' first | rfl | apply And.intro)) ?_
            rintro _ _ ⟨rfl, rfl⟩
            have hsr : 0 ≤ s ∧ s < g.k + g.n := by
              have := nxt_lt hny
              have hm : s ∈ rgt g x.1 := by
                unfold nxt at hny
                exact List.mem_of_getElem? hny
              exact hc.v.right _ (getD_mem' c1) s hm
            unfold chO
            by_cases hsk : g.k ≤ s
            · have hbe := begin_spec g w hc S2 H2 k2 k3 i hi (s - g.k) (fun r hr hl => .pred hxE (by rw [hny, hl]; congr 1; omega) hr)
              repeat' first | ((first | refine Br.dec ?_ ?_ | refine Br.eqi ?_ ?_) <;> intro h <;> try (exfalso; omega)) | (simp (disch := first | omega | (simp only [vlen]; first | done | omega)) only [vit, ↓vAq, vBq, ↓reduceIte, Nat.reduceBEq, Nat.reduceEqDiff, Nat.reduceLT, Nat.reduceLeDiff, Nat.reduceAdd, Nat.reduceMul, Nat.reduceSub, reduceCtorEq, Int.reduceToNat]) | (refine Br.mk ?_ ?_ <;> intro h) | (refine BrN.mk (fun h => ?_) ?_) | (refine AltVC.mk ?_ ?_)
              refine CallVC.lendE [0, 1, 2] [.ptr 0 6 0 0, iv .i64 i, iv .i64 (s - g.k)] (chO g S2 H2) hbe (by simp) (by rfl) (by unfold chO; simp (disch := first | omega | (simp only [vlen]; first | done | omega)) only [vle0, vit, ↓vAq, vBq, ↓reduceIte, Nat.reduceBEq, Nat.reduceEqDiff, Nat.reduceLT, Nat.reduceLeDiff, Nat.reduceAdd, Nat.reduceMul, Nat.reduceSub, reduceCtorEq, Int.reduceToNat] <;> (repeat' first | rfl | apply And.intro)) ?_
              rintro _ _ ⟨rfl, S3, H3, rfl, e1, e2, e3, e4⟩
              have hl3 := e3.len
              unfold chO
              repeat' first | ((first | refine Br.dec ?_ ?_ | refine Br.eqi ?_ ?_) <;> intro h <;> try (exfalso; omega)) | (simp (disch := first | omega | (simp only [vlen]; first | done | omega)) only [vit, ↓vAq, vBq, ↓reduceIte, Nat.reduceBEq, Nat.reduceEqDiff, Nat.reduceLT, Nat.reduceLeDiff, Nat.reduceAdd, Nat.reduceMul, Nat.reduceSub, reduceCtorEq, Int.reduceToNat]) | (refine Br.mk ?_ ?_ <;> intro h) | (refine BrN.mk (fun h => ?_) ?_) | (refine AltVC.mk ?_ ?_)
              refine loopK.mk (j + 1, S3, H3) (by simp (disch := first | omega | (simp only [vlen]; first | done | omega)) only [vit, ↓vAq, vBq, ↓reduceIte, Nat.reduceBEq, Nat.reduceEqDiff, Nat.reduceLT, Nat.reduceLeDiff, Nat.reduceAdd, Nat.reduceMul, Nat.reduceSub, reduceCtorEq, Int.reduceToNat]) ⟨by show j + 1 ≤ (S3.getD i []).length; have h7 : j < (S2.getD i []).length := hlt; have := e3.le; omega, e1, e2, k4.trans e3, fun e q hq => by
                have e5 := Ext.mid k4 e3 e
                by_cases e6 : q = j
                · subst e6
                  rw [hxj e5]
                  refine ⟨fun r hr hl => ?_, fun hno => by rw [hny] at hno; cases hno⟩
                  have := e4 r hr (by rw [hny] at hl; have := Option.some.inj hl; omega)
                  have e' : S3 = S1 := e
                  rwa [e'] at this
                · exact k5 e5 q (by omega)⟩ (by show 651 - (j + 1) < 651 - j; omega) ?_
              (simp (disch := first | omega | (simp only [vlen]; first | done | omega)) only [Fits_u, Fits_m, Fits_nil, List.length_append, vit, ↓vAq, vBq, ↓reduceIte, Nat.reduceBEq, Nat.reduceEqDiff, Nat.reduceLT, Nat.reduceLeDiff, Nat.reduceAdd, Nat.reduceMul, Nat.reduceSub, reduceCtorEq, Int.reduceToNat] <;> (repeat' first | rfl | apply And.intro))
              all_goals trace_state
            · repeat' first | ((first | refine Br.dec ?_ ?_ | refine Br.eqi ?_ ?_) <;> intro h <;> try (exfalso; omega)) | (simp (disch := first | omega | (simp only [vlen]; first | done | omega)) only [vit, ↓vAq, vBq, ↓reduceIte, Nat.reduceBEq, Nat.reduceEqDiff, Nat.reduceLT, Nat.reduceLeDiff, Nat.reduceAdd, Nat.reduceMul, Nat.reduceSub, reduceCtorEq, Int.reduceToNat]) | (refine Br.mk ?_ ?_ <;> intro h) | (refine BrN.mk (fun h => ?_) ?_) | (refine AltVC.mk ?_ ?_)
              refine loopK.mk (j + 1, S2, H2) (by simp (disch := first | omega | (simp only [vlen]; first | done | omega)) only [vit, ↓vAq, vBq, ↓reduceIte, Nat.reduceBEq, Nat.reduceEqDiff, Nat.reduceLT, Nat.reduceLeDiff, Nat.reduceAdd, Nat.reduceMul, Nat.reduceSub, reduceCtorEq, Int.reduceToNat]) ⟨by show j + 1 ≤ (S2.getD i default).length; omega, k2, k3, k4, fun e q hq => by
                by_cases e6 : q = j
                · subst e6
                  rw [hxj e]
                  refine ⟨fun r hr hl => ?_, fun hno => by rw [hny] at hno; cases hno⟩
                  rw [hny] at hl
                  have h7 := Option.some.inj hl
                  have h8 : 0 ≤ lft g r := (hc.v.left _ (getD_mem' hr)).1
                  omega
                · exact k5 e q (by omega)⟩ (by show 651 - (j + 1) < 651 - j; omega) ?_
              (simp (disch := first | omega | (simp only [vlen]; first | done | omega)) only [Fits_u, Fits_m, Fits_nil, List.length_append, vit, ↓vAq, vBq, ↓reduceIte, Nat.reduceBEq, Nat.reduceEqDiff, Nat.reduceLT, Nat.reduceLeDiff, Nat.reduceAdd, Nat.reduceMul, Nat.reduceSub, reduceCtorEq, Int.reduceToNat] <;> (repeat' first | rfl | apply And.intro))
              all_goals trace_state
        · repeat' first | ((first | refine Br.dec ?_ ?_ | refine Br.eqi ?_ ?_) <;> intro h <;> try (exfalso; omega)) | (simp (disch := first | omega | (simp only [vlen]; first | done | omega)) only [vit, ↓vAq, vBq, ↓reduceIte, Nat.reduceBEq, Nat.reduceEqDiff, Nat.reduceLT, Nat.reduceLeDiff, Nat.reduceAdd, Nat.reduceMul, Nat.reduceSub, reduceCtorEq, Int.reduceToNat]) | (refine Br.mk ?_ ?_ <;> intro h) | (refine BrN.mk (fun h => ?_) ?_) | (refine AltVC.mk ?_ ?_)
          refine loopK.fold 4 1 i 0 true ?_
          repeat' first | ((first | refine Br.dec ?_ ?_ | refine Br.eqi ?_ ?_) <;> intro h <;> try (exfalso; omega)) | (simp (disch := first | omega | (simp only [vlen]; first | done | omega)) only [vit, ↓vAq, vBq, ↓reduceIte, Nat.reduceBEq, Nat.reduceEqDiff, Nat.reduceLT, Nat.reduceLeDiff, Nat.reduceAdd, Nat.reduceMul, Nat.reduceSub, reduceCtorEq, Int.reduceToNat]) | (refine Br.mk ?_ ?_ <;> intro h) | (refine BrN.mk (fun h => ?_) ?_) | (refine AltVC.mk ?_ ?_)
          have hle := k4.le
          refine loopK.mk (((S1.getD i default).length : Int), S2, H2) (by simp (disch := first | omega | (simp only [vlen]; first | done | omega)) only [vit, ↓vAq, vBq, ↓reduceIte, Nat.reduceBEq, Nat.reduceEqDiff, Nat.reduceLT, Nat.reduceLeDiff, Nat.reduceAdd, Nat.reduceMul, Nat.reduceSub, reduceCtorEq, Int.reduceToNat]) ⟨k2, k3, h3.trans k4, by show (-1 : Int) ≤ _; omega, by show ((S1.getD i default).length : Int) ≤ (S2.getD i default).length; have h7 : (S1.getD i default).length ≤ (S2.getD i default).length := hle; omega, fun e x hx => by
            have e5 : S2 = S1 := k4.same (by have h7 : ((S1.getD i default).length : Int) = (S2.getD i default).length := e; show (S2.getD i default).length = (S1.getD i default).length; omega)
            subst e5
            obtain ⟨q, hq, rfl⟩ := mem_ix hx
            exact k5 rfl q (by have h7 : q < (S2.getD i default).length := hq; omega)⟩ (by show (652 - ((S1.getD i default).length : Int)).toNat < (652 - m).toNat; omega) ?_
          (simp (disch := first | omega | (simp only [vlen]; first | done | omega)) only [Fits_u, Fits_m, Fits_nil, List.length_append, vit, ↓vAq, vBq, ↓reduceIte, Nat.reduceBEq, Nat.reduceEqDiff, Nat.reduceLT, Nat.reduceLeDiff, Nat.reduceAdd, Nat.reduceMul, Nat.reduceSub, reduceCtorEq, Int.reduceToNat] <;> (repeat' first | rfl | apply And.intro))
          all_goals trace_state
end Go.Proofs.Ytcbilnmpiladnaa

namespace Go.Proofs.Ytcbilnmpiladnaa
open Go.Dm
set_option linter.unusedSimpArgs false
set_option linter.unnecessarySimpa false
set_option linter.unusedVariables false
set_option linter.defProp false
def pRow (S : List (List It)) (k : Nat) : List (List D) := (tbl scR S).set k [.ref 3 3 0 (S.getD k default).length]
def chP (g : Grammar) (S : List (List It)) (H : List (List Ha)) (k : Nat) : List Ob := [⟨6, [[iv .i64 g.k, iv .i64 g.n, iv .i64 g.start, .sl 2 (tbl rulD g.rules), .ref 1 1 0 S.length, .ref 2 1 0 H.length]], false, true, .fix⟩, ⟨1, pRow S k, false, true, .fix⟩, ⟨1, tbl hmR H, true, true, .fix⟩, ⟨3, tbl itD (S.getD k default), true, false, .fix⟩]
theorem cp_fin {g : Grammar} {S : List (List It)} {H : List (List Ha)} {k : Nat} {s : Go.Dm.S} {d : D} {R : D → List (Option Ob) → Prop} (h1 : 4 ≤ s.N) (h2 : fitL s 4 0 ((chP g S H k).map some)) (hd : R (d.trim 4) ((chP g S H k).map some)) : FinH 4 R s d :=
  finH_mk ((chP g S H k).map some) (by simp [chP]) (by simpa [chP] using h1) (by simpa [chP] using h2) hd
theorem pr_len {S : List (List It)} {k : Nat} : (pRow S k).length = S.length := by simp [pRow, tbl]
theorem pr_get {S : List (List It)} {k i : Nat} (hi : i < S.length) (h : i ≠ k) : (pRow S k).getD i [] = [.own false 3 (tbl itD (S.getD i default))] := by
  unfold pRow
  simp only [List.getD_eq_getElem?_getD, List.getElem?_set]
  rw [if_neg (fun e => h e.symm)]
  simp [tbl, scR, hi]
theorem pr_kill {S : List (List It)} {k i τ : Nat} {x : D} (h : τ ≠ 3) : List.map (fun e => List.map (D.kill τ) e) ((pRow S k).set i [x]) = (pRow S k).set i [x.kill τ] := by
  have e : ((fun e => List.map (D.kill τ) e) ∘ scR) = scR := by funext l; simp [scR, kill_oo]
  have e2 : D.kill τ (.ref 3 3 0 (S.getD k default).length) = .ref 3 3 0 (S.getD k default).length := (by rw [kill_ref, if_neg (fun e => h e.symm)])
  unfold pRow
  rw [List.map_set, List.map_set]
  simp only [tbl, List.map_map, e, List.map_cons, List.map_nil, e2]
theorem pr_kl {S : List (List It)} {k τ : Nat} (h : τ ≠ 3) : List.map (fun e => List.map (D.kill τ) e) (pRow S k) = pRow S k := by
  have e : ((fun e => List.map (D.kill τ) e) ∘ scR) = scR := by funext l; simp [scR, kill_oo]
  have e2 : D.kill τ (.ref 3 3 0 (S.getD k default).length) = .ref 3 3 0 (S.getD k default).length := (by rw [kill_ref, if_neg (fun e => h e.symm)])
  unfold pRow
  rw [List.map_set]
  simp only [tbl, List.map_map, e, List.map_cons, List.map_nil, e2]
theorem pr_set {S : List (List It)} {k i : Nat} {l : List It} (h : i ≠ k) : (pRow S k).set i [.own false 3 (tbl itD l)] = pRow (S.set i l) k := by
  have e : (S.set i l).getD k default = S.getD k default := by
    simp only [List.getD_eq_getElem?_getD, List.getElem?_set]
    rw [if_neg h]
  unfold pRow
  rw [e, ← sc_set, List.set_comm _ _ h]
theorem pr_trim {S : List (List It)} {k : Nat} : List.map (fun e => List.map (D.trim 4) e) (pRow S k) = pRow S k := by
  have e : ((fun e => List.map (D.trim 4) e) ∘ scR) = scR := by funext l; simp [scR, trim_oo]
  unfold pRow
  rw [List.map_set]
  simp only [tbl, List.map_map, e, List.map_cons, List.map_nil, trim_ref, show (3 < 4) = True from by simp, if_true]
theorem pr_ren {S : List (List It)} {k : Nat} {f : Nat → Nat} : List.map (fun e => List.map (D.ren f) e) (pRow S k) = (tbl scR S).set k [.ref (f 3) 3 0 (S.getD k default).length] := by
  have e : ((fun e => List.map (D.ren f) e) ∘ scR) = scR := by funext l; simp [scR, D.ren, D.lf, renL]
  unfold pRow
  rw [List.map_set]
  simp only [tbl, List.map_map, e, List.map_cons, List.map_nil, show ∀ n, D.ren f (.ref 3 3 0 n) = .ref (f 3) 3 0 n from fun n => by simp [D.ren, D.lf, renL]]
theorem pr_k {S : List (List It)} {k i : Nat} {l : List It} (h : i ≠ k) : (S.set i l).getD k default = S.getD k default := by
  simp only [List.getD_eq_getElem?_getD, List.getElem?_set]
  rw [if_neg h]
set_option maxRecDepth 10000 in
set_option maxHeartbeats 4000000 in
theorem next2_spec (g : Grammar) (S : List (List It)) (H : List (List Ha)) (k : Nat) (x : It) (h1 : x.1 < g.rules.length) (h2 : x.2.1 ≤ (rgt g x.1).length) : Dm.SpecH Try.prog 95 [.ptr 0 6 0 0, .ag (itD x)] (chP g S H k) (fun d o => d = nxD g x ∧ o = (chP g S H k).map some) := by
  refine specH_of_vc mixed Try.func95 c95 (by rw [show Try.f95.ntmps = _ from Try.ntmps95]; simp) ?_
  unfold m95 r95
  unfold chP
  unfold rgt at h2
  by_cases he : x.2.1 = (g.rules.getD x.1 default).right.length
  · have hn : nxt g x = none := by unfold nxt rgt; exact List.getElem?_eq_none_iff.2 (by omega)
    repeat' first | ((first | refine Br.dec ?_ ?_ | refine Br.eqi ?_ ?_) <;> intro h <;> try (exfalso; omega)) | (simp (disch := first | omega | (simp only [vlen]; first | done | omega)) only [pr_trim, vit, ↓vAq, vBq, ↓reduceIte, Nat.reduceBEq, Nat.reduceEqDiff, Nat.reduceLT, Nat.reduceLeDiff, Nat.reduceAdd, Nat.reduceMul, Nat.reduceSub, reduceCtorEq, Int.reduceToNat]) | (refine Br.mk ?_ ?_ <;> intro h) | (refine BrN.mk (fun h => ?_) ?_) | (refine AltVC.mk ?_ ?_)
    exact cp_fin (by simp (disch := first | omega | (simp only [vlen]; first | done | omega)) only [pr_trim, vit, ↓vAq, vBq, ↓reduceIte, Nat.reduceBEq, Nat.reduceEqDiff, Nat.reduceLT, Nat.reduceLeDiff, Nat.reduceAdd, Nat.reduceMul, Nat.reduceSub, reduceCtorEq, Int.reduceToNat]) (by unfold chP; simp (disch := first | omega | (simp only [vlen]; first | done | omega)) only [pr_trim, vit, ↓vAq, vBq, ↓reduceIte, Nat.reduceBEq, Nat.reduceEqDiff, Nat.reduceLT, Nat.reduceLeDiff, Nat.reduceAdd, Nat.reduceMul, Nat.reduceSub, reduceCtorEq, Int.reduceToNat]) ⟨by rw [nxD_none hn]; simp (disch := first | omega | (simp only [vlen]; first | done | omega)) only [pr_trim, vit, ↓vAq, vBq, ↓reduceIte, Nat.reduceBEq, Nat.reduceEqDiff, Nat.reduceLT, Nat.reduceLeDiff, Nat.reduceAdd, Nat.reduceMul, Nat.reduceSub, reduceCtorEq, Int.reduceToNat], rfl⟩
  · have hs : nxt g x = some ((g.rules.getD x.1 default).right.getD x.2.1 0) := by
      unfold nxt rgt
      exact get_some (by omega)
    repeat' first | ((first | refine Br.dec ?_ ?_ | refine Br.eqi ?_ ?_) <;> intro h <;> try (exfalso; omega)) | (simp (disch := first | omega | (simp only [vlen]; first | done | omega)) only [pr_trim, vit, ↓vAq, vBq, ↓reduceIte, Nat.reduceBEq, Nat.reduceEqDiff, Nat.reduceLT, Nat.reduceLeDiff, Nat.reduceAdd, Nat.reduceMul, Nat.reduceSub, reduceCtorEq, Int.reduceToNat]) | (refine Br.mk ?_ ?_ <;> intro h) | (refine BrN.mk (fun h => ?_) ?_) | (refine AltVC.mk ?_ ?_)
    exact cp_fin (by simp (disch := first | omega | (simp only [vlen]; first | done | omega)) only [pr_trim, vit, ↓vAq, vBq, ↓reduceIte, Nat.reduceBEq, Nat.reduceEqDiff, Nat.reduceLT, Nat.reduceLeDiff, Nat.reduceAdd, Nat.reduceMul, Nat.reduceSub, reduceCtorEq, Int.reduceToNat]) (by unfold chP; simp (disch := first | omega | (simp only [vlen]; first | done | omega)) only [pr_trim, vit, ↓vAq, vBq, ↓reduceIte, Nat.reduceBEq, Nat.reduceEqDiff, Nat.reduceLT, Nat.reduceLeDiff, Nat.reduceAdd, Nat.reduceMul, Nat.reduceSub, reduceCtorEq, Int.reduceToNat]) ⟨by rw [nxD_some hs]; simp (disch := first | omega | (simp only [vlen]; first | done | omega)) only [pr_trim, vit, ↓vAq, vBq, ↓reduceIte, Nat.reduceBEq, Nat.reduceEqDiff, Nat.reduceLT, Nat.reduceLeDiff, Nat.reduceAdd, Nat.reduceMul, Nat.reduceSub, reduceCtorEq, Int.reduceToNat], rfl⟩
def adP (g : Grammar) (S : List (List It)) (k i : Nat) (x : It) (d : D) (o : List (Option Ob)) : Prop := d = .tu [] ∧ ∃ H', o = (chP g (addS S i x) H' k).map some ∧ HI (addS S i x) H'
set_option maxRecDepth 10000 in
set_option maxHeartbeats 4000000 in
theorem add2_spec (g : Grammar) (S : List (List It)) (H : List (List Ha)) (hH : HI S H) (k i : Nat) (hk : i ≠ k) (hi : i < S.length) (hl : (S.getD i []).length ≤ 100000) (x : It) (hx : x.1 ≤ 100000 ∧ x.2.1 ≤ 100000 ∧ x.2.2 ≤ 100000) : Dm.SpecH Try.prog 96 [.ptr 0 6 0 0, iv .i64 i, .ag (itD x)] (chP g S H k) (adP g S k i x) := by
  refine specH_of_vc mixed Try.func96 c96 (by rw [show Try.f96.ntmps = _ from Try.ntmps96]; simp) ?_
  unfold m96 r96
  have hlen := hH.len
  have hmem := hH.mem i x
  have hl' : (S.getD i default).length ≤ 100000 := hl
  have hpl := pr_len (S := S) (k := k)
  have hpg := pr_get hi hk
  have hps : ∀ l, (pRow S k).set i [.own false 3 (tbl itD l)] = pRow (S.set i l) k := fun l => pr_set hk
  have hpk : ∀ l, (S.set i l).getD k default = S.getD k default := fun l => pr_k hk
  have hpi : ∀ X : D, ((pRow S k).set i [X]).getD i [] = [X] := fun X => by simp [List.getD_eq_getElem?_getD, hpl, hi]
  unfold chP
  repeat' first | ((first | refine Br.dec ?_ ?_ | refine Br.eqi ?_ ?_) <;> intro h <;> try (exfalso; omega)) | (simp (disch := first | omega | (simp only [vlen]; first | done | omega)) only [hpl, hpg, hpi, vit, ↓vAq, vBq, ↓reduceIte, Nat.reduceBEq, Nat.reduceEqDiff, Nat.reduceLT, Nat.reduceLeDiff, Nat.reduceAdd, Nat.reduceMul, Nat.reduceSub, reduceCtorEq, Int.reduceToNat]) | (refine Br.mk ?_ ?_ <;> intro h) | (refine BrN.mk (fun h => ?_) ?_) | (refine AltVC.mk ?_ ?_)
  refine BrK.mk (fun r hr he => ?_) (fun hn => ?_)
  · obtain ⟨v, hv, hR⟩ := ha_in hr he
    have hin : x ∈ S.getD i [] := hmem.1 ⟨v, hv⟩
    have ea : addS S i x = S := if_pos hin
    repeat' first | ((first | refine Br.dec ?_ ?_ | refine Br.eqi ?_ ?_) <;> intro h <;> try (exfalso; omega)) | (simp (disch := first | omega | (simp only [vlen]; first | done | omega)) only [hR, hpl, hpg, hpi, vit, ↓vAq, vBq, ↓reduceIte, Nat.reduceBEq, Nat.reduceEqDiff, Nat.reduceLT, Nat.reduceLeDiff, Nat.reduceAdd, Nat.reduceMul, Nat.reduceSub, reduceCtorEq, Int.reduceToNat]) | (refine Br.mk ?_ ?_ <;> intro h) | (refine BrN.mk (fun h => ?_) ?_) | (refine AltVC.mk ?_ ?_)
    refine FinH.fold 5 2 i 0 true tu_kill ?_
    repeat' first | ((first | refine Br.dec ?_ ?_ | refine Br.eqi ?_ ?_) <;> intro h <;> try (exfalso; omega)) | (simp (disch := first | omega | (simp only [vlen]; first | done | omega)) only [hpl, hpg, hpi, vit, ↓vAq, vBq, ↓reduceIte, Nat.reduceBEq, Nat.reduceEqDiff, Nat.reduceLT, Nat.reduceLeDiff, Nat.reduceAdd, Nat.reduceMul, Nat.reduceSub, reduceCtorEq, Int.reduceToNat]) | (refine Br.mk ?_ ?_ <;> intro h) | (refine BrN.mk (fun h => ?_) ?_) | (refine AltVC.mk ?_ ?_)
    exact cp_fin (g := g) (S := S) (H := H) (k := k) (by simp (disch := first | omega | (simp only [vlen]; first | done | omega)) only [vit, ↓vAq, vBq, ↓reduceIte, Nat.reduceBEq, Nat.reduceEqDiff, Nat.reduceLT, Nat.reduceLeDiff, Nat.reduceAdd, Nat.reduceMul, Nat.reduceSub, reduceCtorEq, Int.reduceToNat]) (by unfold chP; simp (disch := first | omega | (simp only [vlen]; first | done | omega)) only [pr_kl, pr_trim, vit, ↓vAq, vBq, ↓reduceIte, Nat.reduceBEq, Nat.reduceEqDiff, Nat.reduceLT, Nat.reduceLeDiff, Nat.reduceAdd, Nat.reduceMul, Nat.reduceSub, reduceCtorEq, Int.reduceToNat]) ⟨by simp (disch := first | omega | (simp only [vlen]; first | done | omega)) only [vit, ↓vAq, vBq, ↓reduceIte, Nat.reduceBEq, Nat.reduceEqDiff, Nat.reduceLT, Nat.reduceLeDiff, Nat.reduceAdd, Nat.reduceMul, Nat.reduceSub, reduceCtorEq, Int.reduceToNat], _, by rw [ea], by rw [ea]; exact hH⟩
  · have hnin : x ∉ S.getD i [] := fun h => ha_out hn (hmem.2 h)
    have ea : addS S i x = S.set i (S.getD i [] ++ [x]) := if_neg hnin
    repeat' first | ((first | refine Br.dec ?_ ?_ | refine Br.eqi ?_ ?_) <;> intro h <;> try (exfalso; omega)) | (simp (disch := first | omega | (simp only [vlen]; first | done | omega)) only [hpl, hpg, hpi, pr_kill, pr_kl, vit, ↓vAq, vBq, ↓reduceIte, Nat.reduceBEq, Nat.reduceEqDiff, Nat.reduceLT, Nat.reduceLeDiff, Nat.reduceAdd, Nat.reduceMul, Nat.reduceSub, reduceCtorEq, Int.reduceToNat]) | (refine Br.mk ?_ ?_ <;> intro h) | (refine BrN.mk (fun h => ?_) ?_) | (refine AltVC.mk ?_ ?_)
    refine BrK.mk (fun r hr he => ?_) (fun hn2 => ?_)
    · obtain ⟨v, hv, hR⟩ := ha_in hr he
      exact absurd (hmem.1 ⟨v, hv⟩) hnin
    repeat' first | ((first | refine Br.dec ?_ ?_ | refine Br.eqi ?_ ?_) <;> intro h <;> try (exfalso; omega)) | (simp (disch := first | omega | (simp only [vlen]; first | done | omega)) only [hpl, hpg, hpi, pr_kill, pr_kl, vit, ↓vAq, vBq, ↓reduceIte, Nat.reduceBEq, Nat.reduceEqDiff, Nat.reduceLT, Nat.reduceLeDiff, Nat.reduceAdd, Nat.reduceMul, Nat.reduceSub, reduceCtorEq, Int.reduceToNat]) | (refine Br.mk ?_ ?_ <;> intro h) | (refine BrN.mk (fun h => ?_) ?_) | (refine AltVC.mk ?_ ?_)
    refine DrawVC.u ?_
    repeat' first | ((first | refine Br.dec ?_ ?_ | refine Br.eqi ?_ ?_) <;> intro h <;> try (exfalso; omega)) | (simp (disch := first | omega | (simp only [vlen]; first | done | omega)) only [hpl, hpg, hpi, pr_kill, pr_kl, vit, ↓vAq, vBq, ↓reduceIte, Nat.reduceBEq, Nat.reduceEqDiff, Nat.reduceLT, Nat.reduceLeDiff, Nat.reduceAdd, Nat.reduceMul, Nat.reduceSub, reduceCtorEq, Int.reduceToNat]) | (refine Br.mk ?_ ?_ <;> intro h) | (refine BrN.mk (fun h => ?_) ?_) | (refine AltVC.mk ?_ ?_)
    all_goals
      refine FinH.fold 5 2 i 0 true tu_kill ?_
      repeat' first | ((first | refine Br.dec ?_ ?_ | refine Br.eqi ?_ ?_) <;> intro h <;> try (exfalso; omega)) | (simp (disch := first | omega | (simp only [vlen]; first | done | omega)) only [hpl, hpg, hpi, pr_kill, pr_kl, vit, ↓vAq, vBq, ↓reduceIte, Nat.reduceBEq, Nat.reduceEqDiff, Nat.reduceLT, Nat.reduceLeDiff, Nat.reduceAdd, Nat.reduceMul, Nat.reduceSub, reduceCtorEq, Int.reduceToNat]) | (refine Br.mk ?_ ?_ <;> intro h) | (refine BrN.mk (fun h => ?_) ?_) | (refine AltVC.mk ?_ ?_)
      refine FinH.fold 6 1 i 0 false tu_kill ?_
      repeat' first | ((first | refine Br.dec ?_ ?_ | refine Br.eqi ?_ ?_) <;> intro h <;> try (exfalso; omega)) | (simp (disch := first | omega | (simp only [vlen]; first | done | omega)) only [hpl, hpg, hpi, hps, pr_kill, pr_kl, vit, ↓vAq, vBq, ↓reduceIte, Nat.reduceBEq, Nat.reduceEqDiff, Nat.reduceLT, Nat.reduceLeDiff, Nat.reduceAdd, Nat.reduceMul, Nat.reduceSub, reduceCtorEq, Int.reduceToNat]) | (refine Br.mk ?_ ?_ <;> intro h) | (refine BrN.mk (fun h => ?_) ?_) | (refine AltVC.mk ?_ ?_)
      exact cp_fin (g := g) (S := S.set i (S.getD i default ++ [x])) (H := H.set i (H.getD i default ++ [(x, ((S.getD i default).length : Int))])) (k := k) (by simp (disch := first | omega | (simp only [vlen]; first | done | omega)) only [vit, ↓vAq, vBq, ↓reduceIte, Nat.reduceBEq, Nat.reduceEqDiff, Nat.reduceLT, Nat.reduceLeDiff, Nat.reduceAdd, Nat.reduceMul, Nat.reduceSub, reduceCtorEq, Int.reduceToNat]) (by unfold chP; simp (disch := first | omega | (simp only [vlen]; first | done | omega)) only [hps, hpk, pr_kl, pr_trim, vit, ↓vAq, vBq, ↓reduceIte, Nat.reduceBEq, Nat.reduceEqDiff, Nat.reduceLT, Nat.reduceLeDiff, Nat.reduceAdd, Nat.reduceMul, Nat.reduceSub, reduceCtorEq, Int.reduceToNat]) ⟨by simp (disch := first | omega | (simp only [vlen]; first | done | omega)) only [vit, ↓vAq, vBq, ↓reduceIte, Nat.reduceBEq, Nat.reduceEqDiff, Nat.reduceLT, Nat.reduceLeDiff, Nat.reduceAdd, Nat.reduceMul, Nat.reduceSub, reduceCtorEq, Int.reduceToNat], _, by rw [ea]; rfl, by rw [ea]; exact hH.add hi⟩
end Go.Proofs.Ytcbilnmpiladnaa
