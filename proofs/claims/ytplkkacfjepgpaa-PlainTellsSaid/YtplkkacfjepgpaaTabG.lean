/-
  coppicerref.Table and over, of larger grammars.
-/
import Derived.Test.YtplkkacfjepgpaaMg13
namespace Go.Proofs.Ytplkkacfjepgpaa
open Go.Dm
set_option linter.unusedSimpArgs false
set_option linter.unnecessarySimpa false
set_option linter.unusedVariables false
set_option linter.defProp false
structure VaG (g : Grammar) : Prop where
  k : 1 ≤ g.k ∧ g.k ≤ 3
  n : 1 ≤ g.n ∧ g.n ≤ 40
  len : g.rules.length ≤ 1000000
  left : ∀ r, r ∈ g.rules → 0 ≤ r.left ∧ r.left < g.n
  long : ∀ r, r ∈ g.rules → r.right.length ≤ 4
  right : ∀ r, r ∈ g.rules → ∀ y, y ∈ r.right → 0 ≤ y ∧ y < g.k + g.n
structure CVG (g : Grammar) (w : List Int) : Prop where
  v : VaG g
  w : w.length ≤ 13
theorem Valid.gen {g : Grammar} (h : Valid g) : VaG g := ⟨h.k, ⟨h.n.1, by have := h.n.2; omega⟩, by have := h.len; omega, h.left, h.long, h.right⟩
theorem cwtG_le {N n : Nat} {T : Nat → Nat → Nat → Bool} (hN : N ≤ 40) (hn : n ≤ 14) : cwt N n T ≤ 7840 := by
  have h1 : ∀ a i, nsum (fun j => if T a i j = true then 1 else 0) n ≤ 14 := fun a i => Nat.le_trans (nsum_const (c := 1) fun j _ => by split <;> omega) (by omega)
  have h2 : ∀ a, nsum (fun i => nsum (fun j => if T a i j = true then 1 else 0) n) n ≤ 196 := fun a => Nat.le_trans (nsum_const (c := 14) fun i _ => h1 a i) (by omega)
  exact Nat.le_trans (nsum_const (c := 196) fun a _ => h2 a) (by omega)
set_option maxRecDepth 10000 in
set_option maxHeartbeats 4000000 in
theorem overG_spec (g : Grammar) (w : List Int) (hc : CVG g w) (N : Nat) (hN : g.n = N) (T : Nat → Nat → Nat → Bool) (l : List Int) (hl : l.length ≤ 4) (hx : ∀ y, y ∈ l → 0 ≤ y ∧ y < g.k + g.n) (i j : Nat) (hij : i ≤ j) (hj : j ≤ w.length) : Dm.Spec Try.prog 36 [.ag (graD g), .sl 1 (i64s w), cuV T N (w.length + 1), .sl 1 (i64s l), iv .i64 i, iv .i64 j] (· = .v (.bool (ovB g w T l i j))) := by
  refine spec_of_vc mixed Try.func36 c36 (by rw [show Try.f36.ntmps = _ from Try.ntmps36]; simp) ?_
  unfold m36 r36
  have hk := hc.v.k
  have hn := hc.v.n
  have hw := hc.w
  cases hlc : l with
  | nil =>
    have e : ovB g w T [] i j = decide (i = j) := (rfl)
    repeat' first | ((first | refine Br.dec ?_ ?_ | refine Br.eqi ?_ ?_) <;> intro h <;> try (exfalso; omega)) | (simp (disch := first | omega | (simp only [vlen]; first | done | omega)) only [vcu, ↓vAq, vBq, ↓reduceIte, Nat.reduceBEq, Nat.reduceEqDiff, Nat.reduceLT, Nat.reduceLeDiff, Nat.reduceAdd, Nat.reduceMul, Nat.reduceSub, reduceCtorEq, Int.reduceToNat]) | (refine Br.mk ?_ ?_ <;> intro h) | (refine BrN.mk (fun h => ?_) ?_) | (refine AltVC.mk ?_ ?_)
    exact fin_mk (vbEq (by rw [e, Bool.eq_iff_iff, beq_iff_eq, decide_eq_true_eq]; omega))
  | cons x l' =>
    have hl2 : l.length = l'.length + 1 := by rw [hlc]; rfl
    have hx0 := hx x (by rw [hlc]; simp)
    have hx' : ∀ y, y ∈ l' → 0 ≤ y ∧ y < g.k + g.n := fun y hy => hx y (by rw [hlc]; exact List.mem_cons_of_mem _ hy)
    have h0 : (i64s (x :: l')).getD 0 [] = [iv .i64 x] := rfl
    have h1 : (x :: l').length = l'.length + 1 := rfl
    have h2 : (x :: l').drop 1 = l' := rfl
    repeat' first | ((first | refine Br.dec ?_ ?_ | refine Br.eqi ?_ ?_) <;> intro h <;> try (exfalso; omega)) | (simp (disch := first | omega | (simp only [vlen]; first | done | omega)) only [vcu, h1, h2, h0, ↓vAq, vBq, ↓reduceIte, Nat.reduceBEq, Nat.reduceEqDiff, Nat.reduceLT, Nat.reduceLeDiff, Nat.reduceAdd, Nat.reduceMul, Nat.reduceSub, reduceCtorEq, Int.reduceToNat]) | (refine Br.mk ?_ ?_ <;> intro h) | (refine BrN.mk (fun h => ?_) ?_) | (refine AltVC.mk ?_ ?_)
    refine LoopVC.mk (X := Nat) (fun m => [(14, iv .i64 m)]) (fun _ => [(0, ⟨4, [[iv .i64 g.k, iv .i64 g.n, iv .i64 g.start, .sl 2 (tbl rulD g.rules)]], true, false, .fix⟩)]) (fun m => j + 1 - m) (fun m => i ≤ m ∧ m ≤ j + 1 ∧ ∀ m', i ≤ m' → m' < m → ¬ (oneB g w T x i m' = true ∧ ovB g w T l' m' j = true)) i ⟨Nat.le_refl _, by omega, fun m' h1 h2 => by omega⟩ ?_ ?_
    · (simp (disch := first | omega | (simp only [vlen]; first | done | omega)) only [Fits_u, Fits_m, Fits_nil, List.length_append, vcu, ↓vAq, vBq, ↓reduceIte, Nat.reduceBEq, Nat.reduceEqDiff, Nat.reduceLT, Nat.reduceLeDiff, Nat.reduceAdd, Nat.reduceMul, Nat.reduceSub, reduceCtorEq, Int.reduceToNat] <;> (repeat' first | rfl | apply And.intro))
    · rintro m ⟨hm1, hm2, hm3⟩
      by_cases hmj : m ≤ j
      · have hrec := overG_spec g w hc N hN T l' (by omega) hx' m j hmj hj
        by_cases hxk : x < g.k
        · have e : oneB g w T x i m = decide (m = i + 1 ∧ i < w.length ∧ w.getD i 0 = x) := by unfold oneB; rw [if_pos hxk]
          by_cases ho : m = i + 1 ∧ w.getD i 0 = x
          · have e1 : oneB g w T x i m = true := by rw [e]; exact decide_eq_true ⟨ho.1, by omega, ho.2⟩
            have ho2 := ho.2
            cases hr : ovB g w T l' m j with
            | true =>
              rw [hr] at hrec
              repeat' first | ((first | refine Br.dec ?_ ?_ | refine Br.eqi ?_ ?_) <;> intro h <;> try (exfalso; omega)) | (simp (disch := first | omega | (simp only [vlen]; first | done | omega)) only [vcu, h1, h2, h0, ↓vAq, vBq, ↓reduceIte, Nat.reduceBEq, Nat.reduceEqDiff, Nat.reduceLT, Nat.reduceLeDiff, Nat.reduceAdd, Nat.reduceMul, Nat.reduceSub, reduceCtorEq, Int.reduceToNat]) | (refine Br.mk ?_ ?_ <;> intro h) | (refine BrN.mk (fun h => ?_) ?_) | (refine AltVC.mk ?_ ?_)
              all_goals first | (exfalso; exact absurd ho2 (by assumption)) | skip
              refine CallVC.eq hrec ?_
              repeat' first | ((first | refine Br.dec ?_ ?_ | refine Br.eqi ?_ ?_) <;> intro h <;> try (exfalso; omega)) | (simp (disch := first | omega | (simp only [vlen]; first | done | omega)) only [vcu, ↓vAq, vBq, ↓reduceIte, Nat.reduceBEq, Nat.reduceEqDiff, Nat.reduceLT, Nat.reduceLeDiff, Nat.reduceAdd, Nat.reduceMul, Nat.reduceSub, reduceCtorEq, Int.reduceToNat]) | (refine Br.mk ?_ ?_ <;> intro h) | (refine BrN.mk (fun h => ?_) ?_) | (refine AltVC.mk ?_ ?_)
              exact fin_mk (vbEq (ovB_cons.mpr ⟨m, hm1, hmj, e1, hr⟩).symm)
            | false =>
              rw [hr] at hrec
              repeat' first | ((first | refine Br.dec ?_ ?_ | refine Br.eqi ?_ ?_) <;> intro h <;> try (exfalso; omega)) | (simp (disch := first | omega | (simp only [vlen]; first | done | omega)) only [vcu, h1, h2, h0, ↓vAq, vBq, ↓reduceIte, Nat.reduceBEq, Nat.reduceEqDiff, Nat.reduceLT, Nat.reduceLeDiff, Nat.reduceAdd, Nat.reduceMul, Nat.reduceSub, reduceCtorEq, Int.reduceToNat]) | (refine Br.mk ?_ ?_ <;> intro h) | (refine BrN.mk (fun h => ?_) ?_) | (refine AltVC.mk ?_ ?_)
              all_goals first | (exfalso; exact absurd ho2 (by assumption)) | skip
              refine CallVC.eq hrec ?_
              repeat' first | ((first | refine Br.dec ?_ ?_ | refine Br.eqi ?_ ?_) <;> intro h <;> try (exfalso; omega)) | (simp (disch := first | omega | (simp only [vlen]; first | done | omega)) only [vcu, ↓vAq, vBq, ↓reduceIte, Nat.reduceBEq, Nat.reduceEqDiff, Nat.reduceLT, Nat.reduceLeDiff, Nat.reduceAdd, Nat.reduceMul, Nat.reduceSub, reduceCtorEq, Int.reduceToNat]) | (refine Br.mk ?_ ?_ <;> intro h) | (refine BrN.mk (fun h => ?_) ?_) | (refine AltVC.mk ?_ ?_)
              refine loopK.mk (m + 1) (by simp (disch := first | omega | (simp only [vlen]; first | done | omega)) only [↓vAq, vBq, ↓reduceIte, Nat.reduceBEq, Nat.reduceEqDiff, Nat.reduceLT, Nat.reduceLeDiff, Nat.reduceAdd, Nat.reduceMul, Nat.reduceSub, reduceCtorEq, Int.reduceToNat]) ⟨by omega, by omega, fun m' h3 h4 => ?_⟩ (by omega) (by (simp (disch := first | omega | (simp only [vlen]; first | done | omega)) only [Fits_u, Fits_m, Fits_nil, List.length_append, vcu, ↓vAq, vBq, ↓reduceIte, Nat.reduceBEq, Nat.reduceEqDiff, Nat.reduceLT, Nat.reduceLeDiff, Nat.reduceAdd, Nat.reduceMul, Nat.reduceSub, reduceCtorEq, Int.reduceToNat] <;> (repeat' first | rfl | apply And.intro)))
              by_cases e2 : m' = m
              · subst e2; intro hh; rw [hr] at hh; cases hh.2
              · exact hm3 m' h3 (by omega)
          · have e1 : oneB g w T x i m = false := by rw [e]; exact decide_eq_false fun h => ho ⟨h.1, h.2.2⟩
            repeat' first | ((first | refine Br.dec ?_ ?_ | refine Br.eqi ?_ ?_) <;> intro h <;> try (exfalso; omega)) | (simp (disch := first | omega | (simp only [vlen]; first | done | omega)) only [vcu, h1, h2, h0, ↓vAq, vBq, ↓reduceIte, Nat.reduceBEq, Nat.reduceEqDiff, Nat.reduceLT, Nat.reduceLeDiff, Nat.reduceAdd, Nat.reduceMul, Nat.reduceSub, reduceCtorEq, Int.reduceToNat]) | (refine Br.mk ?_ ?_ <;> intro h) | (refine BrN.mk (fun h => ?_) ?_) | (refine AltVC.mk ?_ ?_)
            all_goals first
              | (exfalso; exact ho ⟨by omega, by assumption⟩)
              | (
                refine loopK.mk (m + 1) (by simp (disch := first | omega | (simp only [vlen]; first | done | omega)) only [↓vAq, vBq, ↓reduceIte, Nat.reduceBEq, Nat.reduceEqDiff, Nat.reduceLT, Nat.reduceLeDiff, Nat.reduceAdd, Nat.reduceMul, Nat.reduceSub, reduceCtorEq, Int.reduceToNat]) ⟨by omega, by omega, fun m' h3 h4 => ?_⟩ (by omega) (by (simp (disch := first | omega | (simp only [vlen]; first | done | omega)) only [Fits_u, Fits_m, Fits_nil, List.length_append, vcu, ↓vAq, vBq, ↓reduceIte, Nat.reduceBEq, Nat.reduceEqDiff, Nat.reduceLT, Nat.reduceLeDiff, Nat.reduceAdd, Nat.reduceMul, Nat.reduceSub, reduceCtorEq, Int.reduceToNat] <;> (repeat' first | rfl | apply And.intro)))
                by_cases e2 : m' = m
                · subst e2; intro hh; rw [e1] at hh; cases hh.1
                · exact hm3 m' h3 (by omega)
                )
        · obtain ⟨a, ha⟩ : ∃ a : Nat, x - g.k = a := ⟨(x - g.k).toNat, by omega⟩
          have e : oneB g w T x i m = T a i m := by unfold oneB; rw [if_neg hxk, ha, Int.toNat_natCast]
          have hb2 := @tbb_len (w.length + 1) (fun j => T a i j)
          cases ht : T a i m with
          | true =>
            rw [ht] at e
            cases hr : ovB g w T l' m j with
            | true =>
              rw [hr] at hrec
              repeat' first | ((first | refine Br.dec ?_ ?_ | refine Br.eqi ?_ ?_) <;> intro h <;> try (exfalso; omega)) | (simp (disch := first | omega | (simp only [vlen]; first | done | omega)) only [vcu, h1, h2, h0, ha, ht, ↓vAq, vBq, ↓reduceIte, Nat.reduceBEq, Nat.reduceEqDiff, Nat.reduceLT, Nat.reduceLeDiff, Nat.reduceAdd, Nat.reduceMul, Nat.reduceSub, reduceCtorEq, Int.reduceToNat]) | (refine Br.mk ?_ ?_ <;> intro h) | (refine BrN.mk (fun h => ?_) ?_) | (refine AltVC.mk ?_ ?_)
              refine CallVC.eq hrec ?_
              repeat' first | ((first | refine Br.dec ?_ ?_ | refine Br.eqi ?_ ?_) <;> intro h <;> try (exfalso; omega)) | (simp (disch := first | omega | (simp only [vlen]; first | done | omega)) only [vcu, ↓vAq, vBq, ↓reduceIte, Nat.reduceBEq, Nat.reduceEqDiff, Nat.reduceLT, Nat.reduceLeDiff, Nat.reduceAdd, Nat.reduceMul, Nat.reduceSub, reduceCtorEq, Int.reduceToNat]) | (refine Br.mk ?_ ?_ <;> intro h) | (refine BrN.mk (fun h => ?_) ?_) | (refine AltVC.mk ?_ ?_)
              exact fin_mk (vbEq (ovB_cons.mpr ⟨m, hm1, hmj, e, hr⟩).symm)
            | false =>
              rw [hr] at hrec
              repeat' first | ((first | refine Br.dec ?_ ?_ | refine Br.eqi ?_ ?_) <;> intro h <;> try (exfalso; omega)) | (simp (disch := first | omega | (simp only [vlen]; first | done | omega)) only [vcu, h1, h2, h0, ha, ht, ↓vAq, vBq, ↓reduceIte, Nat.reduceBEq, Nat.reduceEqDiff, Nat.reduceLT, Nat.reduceLeDiff, Nat.reduceAdd, Nat.reduceMul, Nat.reduceSub, reduceCtorEq, Int.reduceToNat]) | (refine Br.mk ?_ ?_ <;> intro h) | (refine BrN.mk (fun h => ?_) ?_) | (refine AltVC.mk ?_ ?_)
              refine CallVC.eq hrec ?_
              repeat' first | ((first | refine Br.dec ?_ ?_ | refine Br.eqi ?_ ?_) <;> intro h <;> try (exfalso; omega)) | (simp (disch := first | omega | (simp only [vlen]; first | done | omega)) only [vcu, ↓vAq, vBq, ↓reduceIte, Nat.reduceBEq, Nat.reduceEqDiff, Nat.reduceLT, Nat.reduceLeDiff, Nat.reduceAdd, Nat.reduceMul, Nat.reduceSub, reduceCtorEq, Int.reduceToNat]) | (refine Br.mk ?_ ?_ <;> intro h) | (refine BrN.mk (fun h => ?_) ?_) | (refine AltVC.mk ?_ ?_)
              refine loopK.mk (m + 1) (by simp (disch := first | omega | (simp only [vlen]; first | done | omega)) only [↓vAq, vBq, ↓reduceIte, Nat.reduceBEq, Nat.reduceEqDiff, Nat.reduceLT, Nat.reduceLeDiff, Nat.reduceAdd, Nat.reduceMul, Nat.reduceSub, reduceCtorEq, Int.reduceToNat]) ⟨by omega, by omega, fun m' h3 h4 => ?_⟩ (by omega) (by (simp (disch := first | omega | (simp only [vlen]; first | done | omega)) only [Fits_u, Fits_m, Fits_nil, List.length_append, vcu, ↓vAq, vBq, ↓reduceIte, Nat.reduceBEq, Nat.reduceEqDiff, Nat.reduceLT, Nat.reduceLeDiff, Nat.reduceAdd, Nat.reduceMul, Nat.reduceSub, reduceCtorEq, Int.reduceToNat] <;> (repeat' first | rfl | apply And.intro)))
              by_cases e2 : m' = m
              · subst e2; intro hh; rw [hr] at hh; cases hh.2
              · exact hm3 m' h3 (by omega)
          | false =>
            rw [ht] at e
            repeat' first | ((first | refine Br.dec ?_ ?_ | refine Br.eqi ?_ ?_) <;> intro h <;> try (exfalso; omega)) | (simp (disch := first | omega | (simp only [vlen]; first | done | omega)) only [vcu, h1, h2, h0, ha, ht, ↓vAq, vBq, ↓reduceIte, Nat.reduceBEq, Nat.reduceEqDiff, Nat.reduceLT, Nat.reduceLeDiff, Nat.reduceAdd, Nat.reduceMul, Nat.reduceSub, reduceCtorEq, Int.reduceToNat]) | (refine Br.mk ?_ ?_ <;> intro h) | (refine BrN.mk (fun h => ?_) ?_) | (refine AltVC.mk ?_ ?_)
            refine loopK.mk (m + 1) (by simp (disch := first | omega | (simp only [vlen]; first | done | omega)) only [↓vAq, vBq, ↓reduceIte, Nat.reduceBEq, Nat.reduceEqDiff, Nat.reduceLT, Nat.reduceLeDiff, Nat.reduceAdd, Nat.reduceMul, Nat.reduceSub, reduceCtorEq, Int.reduceToNat]) ⟨by omega, by omega, fun m' h3 h4 => ?_⟩ (by omega) (by (simp (disch := first | omega | (simp only [vlen]; first | done | omega)) only [Fits_u, Fits_m, Fits_nil, List.length_append, vcu, ↓vAq, vBq, ↓reduceIte, Nat.reduceBEq, Nat.reduceEqDiff, Nat.reduceLT, Nat.reduceLeDiff, Nat.reduceAdd, Nat.reduceMul, Nat.reduceSub, reduceCtorEq, Int.reduceToNat] <;> (repeat' first | rfl | apply And.intro)))
            by_cases e2 : m' = m
            · subst e2; intro hh; rw [e] at hh; cases hh.1
            · exact hm3 m' h3 (by omega)
      · repeat' first | ((first | refine Br.dec ?_ ?_ | refine Br.eqi ?_ ?_) <;> intro h <;> try (exfalso; omega)) | (simp (disch := first | omega | (simp only [vlen]; first | done | omega)) only [vcu, h1, h2, h0, ↓vAq, vBq, ↓reduceIte, Nat.reduceBEq, Nat.reduceEqDiff, Nat.reduceLT, Nat.reduceLeDiff, Nat.reduceAdd, Nat.reduceMul, Nat.reduceSub, reduceCtorEq, Int.reduceToNat]) | (refine Br.mk ?_ ?_ <;> intro h) | (refine BrN.mk (fun h => ?_) ?_) | (refine AltVC.mk ?_ ?_)
        exact fin_mk (vbEq (ovB_no fun m' h3 h4 => hm3 m' h3 (by omega)).symm)
termination_by l.length
set_option maxRecDepth 10000 in
set_option maxHeartbeats 4000000 in
theorem tableG_spec (g : Grammar) (w : List Int) (hc : CVG g w) (N n : Nat) (hN : g.n = N) (hn' : n = w.length + 1) : Dm.Spec Try.prog 35 [.ag (graD g), .sl 1 (i64s w)] (fun d => ∃ T : Nat → Nat → Nat → Bool, d = cuV T N n ∧ ∀ l i j, i ≤ w.length → (ovB g w T l i j = true ↔ Der g w l i j)) := by
  refine spec_of_vc mixed Try.func35 c35 (by rw [show Try.f35.ntmps = _ from Try.ntmps35]; simp) ?_
  unfold m35 r35
  have hk := hc.v.k
  have hn := hc.v.n
  have hw := hc.w
  have hlen := hc.v.len
  have hwi : (w.length : Int) + 1 = (n : Int) := by omega
  rw [hN] at hn
  repeat' first | ((first | refine Br.dec ?_ ?_ | refine Br.eqi ?_ ?_) <;> intro h <;> try (exfalso; omega)) | (simp (disch := first | omega | (simp only [vlen]; first | done | omega)) only [vct, hN, hwi, ↓vAq, vBq, ↓reduceIte, Nat.reduceBEq, Nat.reduceEqDiff, Nat.reduceLT, Nat.reduceLeDiff, Nat.reduceAdd, Nat.reduceMul, Nat.reduceSub, reduceCtorEq, Int.reduceToNat]) | (refine Br.mk ?_ ?_ <;> intro h) | (refine BrN.mk (fun h => ?_) ?_) | (refine AltVC.mk ?_ ?_)
  rw [tabD_rep]
  refine LoopVC.mk (X := Nat) (fun a => [(6, .ref 2 1 0 N), (7, iv .i64 a)]) (fun a => [(0, ⟨4, [[iv .i64 g.k, iv .i64 N, iv .i64 g.start, .sl 2 (tbl rulD g.rules)]], true, false, .fix⟩), (2, ⟨1, tabD N fun b => if b < a then plC F3 n b else .nl, true, decide (0 < a), .arr⟩)]) (fun a => N - a) (fun a => a ≤ N) 0 (Nat.zero_le _) ?_ ?_
  · (simp (disch := first | omega | (simp only [vlen]; first | done | omega)) only [Fits_u, Fits_m, Fits_nil, List.length_append, vct, hN, ↓vAq, vBq, ↓reduceIte, Nat.reduceBEq, Nat.reduceEqDiff, Nat.reduceLT, Nat.reduceLeDiff, Nat.reduceAdd, Nat.reduceMul, Nat.reduceSub, reduceCtorEq, Int.reduceToNat] <;> (repeat' first | rfl | apply And.intro))
    all_goals first | rfl | skip
  · intro a ha
    by_cases haN : a < N
    · repeat' first | ((first | refine Br.dec ?_ ?_ | refine Br.eqi ?_ ?_) <;> intro h <;> try (exfalso; omega)) | (simp (disch := first | omega | (simp only [vlen]; first | done | omega)) only [vct, hN, hwi, ↓vAq, vBq, ↓reduceIte, Nat.reduceBEq, Nat.reduceEqDiff, Nat.reduceLT, Nat.reduceLeDiff, Nat.reduceAdd, Nat.reduceMul, Nat.reduceSub, reduceCtorEq, Int.reduceToNat]) | (refine Br.mk ?_ ?_ <;> intro h) | (refine BrN.mk (fun h => ?_) ?_) | (refine AltVC.mk ?_ ?_)
      rw [tabD_rep]
      refine LoopVC.mk (X := Nat) (fun i => [(6, .ref 2 1 0 N), (8, iv .i64 i)]) (fun i => [(0, ⟨4, [[iv .i64 g.k, iv .i64 N, iv .i64 g.start, .sl 2 (tbl rulD g.rules)]], true, false, .fix⟩), (2, ⟨1, tabD N fun b => if b = a then .ref 3 1 0 n else if b < a then plC F3 n b else .nl, false, decide (0 < a), .arr⟩), (3, ⟨1, tabD n fun k => if k < i then rwC F3 n a k else .nl, true, decide (0 < i), .arr⟩)]) (fun i => n - i) (fun i => i ≤ n) 0 (Nat.zero_le _) ?_ ?_
      · (simp (disch := first | omega | (simp only [vlen]; first | done | omega)) only [Fits_u, Fits_m, Fits_nil, List.length_append, vct, hN, ↓vAq, vBq, ↓reduceIte, Nat.reduceBEq, Nat.reduceEqDiff, Nat.reduceLT, Nat.reduceLeDiff, Nat.reduceAdd, Nat.reduceMul, Nat.reduceSub, reduceCtorEq, Int.reduceToNat] <;> (repeat' first | rfl | apply And.intro))
        all_goals first | rfl | skip
      · intro i hi
        by_cases hin : i < n
        · repeat' first | ((first | refine Br.dec ?_ ?_ | refine Br.eqi ?_ ?_) <;> intro h <;> try (exfalso; omega)) | (simp (disch := first | omega | (simp only [vlen]; first | done | omega)) only [vct, hN, hwi, ↓vAq, vBq, ↓reduceIte, Nat.reduceBEq, Nat.reduceEqDiff, Nat.reduceLT, Nat.reduceLeDiff, Nat.reduceAdd, Nat.reduceMul, Nat.reduceSub, reduceCtorEq, Int.reduceToNat]) | (refine Br.mk ?_ ?_ <;> intro h) | (refine BrN.mk (fun h => ?_) ?_) | (refine AltVC.mk ?_ ?_)
          rw [tbb_rep]
          refine loopK.fold 4 3 i 0 true ?_
          repeat' first | ((first | refine Br.dec ?_ ?_ | refine Br.eqi ?_ ?_) <;> intro h <;> try (exfalso; omega)) | (simp (disch := first | omega | (simp only [vlen]; first | done | omega)) only [vct, hN, hwi, ↓vAq, vBq, ↓reduceIte, Nat.reduceBEq, Nat.reduceEqDiff, Nat.reduceLT, Nat.reduceLeDiff, Nat.reduceAdd, Nat.reduceMul, Nat.reduceSub, reduceCtorEq, Int.reduceToNat]) | (refine Br.mk ?_ ?_ <;> intro h) | (refine BrN.mk (fun h => ?_) ?_) | (refine AltVC.mk ?_ ?_)
          refine Chk.mk ⟨Nat.le_refl _, tabD_all fun j hj => by (repeat' split) <;> first | rfl | exact clo'_nl⟩ ?_
          refine loopK.mk (i + 1) (by simp (disch := first | omega | (simp only [vlen]; first | done | omega)) only [↓vAq, vBq, ↓reduceIte, Nat.reduceBEq, Nat.reduceEqDiff, Nat.reduceLT, Nat.reduceLeDiff, Nat.reduceAdd, Nat.reduceMul, Nat.reduceSub, reduceCtorEq, Int.reduceToNat]) (by omega) (by omega) ?_
          (simp (disch := first | omega | (simp only [vlen]; first | done | omega)) only [Fits_u, Fits_m, Fits_nil, List.length_append, vct, hN, ↓vAq, vBq, ↓reduceIte, Nat.reduceBEq, Nat.reduceEqDiff, Nat.reduceLT, Nat.reduceLeDiff, Nat.reduceAdd, Nat.reduceMul, Nat.reduceSub, reduceCtorEq, Int.reduceToNat] <;> (repeat' first | rfl | apply And.intro))
          exact obTabW (fun j hj => by
            by_cases e : j = i
            · subst e; rw [if_pos rfl, if_pos (by omega)]; rfl
            · rw [if_neg e]; (repeat' split) <;> first | rfl | omega) (decide_eq_true (by omega)).symm
        · repeat' first | ((first | refine Br.dec ?_ ?_ | refine Br.eqi ?_ ?_) <;> intro h <;> try (exfalso; omega)) | (simp (disch := first | omega | (simp only [vlen]; first | done | omega)) only [vct, hN, hwi, ↓vAq, vBq, ↓reduceIte, Nat.reduceBEq, Nat.reduceEqDiff, Nat.reduceLT, Nat.reduceLeDiff, Nat.reduceAdd, Nat.reduceMul, Nat.reduceSub, reduceCtorEq, Int.reduceToNat]) | (refine Br.mk ?_ ?_ <;> intro h) | (refine BrN.mk (fun h => ?_) ?_) | (refine AltVC.mk ?_ ?_)
          refine loopK.fold 3 2 a 0 true ?_
          repeat' first | ((first | refine Br.dec ?_ ?_ | refine Br.eqi ?_ ?_) <;> intro h <;> try (exfalso; omega)) | (simp (disch := first | omega | (simp only [vlen]; first | done | omega)) only [vct, hN, hwi, ↓vAq, vBq, ↓reduceIte, Nat.reduceBEq, Nat.reduceEqDiff, Nat.reduceLT, Nat.reduceLeDiff, Nat.reduceAdd, Nat.reduceMul, Nat.reduceSub, reduceCtorEq, Int.reduceToNat]) | (refine Br.mk ?_ ?_ <;> intro h) | (refine BrN.mk (fun h => ?_) ?_) | (refine AltVC.mk ?_ ?_)
          refine Chk.mk ⟨Nat.le_refl _, tabD_all fun j hj => by (repeat' split) <;> first | rfl | exact clo'_nl⟩ ?_
          refine loopK.mk (a + 1) (by simp (disch := first | omega | (simp only [vlen]; first | done | omega)) only [↓vAq, vBq, ↓reduceIte, Nat.reduceBEq, Nat.reduceEqDiff, Nat.reduceLT, Nat.reduceLeDiff, Nat.reduceAdd, Nat.reduceMul, Nat.reduceSub, reduceCtorEq, Int.reduceToNat]) (by omega) (by omega) ?_
          (simp (disch := first | omega | (simp only [vlen]; first | done | omega)) only [Fits_u, Fits_m, Fits_nil, List.length_append, vct, hN, ↓vAq, vBq, ↓reduceIte, Nat.reduceBEq, Nat.reduceEqDiff, Nat.reduceLT, Nat.reduceLeDiff, Nat.reduceAdd, Nat.reduceMul, Nat.reduceSub, reduceCtorEq, Int.reduceToNat] <;> (repeat' first | rfl | apply And.intro))
          refine obTabW (fun j hj => ?_) (decide_eq_true (by omega)).symm
          by_cases e : j = a
          · subst e
            rw [if_pos rfl, if_pos (by omega), decide_eq_true (show 0 < i by omega), tabD_ext (g := fun k => rwC F3 n j k) fun k hk => if_pos (by omega)]
            rfl
          · rw [if_neg e]; (repeat' split) <;> first | rfl | omega
    · have e1 : (tabD N fun b => if b < a then plC F3 n b else .nl) = tabD N fun b => plC F3 n b := tabD_ext fun j hj => by rw [if_pos (by omega)]
      rw [e1, decide_eq_true (show 0 < a by omega)]
      repeat' first | ((first | refine Br.dec ?_ ?_ | refine Br.eqi ?_ ?_) <;> intro h <;> try (exfalso; omega)) | (simp (disch := first | omega | (simp only [vlen]; first | done | omega)) only [vct, hN, hwi, ↓vAq, vBq, ↓reduceIte, Nat.reduceBEq, Nat.reduceEqDiff, Nat.reduceLT, Nat.reduceLeDiff, Nat.reduceAdd, Nat.reduceMul, Nat.reduceSub, reduceCtorEq, Int.reduceToNat]) | (refine Br.mk ?_ ?_ <;> intro h) | (refine BrN.mk (fun h => ?_) ?_) | (refine AltVC.mk ?_ ?_)
      refine LoopVC.mk (X := (Nat → Nat → Nat → Bool) × Bool) (fun x => [(6, .ref 2 1 0 N), (9, .v (.bool x.2))]) (fun x => tbO g N n x.1) (fun x => if x.2 then 7841 - cwt N n x.1 else 0) (fun x => Snd3 g w x.1 ∧ (x.2 = false → ∀ q i j, q < g.rules.length → j ≤ w.length → CLT g w x.1 q i j)) (F3, true) ⟨fun a i j h => by simp [F3] at h, by simp⟩ ?_ ?_
      · unfold tbO
        (simp (disch := first | omega | (simp only [vlen]; first | done | omega)) only [Fits_u, Fits_m, Fits_nil, List.length_append, vct, hN, ↓vAq, vBq, ↓reduceIte, Nat.reduceBEq, Nat.reduceEqDiff, Nat.reduceLT, Nat.reduceLeDiff, Nat.reduceAdd, Nat.reduceMul, Nat.reduceSub, reduceCtorEq, Int.reduceToNat] <;> (repeat' first | rfl | apply And.intro))
        all_goals first | rfl | skip
      · rintro ⟨T0, m0⟩ ⟨hS0, hc0⟩
        simp only at hS0 hc0 ⊢
        unfold tbO
        have hW0 := @cwtG_le N n T0 (by omega) (by omega)
        cases m0 with
        | false =>
          have hF : ∀ l i j, i ≤ w.length → (ovB g w T0 l i j = true ↔ Der g w l i j) := fun l i j hi => ⟨fun ho => hS0.ov ho, fun hd => ovB_all (fun q hq i j hij hj ho => hc0 rfl q i j hq hj hij ho) hd hi⟩
          repeat' first | ((first | refine Br.dec ?_ ?_ | refine Br.eqi ?_ ?_) <;> intro h <;> try (exfalso; omega)) | (simp (disch := first | omega | (simp only [vlen]; first | done | omega)) only [vct, hN, hwi, ↓vAq, vBq, ↓reduceIte, Nat.reduceBEq, Nat.reduceEqDiff, Nat.reduceLT, Nat.reduceLeDiff, Nat.reduceAdd, Nat.reduceMul, Nat.reduceSub, reduceCtorEq, Int.reduceToNat]) | (refine Br.mk ?_ ?_ <;> intro h) | (refine BrN.mk (fun h => ?_) ?_) | (refine AltVC.mk ?_ ?_)
          exact fin_mk ⟨T0, rfl, hF⟩
        | true =>
          repeat' first | ((first | refine Br.dec ?_ ?_ | refine Br.eqi ?_ ?_) <;> intro h <;> try (exfalso; omega)) | (simp (disch := first | omega | (simp only [vlen]; first | done | omega)) only [vct, hN, hwi, ↓vAq, vBq, ↓reduceIte, Nat.reduceBEq, Nat.reduceEqDiff, Nat.reduceLT, Nat.reduceLeDiff, Nat.reduceAdd, Nat.reduceMul, Nat.reduceSub, reduceCtorEq, Int.reduceToNat]) | (refine Br.mk ?_ ?_ <;> intro h) | (refine BrN.mk (fun h => ?_) ?_) | (refine AltVC.mk ?_ ?_)
          refine LoopVC.mk (X := (Nat → Nat → Nat → Bool) × Bool × Nat) (fun x => [(6, .ref 2 1 0 N), (9, .v (.bool x.2.1)), (48, iv .i64 x.2.2)]) (fun x => tbO g N n x.1) (fun x => g.rules.length - x.2.2) (fun x => Snd3 g w x.1 ∧ x.2.2 ≤ g.rules.length ∧ cwt N n T0 + (if x.2.1 then 1 else 0) ≤ cwt N n x.1 ∧ (x.2.1 = false → ∀ q i j, q < x.2.2 → j ≤ w.length → CLT g w x.1 q i j)) (T0, false, 0) ⟨hS0, Nat.zero_le _, by simp, fun _ q i j hq => absurd hq (Nat.not_lt_zero _)⟩ ?_ ?_
          · unfold tbO
            (simp (disch := first | omega | (simp only [vlen]; first | done | omega)) only [Fits_u, Fits_m, Fits_nil, List.length_append, vct, hN, ↓vAq, vBq, ↓reduceIte, Nat.reduceBEq, Nat.reduceEqDiff, Nat.reduceLT, Nat.reduceLeDiff, Nat.reduceAdd, Nat.reduceMul, Nat.reduceSub, reduceCtorEq, Int.reduceToNat] <;> (repeat' first | rfl | apply And.intro))
            all_goals first | rfl | skip
          · rintro ⟨T1, m1, q⟩ ⟨hS1, hq, hw1, hc1⟩
            simp only at hS1 hq hw1 hc1 ⊢
            unfold tbO
            have hW1 := @cwtG_le N n T1 (by omega) (by omega)
            by_cases hql : q < g.rules.length
            · have hmr := getD_mem' (l := g.rules) (i := q) hql
              have hleft := hc.v.left _ hmr
              have hlong := hc.v.long _ hmr
              obtain ⟨a, ha⟩ : ∃ a : Nat, (g.rules.getD q default).left = a := ⟨(g.rules.getD q default).left.toNat, by omega⟩
              repeat' first | ((first | refine Br.dec ?_ ?_ | refine Br.eqi ?_ ?_) <;> intro h <;> try (exfalso; omega)) | (simp (disch := first | omega | (simp only [vlen]; first | done | omega)) only [vct, hN, hwi, ↓vAq, vBq, ↓reduceIte, Nat.reduceBEq, Nat.reduceEqDiff, Nat.reduceLT, Nat.reduceLeDiff, Nat.reduceAdd, Nat.reduceMul, Nat.reduceSub, reduceCtorEq, Int.reduceToNat]) | (refine Br.mk ?_ ?_ <;> intro h) | (refine BrN.mk (fun h => ?_) ?_) | (refine AltVC.mk ?_ ?_)
              refine LoopVC.mk (X := (Nat → Nat → Nat → Bool) × Bool × Nat) (fun x => [(6, .ref 2 1 0 N), (9, .v (.bool x.2.1)), (12, iv .i64 x.2.2)]) (fun x => tbO g N n x.1 ++ [(3, ⟨2, [[iv .i64 (g.rules.getD q default).left, .sl 1 (i64s (g.rules.getD q default).right)]], true, false, .fix⟩)]) (fun x => n - x.2.2) (fun x => Snd3 g w x.1 ∧ x.2.2 ≤ n ∧ cwt N n T0 + (if x.2.1 then 1 else 0) ≤ cwt N n x.1 ∧ (x.2.1 = false → (∀ q' i j, q' < q → j ≤ w.length → CLT g w x.1 q' i j) ∧ ∀ i j, i < x.2.2 → j ≤ w.length → CLT g w x.1 q i j)) (T1, m1, 0) ⟨hS1, Nat.zero_le _, hw1, fun h => ⟨hc1 h, fun i j hi => absurd hi (Nat.not_lt_zero _)⟩⟩ ?_ ?_
              · simp only [tbO, List.cons_append, List.nil_append]
                (simp (disch := first | omega | (simp only [vlen]; first | done | omega)) only [Fits_u, Fits_m, Fits_nil, List.length_append, vct, hN, ↓vAq, vBq, ↓reduceIte, Nat.reduceBEq, Nat.reduceEqDiff, Nat.reduceLT, Nat.reduceLeDiff, Nat.reduceAdd, Nat.reduceMul, Nat.reduceSub, reduceCtorEq, Int.reduceToNat] <;> (repeat' first | rfl | apply And.intro))
                all_goals first | rfl | skip
              · rintro ⟨T2, m2, i⟩ ⟨hS2, hi, hw2, hc2⟩
                simp only at hS2 hi hw2 hc2 ⊢
                simp only [tbO, List.cons_append, List.nil_append]
                by_cases hin : i < n
                · repeat' first | ((first | refine Br.dec ?_ ?_ | refine Br.eqi ?_ ?_) <;> intro h <;> try (exfalso; omega)) | (simp (disch := first | omega | (simp only [vlen]; first | done | omega)) only [vct, hN, hwi, ↓vAq, vBq, ↓reduceIte, Nat.reduceBEq, Nat.reduceEqDiff, Nat.reduceLT, Nat.reduceLeDiff, Nat.reduceAdd, Nat.reduceMul, Nat.reduceSub, reduceCtorEq, Int.reduceToNat]) | (refine Br.mk ?_ ?_ <;> intro h) | (refine BrN.mk (fun h => ?_) ?_) | (refine AltVC.mk ?_ ?_)
                  refine LoopVC.mk (X := (Nat → Nat → Nat → Bool) × Bool × Nat) (fun x => [(6, .ref 2 1 0 N), (9, .v (.bool x.2.1)), (13, iv .i64 x.2.2)]) (fun x => tbO g N n x.1 ++ [(3, ⟨2, [[iv .i64 (g.rules.getD q default).left, .sl 1 (i64s (g.rules.getD q default).right)]], true, false, .fix⟩)]) (fun x => n - x.2.2) (fun x => Snd3 g w x.1 ∧ i ≤ x.2.2 ∧ x.2.2 ≤ n ∧ cwt N n T0 + (if x.2.1 then 1 else 0) ≤ cwt N n x.1 ∧ (x.2.1 = false → (∀ q' i j, q' < q → j ≤ w.length → CLT g w x.1 q' i j) ∧ (∀ i' j, i' < i → j ≤ w.length → CLT g w x.1 q i' j) ∧ ∀ j, j < x.2.2 → CLT g w x.1 q i j)) (T2, m2, i) ⟨hS2, Nat.le_refl _, hi, hw2, fun h => ⟨(hc2 h).1, (hc2 h).2, fun j hj hij => by simp only at hj; omega⟩⟩ ?_ ?_
                  · simp only [tbO, List.cons_append, List.nil_append]
                    (simp (disch := first | omega | (simp only [vlen]; first | done | omega)) only [Fits_u, Fits_m, Fits_nil, List.length_append, vct, hN, ↓vAq, vBq, ↓reduceIte, Nat.reduceBEq, Nat.reduceEqDiff, Nat.reduceLT, Nat.reduceLeDiff, Nat.reduceAdd, Nat.reduceMul, Nat.reduceSub, reduceCtorEq, Int.reduceToNat] <;> (repeat' first | rfl | apply And.intro))
                    all_goals first | rfl | skip
                  · rintro ⟨T, m, j⟩ ⟨hS, hj1, hj2, hw3, hc3⟩
                    simp only at hS hj1 hj2 hw3 hc3 ⊢
                    simp only [tbO, List.cons_append, List.nil_append]
                    have hbl := @tbb_len n (fun j => T a i j)
                    have hf1 : (tabD n fun k => if k = i then .own false 1 (bls (tbb n fun j => T a i j)) else rwC T n a k) = tabD n fun k => rwC T n a k := tabD_ext fun k _ => by
                      by_cases e : k = i
                      · subst e; rw [if_pos rfl]; rfl
                      · rw [if_neg e]
                    have hf2 : (tabD N fun b => if b = a then .own true 1 (tabD n fun k => rwC T n a k) else plC T n b) = tabD N fun b => plC T n b := tabD_ext fun b _ => by
                      by_cases e : b = a
                      · subst e; rw [if_pos rfl]; rfl
                      · rw [if_neg e]
                    by_cases hjn : j < n
                    · cases hT : T a i j with
                      | true =>
                        repeat' first | ((first | refine Br.dec ?_ ?_ | refine Br.eqi ?_ ?_) <;> intro h <;> try (exfalso; omega)) | (simp (disch := first | omega | (simp only [vlen]; first | done | omega)) only [vct, hN, hwi, ha, hT, ↓vAq, vBq, ↓reduceIte, Nat.reduceBEq, Nat.reduceEqDiff, Nat.reduceLT, Nat.reduceLeDiff, Nat.reduceAdd, Nat.reduceMul, Nat.reduceSub, reduceCtorEq, Int.reduceToNat]) | (refine Br.mk ?_ ?_ <;> intro h) | (refine BrN.mk (fun h => ?_) ?_) | (refine AltVC.mk ?_ ?_)
                        refine loopK.fold 5 4 i 0 true ?_
                        repeat' first | ((first | refine Br.dec ?_ ?_ | refine Br.eqi ?_ ?_) <;> intro h <;> try (exfalso; omega)) | (simp (disch := first | omega | (simp only [vlen]; first | done | omega)) only [vct, hN, hwi, ha, hT, hf1, ↓vAq, vBq, ↓reduceIte, Nat.reduceBEq, Nat.reduceEqDiff, Nat.reduceLT, Nat.reduceLeDiff, Nat.reduceAdd, Nat.reduceMul, Nat.reduceSub, reduceCtorEq, Int.reduceToNat]) | (refine Br.mk ?_ ?_ <;> intro h) | (refine BrN.mk (fun h => ?_) ?_) | (refine AltVC.mk ?_ ?_)
                        refine Chk.mk ⟨Nat.le_refl _, tabD_all fun j hj => by (repeat' split) <;> first | rfl | exact clo'_nl⟩ ?_
                        repeat' first | ((first | refine Br.dec ?_ ?_ | refine Br.eqi ?_ ?_) <;> intro h <;> try (exfalso; omega)) | (simp (disch := first | omega | (simp only [vlen]; first | done | omega)) only [vct, hN, hwi, ha, hT, hf1, ↓vAq, vBq, ↓reduceIte, Nat.reduceBEq, Nat.reduceEqDiff, Nat.reduceLT, Nat.reduceLeDiff, Nat.reduceAdd, Nat.reduceMul, Nat.reduceSub, reduceCtorEq, Int.reduceToNat]) | (refine Br.mk ?_ ?_ <;> intro h) | (refine BrN.mk (fun h => ?_) ?_) | (refine AltVC.mk ?_ ?_)
                        refine loopK.fold 4 2 a 0 true ?_
                        repeat' first | ((first | refine Br.dec ?_ ?_ | refine Br.eqi ?_ ?_) <;> intro h <;> try (exfalso; omega)) | (simp (disch := first | omega | (simp only [vlen]; first | done | omega)) only [vct, hN, hwi, ha, hT, hf1, hf2, ↓vAq, vBq, ↓reduceIte, Nat.reduceBEq, Nat.reduceEqDiff, Nat.reduceLT, Nat.reduceLeDiff, Nat.reduceAdd, Nat.reduceMul, Nat.reduceSub, reduceCtorEq, Int.reduceToNat]) | (refine Br.mk ?_ ?_ <;> intro h) | (refine BrN.mk (fun h => ?_) ?_) | (refine AltVC.mk ?_ ?_)
                        refine Chk.mk ⟨Nat.le_refl _, tabD_all fun j hj => by (repeat' split) <;> first | rfl | exact clo'_nl⟩ ?_
                        refine loopK.mk (T, m, j + 1) (by simp (disch := first | omega | (simp only [vlen]; first | done | omega)) only [↓vAq, vBq, ↓reduceIte, Nat.reduceBEq, Nat.reduceEqDiff, Nat.reduceLT, Nat.reduceLeDiff, Nat.reduceAdd, Nat.reduceMul, Nat.reduceSub, reduceCtorEq, Int.reduceToNat]) ⟨hS, by show i ≤ j + 1; omega, by show j + 1 ≤ n; omega, hw3, fun h => ⟨(hc3 h).1, (hc3 h).2.1, fun j' h1 => ?_⟩⟩ (by show n - (j + 1) < n - j; omega) ?_
                        · by_cases e : j' = j
                          · subst e; intro _ _; rw [ha, Int.toNat_natCast]; exact hT
                          · exact (hc3 h).2.2 j' (by have : j' < j + 1 := h1; omega)
                        · (simp (disch := first | omega | (simp only [vlen]; first | done | omega)) only [Fits_u, Fits_m, Fits_nil, List.length_append, vct, hN, ha, hf1, hf2, ↓vAq, vBq, ↓reduceIte, Nat.reduceBEq, Nat.reduceEqDiff, Nat.reduceLT, Nat.reduceLeDiff, Nat.reduceAdd, Nat.reduceMul, Nat.reduceSub, reduceCtorEq, Int.reduceToNat] <;> (repeat' first | rfl | apply And.intro))
                          all_goals first | rfl | skip
                      | false =>
                        have hO := overG_spec g w hc N hN T (g.rules.getD q default).right hlong (hc.v.right _ hmr) i j hj1 (by omega)
                        rw [graD_eq, hN, ← hn'] at hO
                        cases ho : ovB g w T (g.rules.getD q default).right i j with
                        | false =>
                          rw [ho] at hO
                          repeat' first | ((first | refine Br.dec ?_ ?_ | refine Br.eqi ?_ ?_) <;> intro h <;> try (exfalso; omega)) | (simp (disch := first | omega | (simp only [vlen]; first | done | omega)) only [vct, hN, hwi, ha, hT, ↓vAq, vBq, ↓reduceIte, Nat.reduceBEq, Nat.reduceEqDiff, Nat.reduceLT, Nat.reduceLeDiff, Nat.reduceAdd, Nat.reduceMul, Nat.reduceSub, reduceCtorEq, Int.reduceToNat]) | (refine Br.mk ?_ ?_ <;> intro h) | (refine BrN.mk (fun h => ?_) ?_) | (refine AltVC.mk ?_ ?_)
                          refine CallVC.fold 5 4 i 0 true ?_
                          repeat' first | ((first | refine Br.dec ?_ ?_ | refine Br.eqi ?_ ?_) <;> intro h <;> try (exfalso; omega)) | (simp (disch := first | omega | (simp only [vlen]; first | done | omega)) only [vct, hN, hwi, ha, hT, hf1, ↓vAq, vBq, ↓reduceIte, Nat.reduceBEq, Nat.reduceEqDiff, Nat.reduceLT, Nat.reduceLeDiff, Nat.reduceAdd, Nat.reduceMul, Nat.reduceSub, reduceCtorEq, Int.reduceToNat]) | (refine Br.mk ?_ ?_ <;> intro h) | (refine BrN.mk (fun h => ?_) ?_) | (refine AltVC.mk ?_ ?_)
                          refine Chk.mk ⟨Nat.le_refl _, tabD_all fun j hj => by (repeat' split) <;> first | rfl | exact clo'_nl⟩ ?_
                          repeat' first | ((first | refine Br.dec ?_ ?_ | refine Br.eqi ?_ ?_) <;> intro h <;> try (exfalso; omega)) | (simp (disch := first | omega | (simp only [vlen]; first | done | omega)) only [vct, hN, hwi, ha, hT, hf1, ↓vAq, vBq, ↓reduceIte, Nat.reduceBEq, Nat.reduceEqDiff, Nat.reduceLT, Nat.reduceLeDiff, Nat.reduceAdd, Nat.reduceMul, Nat.reduceSub, reduceCtorEq, Int.reduceToNat]) | (refine Br.mk ?_ ?_ <;> intro h) | (refine BrN.mk (fun h => ?_) ?_) | (refine AltVC.mk ?_ ?_)
                          refine CallVC.fold 4 2 a 0 true ?_
                          repeat' first | ((first | refine Br.dec ?_ ?_ | refine Br.eqi ?_ ?_) <;> intro h <;> try (exfalso; omega)) | (simp (disch := first | omega | (simp only [vlen]; first | done | omega)) only [vct, hN, hwi, ha, hT, hf1, hf2, ↓vAq, vBq, ↓reduceIte, Nat.reduceBEq, Nat.reduceEqDiff, Nat.reduceLT, Nat.reduceLeDiff, Nat.reduceAdd, Nat.reduceMul, Nat.reduceSub, reduceCtorEq, Int.reduceToNat]) | (refine Br.mk ?_ ?_ <;> intro h) | (refine BrN.mk (fun h => ?_) ?_) | (refine AltVC.mk ?_ ?_)
                          refine Chk.mk ⟨Nat.le_refl _, tabD_all fun j hj => by (repeat' split) <;> first | rfl | exact clo'_nl⟩ ?_
                          repeat' first | ((first | refine Br.dec ?_ ?_ | refine Br.eqi ?_ ?_) <;> intro h <;> try (exfalso; omega)) | (simp (disch := first | omega | (simp only [vlen]; first | done | omega)) only [vct, hN, hwi, ha, hT, hf1, hf2, ↓vAq, vBq, ↓reduceIte, Nat.reduceBEq, Nat.reduceEqDiff, Nat.reduceLT, Nat.reduceLeDiff, Nat.reduceAdd, Nat.reduceMul, Nat.reduceSub, reduceCtorEq, Int.reduceToNat]) | (refine Br.mk ?_ ?_ <;> intro h) | (refine BrN.mk (fun h => ?_) ?_) | (refine AltVC.mk ?_ ?_)
                          refine CallVC.eqo hO (by simp (disch := first | omega | (simp only [vlen]; first | done | omega)) only [↓vAq, vBq, ↓reduceIte, Nat.reduceBEq, Nat.reduceEqDiff, Nat.reduceLT, Nat.reduceLeDiff, Nat.reduceAdd, Nat.reduceMul, Nat.reduceSub, reduceCtorEq, Int.reduceToNat]) ?_
                          repeat' first | ((first | refine Br.dec ?_ ?_ | refine Br.eqi ?_ ?_) <;> intro h <;> try (exfalso; omega)) | (simp (disch := first | omega | (simp only [vlen]; first | done | omega)) only [vct, hN, hwi, ha, hT, hf1, hf2, ↓vAq, vBq, ↓reduceIte, Nat.reduceBEq, Nat.reduceEqDiff, Nat.reduceLT, Nat.reduceLeDiff, Nat.reduceAdd, Nat.reduceMul, Nat.reduceSub, reduceCtorEq, Int.reduceToNat]) | (refine Br.mk ?_ ?_ <;> intro h) | (refine BrN.mk (fun h => ?_) ?_) | (refine AltVC.mk ?_ ?_)
                          refine loopK.mk (T, m, j + 1) (by simp (disch := first | omega | (simp only [vlen]; first | done | omega)) only [↓vAq, vBq, ↓reduceIte, Nat.reduceBEq, Nat.reduceEqDiff, Nat.reduceLT, Nat.reduceLeDiff, Nat.reduceAdd, Nat.reduceMul, Nat.reduceSub, reduceCtorEq, Int.reduceToNat]) ⟨hS, by show i ≤ j + 1; omega, by show j + 1 ≤ n; omega, hw3, fun h => ⟨(hc3 h).1, (hc3 h).2.1, fun j' h1 => ?_⟩⟩ (by show n - (j + 1) < n - j; omega) ?_
                          · by_cases e : j' = j
                            · subst e; intro _ h2; rw [ho] at h2; cases h2
                            · exact (hc3 h).2.2 j' (by have : j' < j + 1 := h1; omega)
                          · (simp (disch := first | omega | (simp only [vlen]; first | done | omega)) only [Fits_u, Fits_m, Fits_nil, List.length_append, vct, hN, ha, hf1, hf2, ↓vAq, vBq, ↓reduceIte, Nat.reduceBEq, Nat.reduceEqDiff, Nat.reduceLT, Nat.reduceLeDiff, Nat.reduceAdd, Nat.reduceMul, Nat.reduceSub, reduceCtorEq, Int.reduceToNat] <;> (repeat' first | rfl | apply And.intro))
                            all_goals first | rfl | skip
                        | true =>
                          rw [ho] at hO
                          repeat' first | ((first | refine Br.dec ?_ ?_ | refine Br.eqi ?_ ?_) <;> intro h <;> try (exfalso; omega)) | (simp (disch := first | omega | (simp only [vlen]; first | done | omega)) only [vct, hN, hwi, ha, hT, ↓vAq, vBq, ↓reduceIte, Nat.reduceBEq, Nat.reduceEqDiff, Nat.reduceLT, Nat.reduceLeDiff, Nat.reduceAdd, Nat.reduceMul, Nat.reduceSub, reduceCtorEq, Int.reduceToNat]) | (refine Br.mk ?_ ?_ <;> intro h) | (refine BrN.mk (fun h => ?_) ?_) | (refine AltVC.mk ?_ ?_)
                          refine CallVC.fold 5 4 i 0 true ?_
                          repeat' first | ((first | refine Br.dec ?_ ?_ | refine Br.eqi ?_ ?_) <;> intro h <;> try (exfalso; omega)) | (simp (disch := first | omega | (simp only [vlen]; first | done | omega)) only [vct, hN, hwi, ha, hT, hf1, ↓vAq, vBq, ↓reduceIte, Nat.reduceBEq, Nat.reduceEqDiff, Nat.reduceLT, Nat.reduceLeDiff, Nat.reduceAdd, Nat.reduceMul, Nat.reduceSub, reduceCtorEq, Int.reduceToNat]) | (refine Br.mk ?_ ?_ <;> intro h) | (refine BrN.mk (fun h => ?_) ?_) | (refine AltVC.mk ?_ ?_)
                          refine Chk.mk ⟨Nat.le_refl _, tabD_all fun j hj => by (repeat' split) <;> first | rfl | exact clo'_nl⟩ ?_
                          repeat' first | ((first | refine Br.dec ?_ ?_ | refine Br.eqi ?_ ?_) <;> intro h <;> try (exfalso; omega)) | (simp (disch := first | omega | (simp only [vlen]; first | done | omega)) only [vct, hN, hwi, ha, hT, hf1, ↓vAq, vBq, ↓reduceIte, Nat.reduceBEq, Nat.reduceEqDiff, Nat.reduceLT, Nat.reduceLeDiff, Nat.reduceAdd, Nat.reduceMul, Nat.reduceSub, reduceCtorEq, Int.reduceToNat]) | (refine Br.mk ?_ ?_ <;> intro h) | (refine BrN.mk (fun h => ?_) ?_) | (refine AltVC.mk ?_ ?_)
                          refine CallVC.fold 4 2 a 0 true ?_
                          repeat' first | ((first | refine Br.dec ?_ ?_ | refine Br.eqi ?_ ?_) <;> intro h <;> try (exfalso; omega)) | (simp (disch := first | omega | (simp only [vlen]; first | done | omega)) only [vct, hN, hwi, ha, hT, hf1, hf2, ↓vAq, vBq, ↓reduceIte, Nat.reduceBEq, Nat.reduceEqDiff, Nat.reduceLT, Nat.reduceLeDiff, Nat.reduceAdd, Nat.reduceMul, Nat.reduceSub, reduceCtorEq, Int.reduceToNat]) | (refine Br.mk ?_ ?_ <;> intro h) | (refine BrN.mk (fun h => ?_) ?_) | (refine AltVC.mk ?_ ?_)
                          refine Chk.mk ⟨Nat.le_refl _, tabD_all fun j hj => by (repeat' split) <;> first | rfl | exact clo'_nl⟩ ?_
                          repeat' first | ((first | refine Br.dec ?_ ?_ | refine Br.eqi ?_ ?_) <;> intro h <;> try (exfalso; omega)) | (simp (disch := first | omega | (simp only [vlen]; first | done | omega)) only [vct, hN, hwi, ha, hT, hf1, hf2, ↓vAq, vBq, ↓reduceIte, Nat.reduceBEq, Nat.reduceEqDiff, Nat.reduceLT, Nat.reduceLeDiff, Nat.reduceAdd, Nat.reduceMul, Nat.reduceSub, reduceCtorEq, Int.reduceToNat]) | (refine Br.mk ?_ ?_ <;> intro h) | (refine BrN.mk (fun h => ?_) ?_) | (refine AltVC.mk ?_ ?_)
                          refine CallVC.eqo hO (by simp (disch := first | omega | (simp only [vlen]; first | done | omega)) only [↓vAq, vBq, ↓reduceIte, Nat.reduceBEq, Nat.reduceEqDiff, Nat.reduceLT, Nat.reduceLeDiff, Nat.reduceAdd, Nat.reduceMul, Nat.reduceSub, reduceCtorEq, Int.reduceToNat]) ?_
                          repeat' first | ((first | refine Br.dec ?_ ?_ | refine Br.eqi ?_ ?_) <;> intro h <;> try (exfalso; omega)) | (simp (disch := first | omega | (simp only [vlen]; first | done | omega)) only [vct, hN, hwi, ha, hT, hf1, hf2, ↓vAq, vBq, ↓reduceIte, Nat.reduceBEq, Nat.reduceEqDiff, Nat.reduceLT, Nat.reduceLeDiff, Nat.reduceAdd, Nat.reduceMul, Nat.reduceSub, reduceCtorEq, Int.reduceToNat]) | (refine Br.mk ?_ ?_ <;> intro h) | (refine BrN.mk (fun h => ?_) ?_) | (refine AltVC.mk ?_ ?_)
                          refine loopK.fold 7 6 i 0 true ?_
                          repeat' first | ((first | refine Br.dec ?_ ?_ | refine Br.eqi ?_ ?_) <;> intro h <;> try (exfalso; omega)) | (simp (disch := first | omega | (simp only [vlen]; first | done | omega)) only [vct, hN, hwi, ha, hT, ↓vAq, vBq, ↓reduceIte, Nat.reduceBEq, Nat.reduceEqDiff, Nat.reduceLT, Nat.reduceLeDiff, Nat.reduceAdd, Nat.reduceMul, Nat.reduceSub, reduceCtorEq, Int.reduceToNat]) | (refine Br.mk ?_ ?_ <;> intro h) | (refine BrN.mk (fun h => ?_) ?_) | (refine AltVC.mk ?_ ?_)
                          refine Chk.mk ⟨Nat.le_refl _, tabD_all fun j hj => by (repeat' split) <;> first | rfl | exact clo'_nl⟩ ?_
                          repeat' first | ((first | refine Br.dec ?_ ?_ | refine Br.eqi ?_ ?_) <;> intro h <;> try (exfalso; omega)) | (simp (disch := first | omega | (simp only [vlen]; first | done | omega)) only [vct, hN, hwi, ha, hT, ↓vAq, vBq, ↓reduceIte, Nat.reduceBEq, Nat.reduceEqDiff, Nat.reduceLT, Nat.reduceLeDiff, Nat.reduceAdd, Nat.reduceMul, Nat.reduceSub, reduceCtorEq, Int.reduceToNat]) | (refine Br.mk ?_ ?_ <;> intro h) | (refine BrN.mk (fun h => ?_) ?_) | (refine AltVC.mk ?_ ?_)
                          refine loopK.fold 6 2 a 0 true ?_
                          repeat' first | ((first | refine Br.dec ?_ ?_ | refine Br.eqi ?_ ?_) <;> intro h <;> try (exfalso; omega)) | (simp (disch := first | omega | (simp only [vlen]; first | done | omega)) only [vct, hN, hwi, ha, hT, ↓vAq, vBq, ↓reduceIte, Nat.reduceBEq, Nat.reduceEqDiff, Nat.reduceLT, Nat.reduceLeDiff, Nat.reduceAdd, Nat.reduceMul, Nat.reduceSub, reduceCtorEq, Int.reduceToNat]) | (refine Br.mk ?_ ?_ <;> intro h) | (refine BrN.mk (fun h => ?_) ?_) | (refine AltVC.mk ?_ ?_)
                          refine Chk.mk ⟨Nat.le_refl _, tabD_all fun j hj => by (repeat' split) <;> first | rfl | exact clo'_nl⟩ ?_
                          have hcu := cwt_upd (N := N) (n := n) (a := a) (by omega) hin hjn hT
                          have hW := @cwtG_le N n (upd3 T a i j) (by omega) (by omega)
                          refine loopK.mk (upd3 T a i j, true, j + 1) (by simp (disch := first | omega | (simp only [vlen]; first | done | omega)) only [↓vAq, vBq, ↓reduceIte, Nat.reduceBEq, Nat.reduceEqDiff, Nat.reduceLT, Nat.reduceLeDiff, Nat.reduceAdd, Nat.reduceMul, Nat.reduceSub, reduceCtorEq, Int.reduceToNat]) ⟨hS.add (by omega) hql ha hj1 (hS.ov ho), by show i ≤ j + 1; omega, by show j + 1 ≤ n; omega, by show cwt N n T0 + (if true then 1 else 0) ≤ cwt N n (upd3 T a i j); simp only [if_true]; omega, fun h => by cases h⟩ (by show n - (j + 1) < n - j; omega) ?_
                          (simp (disch := first | omega | (simp only [vlen]; first | done | omega)) only [Fits_u, Fits_m, Fits_nil, List.length_append, vct, hN, ha, ↓vAq, vBq, ↓reduceIte, Nat.reduceBEq, Nat.reduceEqDiff, Nat.reduceLT, Nat.reduceLeDiff, Nat.reduceAdd, Nat.reduceMul, Nat.reduceSub, reduceCtorEq, Int.reduceToNat] <;> (repeat' first | rfl | apply And.intro))
                          refine obTabW (fun b hb => ?_) rfl
                          by_cases e : b = a
                          · subst e
                            rw [if_pos rfl, plC_eq]
                            congr 1
                            refine tabD_ext fun k hk => ?_
                            by_cases e2 : k = i
                            · subst e2
                              rw [if_pos rfl, rwC_eq, tbb_ext (g := fun m => upd3 T b k j b k m) fun m hm => ?_]
                              by_cases e3 : m = j
                              · subst e3; rw [if_pos rfl, upd3_at]
                              · rw [if_neg e3, upd3_ne fun h => e3 h.2.2]
                            · rw [if_neg e2, rwC_eq, rwC_eq, tbb_ext (g := fun m => upd3 T b i j b k m) fun m hm => ?_]
                              rw [upd3_ne fun h => e2 h.2.1]
                          · rw [if_neg e, plC_eq, plC_eq]
                            congr 1
                            refine tabD_ext fun k hk => ?_
                            rw [rwC_eq, rwC_eq, tbb_ext (g := fun m => upd3 T a i j b k m) fun m hm => ?_]
                            rw [upd3_ne fun h => e h.1]
                    · repeat' first | ((first | refine Br.dec ?_ ?_ | refine Br.eqi ?_ ?_) <;> intro h <;> try (exfalso; omega)) | (simp (disch := first | omega | (simp only [vlen]; first | done | omega)) only [vct, hN, hwi, ↓vAq, vBq, ↓reduceIte, Nat.reduceBEq, Nat.reduceEqDiff, Nat.reduceLT, Nat.reduceLeDiff, Nat.reduceAdd, Nat.reduceMul, Nat.reduceSub, reduceCtorEq, Int.reduceToNat]) | (refine Br.mk ?_ ?_ <;> intro h) | (refine BrN.mk (fun h => ?_) ?_) | (refine AltVC.mk ?_ ?_)
                      refine loopK.mk (T, m, i + 1) (by simp (disch := first | omega | (simp only [vlen]; first | done | omega)) only [↓vAq, vBq, ↓reduceIte, Nat.reduceBEq, Nat.reduceEqDiff, Nat.reduceLT, Nat.reduceLeDiff, Nat.reduceAdd, Nat.reduceMul, Nat.reduceSub, reduceCtorEq, Int.reduceToNat]) ⟨hS, by show i + 1 ≤ n; omega, hw3, fun h => ⟨(hc3 h).1, fun i' j' h1 h2 => ?_⟩⟩ (by show n - (i + 1) < n - i; omega) ?_
                      · by_cases e : i' = i
                        · subst e; exact (hc3 h).2.2 j' (by omega)
                        · exact (hc3 h).2.1 i' j' (by have : i' < i + 1 := h1; omega) h2
                      · (simp (disch := first | omega | (simp only [vlen]; first | done | omega)) only [Fits_u, Fits_m, Fits_nil, List.length_append, vct, hN, ↓vAq, vBq, ↓reduceIte, Nat.reduceBEq, Nat.reduceEqDiff, Nat.reduceLT, Nat.reduceLeDiff, Nat.reduceAdd, Nat.reduceMul, Nat.reduceSub, reduceCtorEq, Int.reduceToNat] <;> (repeat' first | rfl | apply And.intro))
                        all_goals first | rfl | skip
                · repeat' first | ((first | refine Br.dec ?_ ?_ | refine Br.eqi ?_ ?_) <;> intro h <;> try (exfalso; omega)) | (simp (disch := first | omega | (simp only [vlen]; first | done | omega)) only [vct, hN, hwi, ↓vAq, vBq, ↓reduceIte, Nat.reduceBEq, Nat.reduceEqDiff, Nat.reduceLT, Nat.reduceLeDiff, Nat.reduceAdd, Nat.reduceMul, Nat.reduceSub, reduceCtorEq, Int.reduceToNat]) | (refine Br.mk ?_ ?_ <;> intro h) | (refine BrN.mk (fun h => ?_) ?_) | (refine AltVC.mk ?_ ?_)
                  refine loopK.mk (T2, m2, q + 1) (by simp (disch := first | omega | (simp only [vlen]; first | done | omega)) only [↓vAq, vBq, ↓reduceIte, Nat.reduceBEq, Nat.reduceEqDiff, Nat.reduceLT, Nat.reduceLeDiff, Nat.reduceAdd, Nat.reduceMul, Nat.reduceSub, reduceCtorEq, Int.reduceToNat]) ⟨hS2, by show q + 1 ≤ g.rules.length; omega, hw2, fun h q' i' j' h1 h2 => ?_⟩ (by show g.rules.length - (q + 1) < g.rules.length - q; omega) ?_
                  · by_cases e : q' = q
                    · subst e
                      intro hij
                      exact (hc2 h).2 i' j' (by omega) h2 hij
                    · exact (hc2 h).1 q' i' j' (by have : q' < q + 1 := h1; omega) h2
                  · (simp (disch := first | omega | (simp only [vlen]; first | done | omega)) only [Fits_u, Fits_m, Fits_nil, List.length_append, vct, hN, ↓vAq, vBq, ↓reduceIte, Nat.reduceBEq, Nat.reduceEqDiff, Nat.reduceLT, Nat.reduceLeDiff, Nat.reduceAdd, Nat.reduceMul, Nat.reduceSub, reduceCtorEq, Int.reduceToNat] <;> (repeat' first | rfl | apply And.intro))
                    all_goals first | rfl | skip
            · repeat' first | ((first | refine Br.dec ?_ ?_ | refine Br.eqi ?_ ?_) <;> intro h <;> try (exfalso; omega)) | (simp (disch := first | omega | (simp only [vlen]; first | done | omega)) only [vct, hN, hwi, ↓vAq, vBq, ↓reduceIte, Nat.reduceBEq, Nat.reduceEqDiff, Nat.reduceLT, Nat.reduceLeDiff, Nat.reduceAdd, Nat.reduceMul, Nat.reduceSub, reduceCtorEq, Int.reduceToNat]) | (refine Br.mk ?_ ?_ <;> intro h) | (refine BrN.mk (fun h => ?_) ?_) | (refine AltVC.mk ?_ ?_)
              refine loopK.mk (T1, m1) (by simp (disch := first | omega | (simp only [vlen]; first | done | omega)) only [↓vAq, vBq, ↓reduceIte, Nat.reduceBEq, Nat.reduceEqDiff, Nat.reduceLT, Nat.reduceLeDiff, Nat.reduceAdd, Nat.reduceMul, Nat.reduceSub, reduceCtorEq, Int.reduceToNat]) ⟨hS1, fun h q' i' j' h1 h2 => hc1 h q' i' j' (by omega) h2⟩ ?_ ?_
              · show (if m1 then 7841 - cwt N n T1 else 0) < (if true then 7841 - cwt N n T0 else 0)
                cases m1 <;> simp only [if_true, Bool.false_eq_true, if_false] at hw1 ⊢ <;> omega
              · (simp (disch := first | omega | (simp only [vlen]; first | done | omega)) only [Fits_u, Fits_m, Fits_nil, List.length_append, vct, hN, ↓vAq, vBq, ↓reduceIte, Nat.reduceBEq, Nat.reduceEqDiff, Nat.reduceLT, Nat.reduceLeDiff, Nat.reduceAdd, Nat.reduceMul, Nat.reduceSub, reduceCtorEq, Int.reduceToNat] <;> (repeat' first | rfl | apply And.intro))
                all_goals first | rfl | skip
end Go.Proofs.Ytplkkacfjepgpaa
