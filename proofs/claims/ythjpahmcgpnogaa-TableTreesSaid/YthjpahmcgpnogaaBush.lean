/-
  coppicerref.Bush: how many trees; Trees and Row, by what is known.
-/
import Derived.Test.YthjpahmcgpnogaaCtr
namespace Go.Proofs.Ythjpahmcgpnogaa
open Go.Dm
set_option linter.unusedSimpArgs false
set_option linter.unnecessarySimpa false
set_option linter.unusedVariables false
set_option linter.defProp false

structure BE where
  x : Int
  i : Nat
  j : Nat
  v : Nat
deriving Inhabited
def beD (e : BE) : List D := [iv .i64 e.x, iv .i64 e.i, iv .i64 e.j, iv .i64 e.v]
theorem beD_eq {e : BE} : beD e = [iv .i64 e.x, iv .i64 e.i, iv .i64 e.j, iv .i64 e.v] := (rfl)
def BI (g : Grammar) (w : List Int) (L : List BE) : Prop := ∀ e, e ∈ L → e.v = cp (trees g w e.x e.i e.j)
theorem BI.nil {g : Grammar} {w : List Int} : BI g w [] := fun e h => by cases h
theorem BI.add {g : Grammar} {w : List Int} {L : List BE} (h : BI g w L) {e : BE} (he : e.v = cp (trees g w e.x e.i e.j)) : BI g w (L ++ [e]) := fun x hx => by
  rcases List.mem_append.mp hx with h1 | h1
  · exact h x h1
  · rw [List.mem_singleton.mp h1]; exact he
theorem BI.set {g : Grammar} {w : List Int} {L : List BE} (h : BI g w L) {e : BE} {r : Nat} (he : e.v = cp (trees g w e.x e.i e.j)) : BI g w (L.set r e) := fun x hx => by
  rcases List.mem_or_eq_of_mem_set hx with h1 | h1
  · exact h x h1
  · rw [h1]; exact he
theorem be_in {g : Grammar} {w : List Int} {L : List BE} (h : BI g w L) {r : Nat} {x : Int} {i j : Nat} (hr : r < (tbl beD L).length) (he : Agr (((tbl beD L).getD r []).take 3) [.v (.int .i64 x), .v (.int .i64 i), .v (.int .i64 j)]) : (tbl beD L).getD r [] = [iv .i64 x, iv .i64 i, iv .i64 j, iv .i64 (cp (trees g w x i j))] := by
  rw [tbl_len] at hr
  rw [tbl_get hr] at he ⊢
  rw [beD_eq] at he ⊢
  simp only [List.take_succ_cons, List.take_zero, Agr_v, D.v.injEq, Value.int.injEq, true_and, Int.natCast_inj] at he
  have hm := h _ (getD_mem' (l := L) (i := r) hr)
  rw [hm, he.1, he.2.1, he.2.2.1]
theorem be_app {L : List BE} {x : Int} {i j v : Nat} : tbl beD L ++ [[D.v (.int .i64 x), D.v (.int .i64 i), D.v (.int .i64 j), D.v (.int .i64 v)]] = tbl beD (L ++ [⟨x, i, j, v⟩]) := by rw [tbl_app]; rfl
theorem be_set {L : List BE} {r : Nat} {x : Int} {i j v : Nat} : (tbl beD L).set r [D.v (.int .i64 x), D.v (.int .i64 i), D.v (.int .i64 j), D.v (.int .i64 v)] = tbl beD (L.set r ⟨x, i, j, v⟩) := by rw [← tbl_set]; rfl
def vbe := And.intro vmr <| And.intro @be_app <| And.intro @be_set <| And.intro @rulD_eq @Int.add_sub_cancel
def buO (g : Grammar) (w : List Int) (L : List BE) : List Ob := [⟨6, [[iv .i64 g.k, iv .i64 g.n, iv .i64 g.start, .sl 2 (tbl rulD g.rules), .sl 1 (i64s w), .mp 1]], false, false, .fix⟩, ⟨4, tbl beD L, true, false, .map [.i64, .i64, .i64] true false⟩]
def buL (g : Grammar) (w : List Int) (L : List BE) : List (Nat × Ob) := [(0, ⟨6, [[iv .i64 g.k, iv .i64 g.n, iv .i64 g.start, .sl 2 (tbl rulD g.rules), .sl 1 (i64s w), .mp 1]], false, false, .fix⟩), (1, ⟨4, tbl beD L, true, false, .map [.i64, .i64, .i64] true false⟩)]
def buR (g : Grammar) (w : List Int) (n : Nat) (d : D) (o : List (Option Ob)) : Prop := ∃ L, d = iv .i64 (cp n) ∧ o = (buO g w L).map some ∧ BI g w L
theorem bush_fin {g : Grammar} {w : List Int} {s : S} {n : Nat} {v : Int} {L : List BE} (h1 : 2 ≤ s.N) (h2 : fitL s 2 0 ((buO g w L).map some)) (hv : v = (cp n : Nat)) (hL : BI g w L) : FinH 2 (buR g w n) s (D.v (.int .i64 v)) :=
  finH_mk ((buO g w L).map some) (by simp [buO]) (by simpa [buO] using h1) (by simpa [buO] using h2) ⟨L, by subst hv; rw [trim_v], rfl, hL⟩
theorem nsum_cp_le {f : Nat → Nat} : ∀ {n : Nat}, nsum (fun q => cp (f q)) n ≤ n * 1099511627777
  | 0 => Nat.zero_le _
  | n + 1 => by
    have := @nsum_cp_le f n
    have h2 := @cp_le (f n)
    rw [nsum_succ, Nat.succ_mul]; omega
theorem nsum_cp {f : Nat → Nat} : ∀ {n : Nat}, cp (nsum f n) = cp (nsum (fun q => cp (f q)) n)
  | 0 => rfl
  | n + 1 => by
    have := @nsum_cp f n
    rw [nsum_succ, nsum_succ]
    unfold cp at this ⊢; omega
def btP (g : Grammar) (w : List Int) (x : Int) (i j : Nat) : Prop := ∀ L, BI g w L → Dm.SpecH Try.prog 35 [.ptr 0 6 0 0, iv .i64 x, iv .i64 i, iv .i64 j] (buO g w L) (buR g w (trees g w x i j))
def brP (g : Grammar) (w : List Int) (l : List Int) (i j : Nat) : Prop := ∀ L, BI g w L → Dm.SpecH Try.prog 60 [.ptr 0 6 0 0, .sl 1 (i64s l), iv .i64 i, iv .i64 j] (buO g w L) (buR g w (rowN g w l i j))
set_option maxRecDepth 10000 in
set_option maxHeartbeats 4000000 in
theorem trS_spec (g : Grammar) (w : List Int) (hc : CC g w) (x : Int) (i j : Nat) (hx : x < g.k) (hx0 : 0 ≤ x) (hij : i ≤ j) (hj : j ≤ w.length) (L : List BE) (hL : BI g w L) : Dm.SpecH Try.prog 35 [.ptr 0 6 0 0, iv .i64 x, iv .i64 i, iv .i64 j] (buO g w L) (buR g w (trees g w x i j)) := by
  refine specH_of_vc mixed Try.func35 c35 (by rw [show Try.f35.ntmps = _ from Try.ntmps35]; simp) ?_
  unfold m35 r35
  have hk := hc.v.k
  have hw := hc.w
  rw [trees_sym hx]
  unfold buO
  repeat' first | (refine Br.dec (fun h => ?_) (fun h => ?_) <;> try (exfalso; omega)) | (refine Br.eqi (fun h => ?_) (fun h => ?_) <;> try (exfalso; omega)) | (simp (disch := (first | omega | (simp only [vlen]; first | done | omega))) only [vbe, ↓va0, ↓va1, ↓va2, ↓va3, vb0, vb1, vb2, vb3, vb4, vb5, vb6, vb7, vb8, vb9, vb10, vz0, vz1, vy0, vx0, ↓reduceIte, Nat.reduceBEq, Nat.reduceEqDiff, Nat.reduceLT, Nat.reduceLeDiff, Nat.reduceAdd, Nat.reduceMul, Nat.reduceSub, reduceCtorEq, Int.reduceToNat]) | (refine Br.mk (fun h => ?_) (fun h => ?_)) | (refine BrN.mk (fun h => ?_) ?_) | (refine AltVC.mk ?_ ?_)
  · refine bush_fin (L := L) (by simp (disch := (first | omega | (simp only [vlen]; first | done | omega))) only [vbe, ↓va0, ↓va1, ↓va2, ↓va3, vb0, vb1, vb2, vb3, vb4, vb5, vb6, vb7, vb8, vb9, vb10, vz0, vz1, vy0, vx0, ↓reduceIte, Nat.reduceBEq, Nat.reduceEqDiff, Nat.reduceLT, Nat.reduceLeDiff, Nat.reduceAdd, Nat.reduceMul, Nat.reduceSub, reduceCtorEq, Int.reduceToNat]) (by unfold buO; simp (disch := (first | omega | (simp only [vlen]; first | done | omega))) only [vbe, ↓va0, ↓va1, ↓va2, ↓va3, vb0, vb1, vb2, vb3, vb4, vb5, vb6, vb7, vb8, vb9, vb10, vz0, vz1, vy0, vx0, ↓reduceIte, Nat.reduceBEq, Nat.reduceEqDiff, Nat.reduceLT, Nat.reduceLeDiff, Nat.reduceAdd, Nat.reduceMul, Nat.reduceSub, reduceCtorEq, Int.reduceToNat]) ?_ hL
    unfold symV; rw [if_pos ⟨by omega, by assumption⟩]; rfl
  · refine bush_fin (L := L) (by simp (disch := (first | omega | (simp only [vlen]; first | done | omega))) only [vbe, ↓va0, ↓va1, ↓va2, ↓va3, vb0, vb1, vb2, vb3, vb4, vb5, vb6, vb7, vb8, vb9, vb10, vz0, vz1, vy0, vx0, ↓reduceIte, Nat.reduceBEq, Nat.reduceEqDiff, Nat.reduceLT, Nat.reduceLeDiff, Nat.reduceAdd, Nat.reduceMul, Nat.reduceSub, reduceCtorEq, Int.reduceToNat]) (by unfold buO; simp (disch := (first | omega | (simp only [vlen]; first | done | omega))) only [vbe, ↓va0, ↓va1, ↓va2, ↓va3, vb0, vb1, vb2, vb3, vb4, vb5, vb6, vb7, vb8, vb9, vb10, vz0, vz1, vy0, vx0, ↓reduceIte, Nat.reduceBEq, Nat.reduceEqDiff, Nat.reduceLT, Nat.reduceLeDiff, Nat.reduceAdd, Nat.reduceMul, Nat.reduceSub, reduceCtorEq, Int.reduceToNat]) ?_ hL
    unfold symV; rw [if_neg fun h => by have := h.2; contradiction]; rfl
  · refine bush_fin (L := L) (by simp (disch := (first | omega | (simp only [vlen]; first | done | omega))) only [vbe, ↓va0, ↓va1, ↓va2, ↓va3, vb0, vb1, vb2, vb3, vb4, vb5, vb6, vb7, vb8, vb9, vb10, vz0, vz1, vy0, vx0, ↓reduceIte, Nat.reduceBEq, Nat.reduceEqDiff, Nat.reduceLT, Nat.reduceLeDiff, Nat.reduceAdd, Nat.reduceMul, Nat.reduceSub, reduceCtorEq, Int.reduceToNat]) (by unfold buO; simp (disch := (first | omega | (simp only [vlen]; first | done | omega))) only [vbe, ↓va0, ↓va1, ↓va2, ↓va3, vb0, vb1, vb2, vb3, vb4, vb5, vb6, vb7, vb8, vb9, vb10, vz0, vz1, vy0, vx0, ↓reduceIte, Nat.reduceBEq, Nat.reduceEqDiff, Nat.reduceLT, Nat.reduceLeDiff, Nat.reduceAdd, Nat.reduceMul, Nat.reduceSub, reduceCtorEq, Int.reduceToNat]) ?_ hL
    unfold symV; rw [if_neg fun h => by have := h.1; omega]; rfl
set_option maxRecDepth 10000 in
set_option maxHeartbeats 4000000 in
theorem trN_spec (g : Grammar) (w : List Int) (hc : CC g w) (x : Int) (i j : Nat) (hx : ¬ x < g.k) (hx2 : x < g.k + g.n) (hij : i ≤ j) (hj : j ≤ w.length) (ihR : ∀ q, q < g.rules.length → brP g w (g.rules.getD q default).right i j) (L : List BE) (hL : BI g w L) : Dm.SpecH Try.prog 35 [.ptr 0 6 0 0, iv .i64 x, iv .i64 i, iv .i64 j] (buO g w L) (buR g w (trees g w x i j)) := by
  refine specH_of_vc mixed Try.func35 c35 (by rw [show Try.f35.ntmps = _ from Try.ntmps35]; simp) ?_
  unfold m35 r35
  have hk := hc.v.k
  have hn := hc.v.n
  have hw := hc.w
  have hlen := hc.v.len
  have hleft : ∀ q, q < g.rules.length → 0 ≤ (g.rules.getD q default).left ∧ (g.rules.getD q default).left < g.n := fun q hq => hc.v.left _ (getD_mem' hq)
  by_cases hij0 : i = j
  · subst hij0
    rw [trees_none hc.p (Nat.le_refl _)]
    unfold buO
    repeat' first | (refine Br.dec (fun h => ?_) (fun h => ?_) <;> try (exfalso; omega)) | (refine Br.eqi (fun h => ?_) (fun h => ?_) <;> try (exfalso; omega)) | (simp (disch := (first | omega | (simp only [vlen]; first | done | omega))) only [vbe, ↓va0, ↓va1, ↓va2, ↓va3, vb0, vb1, vb2, vb3, vb4, vb5, vb6, vb7, vb8, vb9, vb10, vz0, vz1, vy0, vx0, ↓reduceIte, Nat.reduceBEq, Nat.reduceEqDiff, Nat.reduceLT, Nat.reduceLeDiff, Nat.reduceAdd, Nat.reduceMul, Nat.reduceSub, reduceCtorEq, Int.reduceToNat]) | (refine Br.mk (fun h => ?_) (fun h => ?_)) | (refine BrN.mk (fun h => ?_) ?_) | (refine AltVC.mk ?_ ?_)
    exact bush_fin (L := L) (by simp (disch := (first | omega | (simp only [vlen]; first | done | omega))) only [vbe, ↓va0, ↓va1, ↓va2, ↓va3, vb0, vb1, vb2, vb3, vb4, vb5, vb6, vb7, vb8, vb9, vb10, vz0, vz1, vy0, vx0, ↓reduceIte, Nat.reduceBEq, Nat.reduceEqDiff, Nat.reduceLT, Nat.reduceLeDiff, Nat.reduceAdd, Nat.reduceMul, Nat.reduceSub, reduceCtorEq, Int.reduceToNat]) (by unfold buO; simp (disch := (first | omega | (simp only [vlen]; first | done | omega))) only [vbe, ↓va0, ↓va1, ↓va2, ↓va3, vb0, vb1, vb2, vb3, vb4, vb5, vb6, vb7, vb8, vb9, vb10, vz0, vz1, vy0, vx0, ↓reduceIte, Nat.reduceBEq, Nat.reduceEqDiff, Nat.reduceLT, Nat.reduceLeDiff, Nat.reduceAdd, Nat.reduceMul, Nat.reduceSub, reduceCtorEq, Int.reduceToNat]) rfl hL
  unfold buO
  repeat' first | (refine Br.dec (fun h => ?_) (fun h => ?_) <;> try (exfalso; omega)) | (refine Br.eqi (fun h => ?_) (fun h => ?_) <;> try (exfalso; omega)) | (simp (disch := (first | omega | (simp only [vlen]; first | done | omega))) only [vbe, ↓va0, ↓va1, ↓va2, ↓va3, vb0, vb1, vb2, vb3, vb4, vb5, vb6, vb7, vb8, vb9, vb10, vz0, vz1, vy0, vx0, ↓reduceIte, Nat.reduceBEq, Nat.reduceEqDiff, Nat.reduceLT, Nat.reduceLeDiff, Nat.reduceAdd, Nat.reduceMul, Nat.reduceSub, reduceCtorEq, Int.reduceToNat]) | (refine Br.mk (fun h => ?_) (fun h => ?_)) | (refine BrN.mk (fun h => ?_) ?_) | (refine AltVC.mk ?_ ?_)
  refine BrK.mk (fun r hr he => ?_) (fun hnn => ?_)
  · have hR := be_in hL hr he
    repeat' first | (refine Br.dec (fun h => ?_) (fun h => ?_) <;> try (exfalso; omega)) | (refine Br.eqi (fun h => ?_) (fun h => ?_) <;> try (exfalso; omega)) | (simp (disch := (first | omega | (simp only [vlen]; first | done | omega))) only [vbe, hR, ↓va0, ↓va1, ↓va2, ↓va3, vb0, vb1, vb2, vb3, vb4, vb5, vb6, vb7, vb8, vb9, vb10, vz0, vz1, vy0, vx0, ↓reduceIte, Nat.reduceBEq, Nat.reduceEqDiff, Nat.reduceLT, Nat.reduceLeDiff, Nat.reduceAdd, Nat.reduceMul, Nat.reduceSub, reduceCtorEq, Int.reduceToNat]) | (refine Br.mk (fun h => ?_) (fun h => ?_)) | (refine BrN.mk (fun h => ?_) ?_) | (refine AltVC.mk ?_ ?_)
    exact bush_fin (L := L) (by simp (disch := (first | omega | (simp only [vlen]; first | done | omega))) only [vbe, ↓va0, ↓va1, ↓va2, ↓va3, vb0, vb1, vb2, vb3, vb4, vb5, vb6, vb7, vb8, vb9, vb10, vz0, vz1, vy0, vx0, ↓reduceIte, Nat.reduceBEq, Nat.reduceEqDiff, Nat.reduceLT, Nat.reduceLeDiff, Nat.reduceAdd, Nat.reduceMul, Nat.reduceSub, reduceCtorEq, Int.reduceToNat]) (by unfold buO; simp (disch := (first | omega | (simp only [vlen]; first | done | omega))) only [vbe, ↓va0, ↓va1, ↓va2, ↓va3, vb0, vb1, vb2, vb3, vb4, vb5, vb6, vb7, vb8, vb9, vb10, vz0, vz1, vy0, vx0, ↓reduceIte, Nat.reduceBEq, Nat.reduceEqDiff, Nat.reduceLT, Nat.reduceLeDiff, Nat.reduceAdd, Nat.reduceMul, Nat.reduceSub, reduceCtorEq, Int.reduceToNat]) rfl hL
  · repeat' first | (refine Br.dec (fun h => ?_) (fun h => ?_) <;> try (exfalso; omega)) | (refine Br.eqi (fun h => ?_) (fun h => ?_) <;> try (exfalso; omega)) | (simp (disch := (first | omega | (simp only [vlen]; first | done | omega))) only [vbe, ↓va0, ↓va1, ↓va2, ↓va3, vb0, vb1, vb2, vb3, vb4, vb5, vb6, vb7, vb8, vb9, vb10, vz0, vz1, vy0, vx0, ↓reduceIte, Nat.reduceBEq, Nat.reduceEqDiff, Nat.reduceLT, Nat.reduceLeDiff, Nat.reduceAdd, Nat.reduceMul, Nat.reduceSub, reduceCtorEq, Int.reduceToNat]) | (refine Br.mk (fun h => ?_) (fun h => ?_)) | (refine BrN.mk (fun h => ?_) ?_) | (refine AltVC.mk ?_ ?_)
    refine LoopVC.mk (X := Nat × List BE) (fun y => [(9, iv .i64 (nsum (fun q => cp (ruleV g w x i j q)) y.1)), (58, iv .i64 y.1)]) (fun y => buL g w y.2) (fun y => g.rules.length - y.1) (fun y => y.1 ≤ g.rules.length ∧ BI g w y.2) (0, L) ⟨Nat.zero_le _, hL⟩ ?_ ?_
    · unfold buL
      (simp (disch := (first | omega | (simp only [vlen]; first | done | omega))) only [Fits_u, Fits_m, Fits_nil, List.length_append, vbe, ↓va0, ↓va1, ↓va2, ↓va3, vb0, vb1, vb2, vb3, vb4, vb5, vb6, vb7, vb8, vb9, vb10, vz0, vz1, vy0, vx0, ↓reduceIte, Nat.reduceBEq, Nat.reduceEqDiff, Nat.reduceLT, Nat.reduceLeDiff, Nat.reduceAdd, Nat.reduceMul, Nat.reduceSub, reduceCtorEq, Int.reduceToNat] <;> (repeat' first | rfl | apply And.intro))
      all_goals first | rfl | trace_state
    · rintro ⟨q, Lx⟩ ⟨hq1, hLx⟩
      simp only at hq1 hLx ⊢
      unfold buL
      have hsum := nsum_cp_le (f := ruleV g w x i j) (n := q)
      have hsq := Nat.mul_le_mul_right 1099511627777 (show q ≤ 10 by omega)
      by_cases hq : q < g.rules.length
      · have hlq := hleft q hq
        have hmr := hc.v.long _ (getD_mem' (l := g.rules) (i := q) hq)
        have hcq := @cp_le (rowN g w (g.rules.getD q default).right i j)
        by_cases hlx : (g.rules.getD q default).left = x - g.k
        · repeat' first | (refine Br.dec (fun h => ?_) (fun h => ?_) <;> try (exfalso; omega)) | (refine Br.eqi (fun h => ?_) (fun h => ?_) <;> try (exfalso; omega)) | (simp (disch := (first | omega | (simp only [vlen]; first | done | omega))) only [vbe, ↓va0, ↓va1, ↓va2, ↓va3, vb0, vb1, vb2, vb3, vb4, vb5, vb6, vb7, vb8, vb9, vb10, vz0, vz1, vy0, vx0, ↓reduceIte, Nat.reduceBEq, Nat.reduceEqDiff, Nat.reduceLT, Nat.reduceLeDiff, Nat.reduceAdd, Nat.reduceMul, Nat.reduceSub, reduceCtorEq, Int.reduceToNat]) | (refine Br.mk (fun h => ?_) (fun h => ?_)) | (refine BrN.mk (fun h => ?_) ?_) | (refine AltVC.mk ?_ ?_)
          refine CallVC.lendE [0, 1] [.ptr 0 6 0 0, .sl 1 (i64s (g.rules.getD q default).right), iv .i64 i, iv .i64 j] (buO g w Lx) (ihR q hq Lx hLx) (by simp) (by rfl) (by unfold buO; (simp (disch := (first | omega | (simp only [vlen]; first | done | omega))) only [vle0, ↓va0, ↓va1, ↓va2, ↓va3, vb0, vb1, vb2, vb3, vb4, vb5, vb6, vb7, vb8, vb9, vb10, vz0, vz1, vy0, vx0, ↓reduceIte, Nat.reduceBEq, Nat.reduceEqDiff, Nat.reduceLT, Nat.reduceLeDiff, Nat.reduceAdd, Nat.reduceMul, Nat.reduceSub, reduceCtorEq, Int.reduceToNat] <;> (repeat' first | rfl | apply And.intro))) ?_
          rintro _ _ ⟨L2, rfl, rfl, hL2⟩
          unfold buO
          repeat' first | (refine Br.dec (fun h => ?_) (fun h => ?_) <;> try (exfalso; omega)) | (refine Br.eqi (fun h => ?_) (fun h => ?_) <;> try (exfalso; omega)) | (simp (disch := (first | omega | (simp only [vlen]; first | done | omega))) only [vbe, ↓va0, ↓va1, ↓va2, ↓va3, vb0, vb1, vb2, vb3, vb4, vb5, vb6, vb7, vb8, vb9, vb10, vz0, vz1, vy0, vx0, ↓reduceIte, Nat.reduceBEq, Nat.reduceEqDiff, Nat.reduceLT, Nat.reduceLeDiff, Nat.reduceAdd, Nat.reduceMul, Nat.reduceSub, reduceCtorEq, Int.reduceToNat]) | (refine Br.mk (fun h => ?_) (fun h => ?_)) | (refine BrN.mk (fun h => ?_) ?_) | (refine AltVC.mk ?_ ?_)
          refine loopK.mk (q + 1, L2) (by simp (disch := (first | omega | (simp only [vlen]; first | done | omega))) only [↓va0, ↓va1, ↓va2, ↓va3, vb0, vb1, vb2, vb3, vb4, vb5, vb6, vb7, vb8, vb9, vb10, vz0, vz1, vy0, vx0, ↓reduceIte, Nat.reduceBEq, Nat.reduceEqDiff, Nat.reduceLT, Nat.reduceLeDiff, Nat.reduceAdd, Nat.reduceMul, Nat.reduceSub, reduceCtorEq, Int.reduceToNat]) ⟨by show q + 1 ≤ g.rules.length; omega, hL2⟩ (by show g.rules.length - (q + 1) < g.rules.length - q; omega) ?_
          simp only [nsum_succ]
          rw [show ruleV g w x i j q = rowN g w (g.rules.getD q default).right i j by unfold ruleV; rw [if_pos hlx]]
          (simp (disch := (first | omega | (simp only [vlen]; first | done | omega))) only [Fits_u, Fits_m, Fits_nil, List.length_append, vbe, ↓va0, ↓va1, ↓va2, ↓va3, vb0, vb1, vb2, vb3, vb4, vb5, vb6, vb7, vb8, vb9, vb10, vz0, vz1, vy0, vx0, ↓reduceIte, Nat.reduceBEq, Nat.reduceEqDiff, Nat.reduceLT, Nat.reduceLeDiff, Nat.reduceAdd, Nat.reduceMul, Nat.reduceSub, reduceCtorEq, Int.reduceToNat] <;> (repeat' first | rfl | apply And.intro))
          all_goals first | rfl | trace_state
        · repeat' first | (refine Br.dec (fun h => ?_) (fun h => ?_) <;> try (exfalso; omega)) | (refine Br.eqi (fun h => ?_) (fun h => ?_) <;> try (exfalso; omega)) | (simp (disch := (first | omega | (simp only [vlen]; first | done | omega))) only [vbe, ↓va0, ↓va1, ↓va2, ↓va3, vb0, vb1, vb2, vb3, vb4, vb5, vb6, vb7, vb8, vb9, vb10, vz0, vz1, vy0, vx0, ↓reduceIte, Nat.reduceBEq, Nat.reduceEqDiff, Nat.reduceLT, Nat.reduceLeDiff, Nat.reduceAdd, Nat.reduceMul, Nat.reduceSub, reduceCtorEq, Int.reduceToNat]) | (refine Br.mk (fun h => ?_) (fun h => ?_)) | (refine BrN.mk (fun h => ?_) ?_) | (refine AltVC.mk ?_ ?_)
          refine loopK.mk (q + 1, Lx) (by simp (disch := (first | omega | (simp only [vlen]; first | done | omega))) only [↓va0, ↓va1, ↓va2, ↓va3, vb0, vb1, vb2, vb3, vb4, vb5, vb6, vb7, vb8, vb9, vb10, vz0, vz1, vy0, vx0, ↓reduceIte, Nat.reduceBEq, Nat.reduceEqDiff, Nat.reduceLT, Nat.reduceLeDiff, Nat.reduceAdd, Nat.reduceMul, Nat.reduceSub, reduceCtorEq, Int.reduceToNat]) ⟨by show q + 1 ≤ g.rules.length; omega, hLx⟩ (by show g.rules.length - (q + 1) < g.rules.length - q; omega) ?_
          simp only [nsum_succ]
          rw [show ruleV g w x i j q = 0 by unfold ruleV; rw [if_neg hlx], show cp 0 = 0 from rfl, Nat.add_zero]
          (simp (disch := (first | omega | (simp only [vlen]; first | done | omega))) only [Fits_u, Fits_m, Fits_nil, List.length_append, vbe, ↓va0, ↓va1, ↓va2, ↓va3, vb0, vb1, vb2, vb3, vb4, vb5, vb6, vb7, vb8, vb9, vb10, vz0, vz1, vy0, vx0, ↓reduceIte, Nat.reduceBEq, Nat.reduceEqDiff, Nat.reduceLT, Nat.reduceLeDiff, Nat.reduceAdd, Nat.reduceMul, Nat.reduceSub, reduceCtorEq, Int.reduceToNat] <;> (repeat' first | rfl | apply And.intro))
          all_goals first | rfl | trace_state
      · have e2 : q = g.rules.length := by omega
        subst e2
        have htr := trees_name hc.p (w := w) (i := i) (j := j) hx
        have hcp : cp (trees g w x i j) = cp (nsum (fun q => cp (ruleV g w x i j q)) g.rules.length) := by rw [htr, nsum_cp]
        obtain ⟨S, hS⟩ : ∃ S, nsum (fun q => cp (ruleV g w x i j q)) g.rules.length = S := ⟨_, rfl⟩
        rw [hS] at hcp hsum ⊢
        repeat' first | (refine Br.dec (fun h => ?_) (fun h => ?_) <;> try (exfalso; omega)) | (refine Br.eqi (fun h => ?_) (fun h => ?_) <;> try (exfalso; omega)) | (simp (disch := (first | omega | (simp only [vlen]; first | done | omega))) only [vbe, ↓va0, ↓va1, ↓va2, ↓va3, vb0, vb1, vb2, vb3, vb4, vb5, vb6, vb7, vb8, vb9, vb10, vz0, vz1, vy0, vx0, ↓reduceIte, Nat.reduceBEq, Nat.reduceEqDiff, Nat.reduceLT, Nat.reduceLeDiff, Nat.reduceAdd, Nat.reduceMul, Nat.reduceSub, reduceCtorEq, Int.reduceToNat]) | (refine Br.mk (fun h => ?_) (fun h => ?_)) | (refine BrN.mk (fun h => ?_) ?_) | (refine AltVC.mk ?_ ?_)
        · have hv : cp (trees g w x i j) = 1099511627777 := by rw [hcp]; unfold cp; omega
          obtain ⟨C, hC, hC2⟩ : ∃ C : Nat, (1099511627777 : Int) = C ∧ 1099511627777 = C := ⟨1099511627777, rfl, rfl⟩
          rw [hC2] at hv
          refine BrK.mk (fun r hr he => ?_) (fun hnn => ?_)
          · repeat' first | (refine Br.dec (fun h => ?_) (fun h => ?_) <;> try (exfalso; omega)) | (refine Br.eqi (fun h => ?_) (fun h => ?_) <;> try (exfalso; omega)) | (simp (disch := (first | omega | (simp only [vlen]; first | done | omega))) only [hC, vbe, ↓va0, ↓va1, ↓va2, ↓va3, vb0, vb1, vb2, vb3, vb4, vb5, vb6, vb7, vb8, vb9, vb10, vz0, vz1, vy0, vx0, ↓reduceIte, Nat.reduceBEq, Nat.reduceEqDiff, Nat.reduceLT, Nat.reduceLeDiff, Nat.reduceAdd, Nat.reduceMul, Nat.reduceSub, reduceCtorEq, Int.reduceToNat]) | (refine Br.mk (fun h => ?_) (fun h => ?_)) | (refine BrN.mk (fun h => ?_) ?_) | (refine AltVC.mk ?_ ?_)
            exact bush_fin (L := Lx.set r ⟨x, i, j, C⟩) (by simp (disch := (first | omega | (simp only [vlen]; first | done | omega))) only [vbe, ↓va0, ↓va1, ↓va2, ↓va3, vb0, vb1, vb2, vb3, vb4, vb5, vb6, vb7, vb8, vb9, vb10, vz0, vz1, vy0, vx0, ↓reduceIte, Nat.reduceBEq, Nat.reduceEqDiff, Nat.reduceLT, Nat.reduceLeDiff, Nat.reduceAdd, Nat.reduceMul, Nat.reduceSub, reduceCtorEq, Int.reduceToNat]) (by unfold buO; simp (disch := (first | omega | (simp only [vlen]; first | done | omega))) only [vbe, ↓va0, ↓va1, ↓va2, ↓va3, vb0, vb1, vb2, vb3, vb4, vb5, vb6, vb7, vb8, vb9, vb10, vz0, vz1, vy0, vx0, ↓reduceIte, Nat.reduceBEq, Nat.reduceEqDiff, Nat.reduceLT, Nat.reduceLeDiff, Nat.reduceAdd, Nat.reduceMul, Nat.reduceSub, reduceCtorEq, Int.reduceToNat]) (by rw [hv]) (hLx.set hv.symm)
          · repeat' first | (refine Br.dec (fun h => ?_) (fun h => ?_) <;> try (exfalso; omega)) | (refine Br.eqi (fun h => ?_) (fun h => ?_) <;> try (exfalso; omega)) | (simp (disch := (first | omega | (simp only [vlen]; first | done | omega))) only [hC, vbe, ↓va0, ↓va1, ↓va2, ↓va3, vb0, vb1, vb2, vb3, vb4, vb5, vb6, vb7, vb8, vb9, vb10, vz0, vz1, vy0, vx0, ↓reduceIte, Nat.reduceBEq, Nat.reduceEqDiff, Nat.reduceLT, Nat.reduceLeDiff, Nat.reduceAdd, Nat.reduceMul, Nat.reduceSub, reduceCtorEq, Int.reduceToNat]) | (refine Br.mk (fun h => ?_) (fun h => ?_)) | (refine BrN.mk (fun h => ?_) ?_) | (refine AltVC.mk ?_ ?_)
            exact bush_fin (L := Lx ++ [⟨x, i, j, C⟩]) (by simp (disch := (first | omega | (simp only [vlen]; first | done | omega))) only [vbe, ↓va0, ↓va1, ↓va2, ↓va3, vb0, vb1, vb2, vb3, vb4, vb5, vb6, vb7, vb8, vb9, vb10, vz0, vz1, vy0, vx0, ↓reduceIte, Nat.reduceBEq, Nat.reduceEqDiff, Nat.reduceLT, Nat.reduceLeDiff, Nat.reduceAdd, Nat.reduceMul, Nat.reduceSub, reduceCtorEq, Int.reduceToNat]) (by unfold buO; simp (disch := (first | omega | (simp only [vlen]; first | done | omega))) only [vbe, ↓va0, ↓va1, ↓va2, ↓va3, vb0, vb1, vb2, vb3, vb4, vb5, vb6, vb7, vb8, vb9, vb10, vz0, vz1, vy0, vx0, ↓reduceIte, Nat.reduceBEq, Nat.reduceEqDiff, Nat.reduceLT, Nat.reduceLeDiff, Nat.reduceAdd, Nat.reduceMul, Nat.reduceSub, reduceCtorEq, Int.reduceToNat]) (by rw [hv]) (hLx.add hv.symm)
        · have hv : cp (trees g w x i j) = S := by rw [hcp]; unfold cp; omega
          refine BrK.mk (fun r hr he => ?_) (fun hnn => ?_)
          · repeat' first | (refine Br.dec (fun h => ?_) (fun h => ?_) <;> try (exfalso; omega)) | (refine Br.eqi (fun h => ?_) (fun h => ?_) <;> try (exfalso; omega)) | (simp (disch := (first | omega | (simp only [vlen]; first | done | omega))) only [vbe, ↓va0, ↓va1, ↓va2, ↓va3, vb0, vb1, vb2, vb3, vb4, vb5, vb6, vb7, vb8, vb9, vb10, vz0, vz1, vy0, vx0, ↓reduceIte, Nat.reduceBEq, Nat.reduceEqDiff, Nat.reduceLT, Nat.reduceLeDiff, Nat.reduceAdd, Nat.reduceMul, Nat.reduceSub, reduceCtorEq, Int.reduceToNat]) | (refine Br.mk (fun h => ?_) (fun h => ?_)) | (refine BrN.mk (fun h => ?_) ?_) | (refine AltVC.mk ?_ ?_)
            exact bush_fin (L := Lx.set r ⟨x, i, j, S⟩) (by simp (disch := (first | omega | (simp only [vlen]; first | done | omega))) only [vbe, ↓va0, ↓va1, ↓va2, ↓va3, vb0, vb1, vb2, vb3, vb4, vb5, vb6, vb7, vb8, vb9, vb10, vz0, vz1, vy0, vx0, ↓reduceIte, Nat.reduceBEq, Nat.reduceEqDiff, Nat.reduceLT, Nat.reduceLeDiff, Nat.reduceAdd, Nat.reduceMul, Nat.reduceSub, reduceCtorEq, Int.reduceToNat]) (by unfold buO; simp (disch := (first | omega | (simp only [vlen]; first | done | omega))) only [vbe, ↓va0, ↓va1, ↓va2, ↓va3, vb0, vb1, vb2, vb3, vb4, vb5, vb6, vb7, vb8, vb9, vb10, vz0, vz1, vy0, vx0, ↓reduceIte, Nat.reduceBEq, Nat.reduceEqDiff, Nat.reduceLT, Nat.reduceLeDiff, Nat.reduceAdd, Nat.reduceMul, Nat.reduceSub, reduceCtorEq, Int.reduceToNat]) (by rw [hv]) (hLx.set hv.symm)
          · repeat' first | (refine Br.dec (fun h => ?_) (fun h => ?_) <;> try (exfalso; omega)) | (refine Br.eqi (fun h => ?_) (fun h => ?_) <;> try (exfalso; omega)) | (simp (disch := (first | omega | (simp only [vlen]; first | done | omega))) only [vbe, ↓va0, ↓va1, ↓va2, ↓va3, vb0, vb1, vb2, vb3, vb4, vb5, vb6, vb7, vb8, vb9, vb10, vz0, vz1, vy0, vx0, ↓reduceIte, Nat.reduceBEq, Nat.reduceEqDiff, Nat.reduceLT, Nat.reduceLeDiff, Nat.reduceAdd, Nat.reduceMul, Nat.reduceSub, reduceCtorEq, Int.reduceToNat]) | (refine Br.mk (fun h => ?_) (fun h => ?_)) | (refine BrN.mk (fun h => ?_) ?_) | (refine AltVC.mk ?_ ?_)
            exact bush_fin (L := Lx ++ [⟨x, i, j, S⟩]) (by simp (disch := (first | omega | (simp only [vlen]; first | done | omega))) only [vbe, ↓va0, ↓va1, ↓va2, ↓va3, vb0, vb1, vb2, vb3, vb4, vb5, vb6, vb7, vb8, vb9, vb10, vz0, vz1, vy0, vx0, ↓reduceIte, Nat.reduceBEq, Nat.reduceEqDiff, Nat.reduceLT, Nat.reduceLeDiff, Nat.reduceAdd, Nat.reduceMul, Nat.reduceSub, reduceCtorEq, Int.reduceToNat]) (by unfold buO; simp (disch := (first | omega | (simp only [vlen]; first | done | omega))) only [vbe, ↓va0, ↓va1, ↓va2, ↓va3, vb0, vb1, vb2, vb3, vb4, vb5, vb6, vb7, vb8, vb9, vb10, vz0, vz1, vy0, vx0, ↓reduceIte, Nat.reduceBEq, Nat.reduceEqDiff, Nat.reduceLT, Nat.reduceLeDiff, Nat.reduceAdd, Nat.reduceMul, Nat.reduceSub, reduceCtorEq, Int.reduceToNat]) (by rw [hv]) (hLx.add hv.symm)
def lsF (g : Grammar) (w : List Int) (l : List Int) (i j m : Nat) : Nat := trees g w (l.getD 0 0) i m * rowN g w (l.drop 1) m j
theorem lsF_eq {g : Grammar} {w : List Int} {l : List Int} {i j : Nat} (h : 1 < l.length) : rowN g w l i j = tsum (lsF g w l i j) (i + 1) j := by
  have := @rowN_drop g w l 0 i j (by omega)
  rw [List.drop_zero] at this; exact this
theorem bush_sum {a b : Nat} (h : ¬ (1099511627776 : Int) < (cp a : Nat) + (cp b : Nat)) : ((cp a : Nat) : Int) + (cp b : Nat) = (cp (a + b) : Nat) := by unfold cp at *; omega
theorem bush_cap {a b : Nat} (h : (1099511627776 : Int) < (cp a : Nat) + (cp b : Nat)) : (1099511627777 : Int) = (cp (a + b) : Nat) := by unfold cp at *; omega
theorem bush_no {a : Nat} (h : (1099511627776 : Int) < (cp a : Nat)) : (1099511627777 : Int) = (cp a : Nat) := by unfold cp at *; omega
set_option maxRecDepth 10000 in
set_option maxHeartbeats 4000000 in
theorem rwB_spec (g : Grammar) (w : List Int) (hc : CC g w) (l : List Int) (hll : l.length ≤ 4) (hx : ∀ k, k < l.length → 0 ≤ l.getD k 0 ∧ l.getD k 0 < g.k + g.n) (i j : Nat) (hij : i ≤ j) (hj : j ≤ w.length) (ihT : ∀ m, i ≤ m → m < j → btP g w (l.getD 0 0) i m) (ihR : ∀ m, i < m → m ≤ j → brP g w (l.drop 1) m j) (hs : l.length = 1 → btP g w (l.getD 0 0) i j) (L : List BE) (hL : BI g w L) : Dm.SpecH Try.prog 60 [.ptr 0 6 0 0, .sl 1 (i64s l), iv .i64 i, iv .i64 j] (buO g w L) (buR g w (rowN g w l i j)) := by
  refine specH_of_vc mixed Try.func60 c60 (by rw [show Try.f60.ntmps = _ from Try.ntmps60]; simp) ?_
  unfold m60 r60
  have hk := hc.v.k
  have hw := hc.w
  by_cases hsh : j - i < l.length
  · unfold buO
    repeat' first | (refine Br.dec (fun h => ?_) (fun h => ?_) <;> try (exfalso; omega)) | (refine Br.eqi (fun h => ?_) (fun h => ?_) <;> try (exfalso; omega)) | (simp (disch := (first | omega | (simp only [vlen]; first | done | omega))) only [vbe, ↓va0, ↓va1, ↓va2, ↓va3, vb0, vb1, vb2, vb3, vb4, vb5, vb6, vb7, vb8, vb9, vb10, vz0, vz1, vy0, vx0, ↓reduceIte, Nat.reduceBEq, Nat.reduceEqDiff, Nat.reduceLT, Nat.reduceLeDiff, Nat.reduceAdd, Nat.reduceMul, Nat.reduceSub, reduceCtorEq, Int.reduceToNat]) | (refine Br.mk (fun h => ?_) (fun h => ?_)) | (refine BrN.mk (fun h => ?_) ?_) | (refine AltVC.mk ?_ ?_)
    refine bush_fin (L := L) (by simp (disch := (first | omega | (simp only [vlen]; first | done | omega))) only [vbe, ↓va0, ↓va1, ↓va2, ↓va3, vb0, vb1, vb2, vb3, vb4, vb5, vb6, vb7, vb8, vb9, vb10, vz0, vz1, vy0, vx0, ↓reduceIte, Nat.reduceBEq, Nat.reduceEqDiff, Nat.reduceLT, Nat.reduceLeDiff, Nat.reduceAdd, Nat.reduceMul, Nat.reduceSub, reduceCtorEq, Int.reduceToNat]) (by unfold buO; simp (disch := (first | omega | (simp only [vlen]; first | done | omega))) only [vbe, ↓va0, ↓va1, ↓va2, ↓va3, vb0, vb1, vb2, vb3, vb4, vb5, vb6, vb7, vb8, vb9, vb10, vz0, vz1, vy0, vx0, ↓reduceIte, Nat.reduceBEq, Nat.reduceEqDiff, Nat.reduceLT, Nat.reduceLeDiff, Nat.reduceAdd, Nat.reduceMul, Nat.reduceSub, reduceCtorEq, Int.reduceToNat]) ?_ hL
    rw [rowN_short hc.p hsh]; rfl
  by_cases h0 : l.length = 0
  · have h0' := List.eq_nil_of_length_eq_zero h0
    subst h0'
    unfold buO
    repeat' first | (refine Br.dec (fun h => ?_) (fun h => ?_) <;> try (exfalso; omega)) | (refine Br.eqi (fun h => ?_) (fun h => ?_) <;> try (exfalso; omega)) | (simp (disch := (first | omega | (simp only [vlen]; first | done | omega))) only [vbe, ↓va0, ↓va1, ↓va2, ↓va3, vb0, vb1, vb2, vb3, vb4, vb5, vb6, vb7, vb8, vb9, vb10, vz0, vz1, vy0, vx0, ↓reduceIte, Nat.reduceBEq, Nat.reduceEqDiff, Nat.reduceLT, Nat.reduceLeDiff, Nat.reduceAdd, Nat.reduceMul, Nat.reduceSub, reduceCtorEq, Int.reduceToNat]) | (refine Br.mk (fun h => ?_) (fun h => ?_)) | (refine BrN.mk (fun h => ?_) ?_) | (refine AltVC.mk ?_ ?_)
    · refine bush_fin (L := L) (by simp (disch := (first | omega | (simp only [vlen]; first | done | omega))) only [vbe, ↓va0, ↓va1, ↓va2, ↓va3, vb0, vb1, vb2, vb3, vb4, vb5, vb6, vb7, vb8, vb9, vb10, vz0, vz1, vy0, vx0, ↓reduceIte, Nat.reduceBEq, Nat.reduceEqDiff, Nat.reduceLT, Nat.reduceLeDiff, Nat.reduceAdd, Nat.reduceMul, Nat.reduceSub, reduceCtorEq, Int.reduceToNat]) (by unfold buO; simp (disch := (first | omega | (simp only [vlen]; first | done | omega))) only [vbe, ↓va0, ↓va1, ↓va2, ↓va3, vb0, vb1, vb2, vb3, vb4, vb5, vb6, vb7, vb8, vb9, vb10, vz0, vz1, vy0, vx0, ↓reduceIte, Nat.reduceBEq, Nat.reduceEqDiff, Nat.reduceLT, Nat.reduceLeDiff, Nat.reduceAdd, Nat.reduceMul, Nat.reduceSub, reduceCtorEq, Int.reduceToNat]) ?_ hL
      rw [rowN_nil, if_pos (by omega)]; rfl
    · refine bush_fin (L := L) (by simp (disch := (first | omega | (simp only [vlen]; first | done | omega))) only [vbe, ↓va0, ↓va1, ↓va2, ↓va3, vb0, vb1, vb2, vb3, vb4, vb5, vb6, vb7, vb8, vb9, vb10, vz0, vz1, vy0, vx0, ↓reduceIte, Nat.reduceBEq, Nat.reduceEqDiff, Nat.reduceLT, Nat.reduceLeDiff, Nat.reduceAdd, Nat.reduceMul, Nat.reduceSub, reduceCtorEq, Int.reduceToNat]) (by unfold buO; simp (disch := (first | omega | (simp only [vlen]; first | done | omega))) only [vbe, ↓va0, ↓va1, ↓va2, ↓va3, vb0, vb1, vb2, vb3, vb4, vb5, vb6, vb7, vb8, vb9, vb10, vz0, vz1, vy0, vx0, ↓reduceIte, Nat.reduceBEq, Nat.reduceEqDiff, Nat.reduceLT, Nat.reduceLeDiff, Nat.reduceAdd, Nat.reduceMul, Nat.reduceSub, reduceCtorEq, Int.reduceToNat]) ?_ hL
      rw [rowN_nil, if_neg (by omega)]; rfl
  by_cases hone : l.length = 1
  · have hS := hs hone L hL
    have e := @rowN_last g w l 0 i j (by omega)
    rw [List.drop_zero] at e
    rw [e]
    unfold buO
    repeat' first | (refine Br.dec (fun h => ?_) (fun h => ?_) <;> try (exfalso; omega)) | (refine Br.eqi (fun h => ?_) (fun h => ?_) <;> try (exfalso; omega)) | (simp (disch := (first | omega | (simp only [vlen]; first | done | omega))) only [vbe, ↓va0, ↓va1, ↓va2, ↓va3, vb0, vb1, vb2, vb3, vb4, vb5, vb6, vb7, vb8, vb9, vb10, vz0, vz1, vy0, vx0, ↓reduceIte, Nat.reduceBEq, Nat.reduceEqDiff, Nat.reduceLT, Nat.reduceLeDiff, Nat.reduceAdd, Nat.reduceMul, Nat.reduceSub, reduceCtorEq, Int.reduceToNat]) | (refine Br.mk (fun h => ?_) (fun h => ?_)) | (refine BrN.mk (fun h => ?_) ?_) | (refine AltVC.mk ?_ ?_)
    refine CallVC.lendE [0, 1] [.ptr 0 6 0 0, iv .i64 (l.getD 0 0), iv .i64 i, iv .i64 j] (buO g w L) hS (by simp) (by rfl) (by unfold buO; (simp (disch := (first | omega | (simp only [vlen]; first | done | omega))) only [vle0, ↓va0, ↓va1, ↓va2, ↓va3, vb0, vb1, vb2, vb3, vb4, vb5, vb6, vb7, vb8, vb9, vb10, vz0, vz1, vy0, vx0, ↓reduceIte, Nat.reduceBEq, Nat.reduceEqDiff, Nat.reduceLT, Nat.reduceLeDiff, Nat.reduceAdd, Nat.reduceMul, Nat.reduceSub, reduceCtorEq, Int.reduceToNat] <;> (repeat' first | rfl | apply And.intro))) ?_
    rintro _ _ ⟨L2, rfl, rfl, hL2⟩
    unfold buO
    repeat' first | (refine Br.dec (fun h => ?_) (fun h => ?_) <;> try (exfalso; omega)) | (refine Br.eqi (fun h => ?_) (fun h => ?_) <;> try (exfalso; omega)) | (simp (disch := (first | omega | (simp only [vlen]; first | done | omega))) only [vbe, ↓va0, ↓va1, ↓va2, ↓va3, vb0, vb1, vb2, vb3, vb4, vb5, vb6, vb7, vb8, vb9, vb10, vz0, vz1, vy0, vx0, ↓reduceIte, Nat.reduceBEq, Nat.reduceEqDiff, Nat.reduceLT, Nat.reduceLeDiff, Nat.reduceAdd, Nat.reduceMul, Nat.reduceSub, reduceCtorEq, Int.reduceToNat]) | (refine Br.mk (fun h => ?_) (fun h => ?_)) | (refine BrN.mk (fun h => ?_) ?_) | (refine AltVC.mk ?_ ?_)
    exact bush_fin (L := L2) (by simp (disch := (first | omega | (simp only [vlen]; first | done | omega))) only [vbe, ↓va0, ↓va1, ↓va2, ↓va3, vb0, vb1, vb2, vb3, vb4, vb5, vb6, vb7, vb8, vb9, vb10, vz0, vz1, vy0, vx0, ↓reduceIte, Nat.reduceBEq, Nat.reduceEqDiff, Nat.reduceLT, Nat.reduceLeDiff, Nat.reduceAdd, Nat.reduceMul, Nat.reduceSub, reduceCtorEq, Int.reduceToNat]) (by unfold buO; simp (disch := (first | omega | (simp only [vlen]; first | done | omega))) only [vbe, ↓va0, ↓va1, ↓va2, ↓va3, vb0, vb1, vb2, vb3, vb4, vb5, vb6, vb7, vb8, vb9, vb10, vz0, vz1, vy0, vx0, ↓reduceIte, Nat.reduceBEq, Nat.reduceEqDiff, Nat.reduceLT, Nat.reduceLeDiff, Nat.reduceAdd, Nat.reduceMul, Nat.reduceSub, reduceCtorEq, Int.reduceToNat]) rfl hL2
  · rw [lsF_eq (by omega)]
    unfold buO
    repeat' first | (refine Br.dec (fun h => ?_) (fun h => ?_) <;> try (exfalso; omega)) | (refine Br.eqi (fun h => ?_) (fun h => ?_) <;> try (exfalso; omega)) | (simp (disch := (first | omega | (simp only [vlen]; first | done | omega))) only [vbe, ↓va0, ↓va1, ↓va2, ↓va3, vb0, vb1, vb2, vb3, vb4, vb5, vb6, vb7, vb8, vb9, vb10, vz0, vz1, vy0, vx0, ↓reduceIte, Nat.reduceBEq, Nat.reduceEqDiff, Nat.reduceLT, Nat.reduceLeDiff, Nat.reduceAdd, Nat.reduceMul, Nat.reduceSub, reduceCtorEq, Int.reduceToNat]) | (refine Br.mk (fun h => ?_) (fun h => ?_)) | (refine BrN.mk (fun h => ?_) ?_) | (refine AltVC.mk ?_ ?_)
    refine LoopVC.mk (X := Nat × List BE) (fun y => [(9, iv .i64 (cp (tsum (lsF g w l i j) (i + 1) y.1))), (10, iv .i64 y.1)]) (fun y => buL g w y.2) (fun y => j - y.1) (fun y => i + 1 ≤ y.1 ∧ y.1 ≤ j ∧ BI g w y.2) (i + 1, L) ⟨Nat.le_refl _, by omega, hL⟩ ?_ ?_
    · unfold buL
      rw [tsum_empty (Nat.le_refl _)]
      (simp (disch := (first | omega | (simp only [vlen]; first | done | omega))) only [Fits_u, Fits_m, Fits_nil, List.length_append, vbe, ↓va0, ↓va1, ↓va2, ↓va3, vb0, vb1, vb2, vb3, vb4, vb5, vb6, vb7, vb8, vb9, vb10, vz0, vz1, vy0, vx0, ↓reduceIte, Nat.reduceBEq, Nat.reduceEqDiff, Nat.reduceLT, Nat.reduceLeDiff, Nat.reduceAdd, Nat.reduceMul, Nat.reduceSub, reduceCtorEq, Int.reduceToNat] <;> (repeat' first | rfl | apply And.intro))
      all_goals first | rfl | trace_state
    · rintro ⟨m, Lx⟩ ⟨hm1, hm2, hLx⟩
      simp only at hm1 hm2 hLx ⊢
      unfold buL
      have hsl := @cp_le (tsum (lsF g w l i j) (i + 1) m)
      have hpl := @cp_le (lsF g w l i j m)
      by_cases hmj : m < j
      · have hdr : (l.drop 1).length = l.length - 1 := List.length_drop
        repeat' first | (refine Br.dec (fun h => ?_) (fun h => ?_) <;> try (exfalso; omega)) | (refine Br.eqi (fun h => ?_) (fun h => ?_) <;> try (exfalso; omega)) | (simp (disch := (first | omega | (simp only [vlen]; first | done | omega))) only [vbe, ↓va0, ↓va1, ↓va2, ↓va3, vb0, vb1, vb2, vb3, vb4, vb5, vb6, vb7, vb8, vb9, vb10, vz0, vz1, vy0, vx0, ↓reduceIte, Nat.reduceBEq, Nat.reduceEqDiff, Nat.reduceLT, Nat.reduceLeDiff, Nat.reduceAdd, Nat.reduceMul, Nat.reduceSub, reduceCtorEq, Int.reduceToNat]) | (refine Br.mk (fun h => ?_) (fun h => ?_)) | (refine BrN.mk (fun h => ?_) ?_) | (refine AltVC.mk ?_ ?_)
        refine CallVC.lendE [0, 1] [.ptr 0 6 0 0, .sl 1 (i64s (l.drop 1)), iv .i64 m, iv .i64 j] (buO g w Lx) (ihR m (by omega) (by omega) Lx hLx) (by simp) (by rfl) (by unfold buO; (simp (disch := (first | omega | (simp only [vlen]; first | done | omega))) only [vle0, ↓va0, ↓va1, ↓va2, ↓va3, vb0, vb1, vb2, vb3, vb4, vb5, vb6, vb7, vb8, vb9, vb10, vz0, vz1, vy0, vx0, ↓reduceIte, Nat.reduceBEq, Nat.reduceEqDiff, Nat.reduceLT, Nat.reduceLeDiff, Nat.reduceAdd, Nat.reduceMul, Nat.reduceSub, reduceCtorEq, Int.reduceToNat] <;> (repeat' first | rfl | apply And.intro))) ?_
        rintro _ _ ⟨L2, rfl, rfl, hL2⟩
        unfold buO
        repeat' first | (refine Br.dec (fun h => ?_) (fun h => ?_) <;> try (exfalso; omega)) | (refine Br.eqi (fun h => ?_) (fun h => ?_) <;> try (exfalso; omega)) | (simp (disch := (first | omega | (simp only [vlen]; first | done | omega))) only [vbe, ↓va0, ↓va1, ↓va2, ↓va3, vb0, vb1, vb2, vb3, vb4, vb5, vb6, vb7, vb8, vb9, vb10, vz0, vz1, vy0, vx0, ↓reduceIte, Nat.reduceBEq, Nat.reduceEqDiff, Nat.reduceLT, Nat.reduceLeDiff, Nat.reduceAdd, Nat.reduceMul, Nat.reduceSub, reduceCtorEq, Int.reduceToNat]) | (refine Br.mk (fun h => ?_) (fun h => ?_)) | (refine BrN.mk (fun h => ?_) ?_) | (refine AltVC.mk ?_ ?_)
        · refine CallVC.lendE [0, 1] [.ptr 0 6 0 0, iv .i64 (l.getD 0 0), iv .i64 i, iv .i64 m] (buO g w L2) (ihT m (by omega) hmj L2 hL2) (by simp) (by rfl) (by unfold buO; (simp (disch := (first | omega | (simp only [vlen]; first | done | omega))) only [vle0, ↓va0, ↓va1, ↓va2, ↓va3, vb0, vb1, vb2, vb3, vb4, vb5, vb6, vb7, vb8, vb9, vb10, vz0, vz1, vy0, vx0, ↓reduceIte, Nat.reduceBEq, Nat.reduceEqDiff, Nat.reduceLT, Nat.reduceLeDiff, Nat.reduceAdd, Nat.reduceMul, Nat.reduceSub, reduceCtorEq, Int.reduceToNat] <;> (repeat' first | rfl | apply And.intro))) ?_
          rintro _ _ ⟨L3, rfl, rfl, hL3⟩
          unfold buO
          repeat' first | (refine Br.dec (fun h => ?_) (fun h => ?_) <;> try (exfalso; omega)) | (refine Br.eqi (fun h => ?_) (fun h => ?_) <;> try (exfalso; omega)) | (simp (disch := (first | omega | (simp only [vlen]; first | done | omega))) only [vbe, ↓va0, ↓va1, ↓va2, ↓va3, vb0, vb1, vb2, vb3, vb4, vb5, vb6, vb7, vb8, vb9, vb10, vz0, vz1, vy0, vx0, ↓reduceIte, Nat.reduceBEq, Nat.reduceEqDiff, Nat.reduceLT, Nat.reduceLeDiff, Nat.reduceAdd, Nat.reduceMul, Nat.reduceSub, reduceCtorEq, Int.reduceToNat]) | (refine Br.mk (fun h => ?_) (fun h => ?_)) | (refine BrN.mk (fun h => ?_) ?_) | (refine AltVC.mk ?_ ?_)
          refine CallVC.eq (capped_cp _ _) ?_
          rw [show trees g w (l.getD 0 0) i m * rowN g w (l.drop 1) m j = lsF g w l i j m from rfl]
          repeat' first | (refine Br.dec (fun h => ?_) (fun h => ?_) <;> try (exfalso; omega)) | (refine Br.eqi (fun h => ?_) (fun h => ?_) <;> try (exfalso; omega)) | (simp (disch := (first | omega | (simp only [vlen]; first | done | omega))) only [vbe, ↓va0, ↓va1, ↓va2, ↓va3, vb0, vb1, vb2, vb3, vb4, vb5, vb6, vb7, vb8, vb9, vb10, vz0, vz1, vy0, vx0, ↓reduceIte, Nat.reduceBEq, Nat.reduceEqDiff, Nat.reduceLT, Nat.reduceLeDiff, Nat.reduceAdd, Nat.reduceMul, Nat.reduceSub, reduceCtorEq, Int.reduceToNat]) | (refine Br.mk (fun h => ?_) (fun h => ?_)) | (refine BrN.mk (fun h => ?_) ?_) | (refine AltVC.mk ?_ ?_)
          · refine loopK.mk (m + 1, L3) (by simp (disch := (first | omega | (simp only [vlen]; first | done | omega))) only [↓va0, ↓va1, ↓va2, ↓va3, vb0, vb1, vb2, vb3, vb4, vb5, vb6, vb7, vb8, vb9, vb10, vz0, vz1, vy0, vx0, ↓reduceIte, Nat.reduceBEq, Nat.reduceEqDiff, Nat.reduceLT, Nat.reduceLeDiff, Nat.reduceAdd, Nat.reduceMul, Nat.reduceSub, reduceCtorEq, Int.reduceToNat]) ⟨by show i + 1 ≤ m + 1; omega, by show m + 1 ≤ j; omega, hL3⟩ (by show j - (m + 1) < j - m; omega) ?_
            simp only [tsum_succ hm1, ← bush_cap h]
            (simp (disch := (first | omega | (simp only [vlen]; first | done | omega))) only [Fits_u, Fits_m, Fits_nil, List.length_append, vbe, ↓va0, ↓va1, ↓va2, ↓va3, vb0, vb1, vb2, vb3, vb4, vb5, vb6, vb7, vb8, vb9, vb10, vz0, vz1, vy0, vx0, ↓reduceIte, Nat.reduceBEq, Nat.reduceEqDiff, Nat.reduceLT, Nat.reduceLeDiff, Nat.reduceAdd, Nat.reduceMul, Nat.reduceSub, reduceCtorEq, Int.reduceToNat] <;> (repeat' first | rfl | apply And.intro))
            all_goals first | rfl | trace_state
          · refine loopK.mk (m + 1, L3) (by simp (disch := (first | omega | (simp only [vlen]; first | done | omega))) only [↓va0, ↓va1, ↓va2, ↓va3, vb0, vb1, vb2, vb3, vb4, vb5, vb6, vb7, vb8, vb9, vb10, vz0, vz1, vy0, vx0, ↓reduceIte, Nat.reduceBEq, Nat.reduceEqDiff, Nat.reduceLT, Nat.reduceLeDiff, Nat.reduceAdd, Nat.reduceMul, Nat.reduceSub, reduceCtorEq, Int.reduceToNat]) ⟨by show i + 1 ≤ m + 1; omega, by show m + 1 ≤ j; omega, hL3⟩ (by show j - (m + 1) < j - m; omega) ?_
            simp only [tsum_succ hm1, ← bush_sum h]
            (simp (disch := (first | omega | (simp only [vlen]; first | done | omega))) only [Fits_u, Fits_m, Fits_nil, List.length_append, vbe, ↓va0, ↓va1, ↓va2, ↓va3, vb0, vb1, vb2, vb3, vb4, vb5, vb6, vb7, vb8, vb9, vb10, vz0, vz1, vy0, vx0, ↓reduceIte, Nat.reduceBEq, Nat.reduceEqDiff, Nat.reduceLT, Nat.reduceLeDiff, Nat.reduceAdd, Nat.reduceMul, Nat.reduceSub, reduceCtorEq, Int.reduceToNat] <;> (repeat' first | rfl | apply And.intro))
            all_goals first | rfl | trace_state
        all_goals
          have hz : lsF g w l i j m = 0 := by unfold lsF; rw [(cp_zero (n := rowN g w (l.drop 1) m j)).mp (by omega), Nat.mul_zero]
        · refine loopK.mk (m + 1, L2) (by simp (disch := (first | omega | (simp only [vlen]; first | done | omega))) only [↓va0, ↓va1, ↓va2, ↓va3, vb0, vb1, vb2, vb3, vb4, vb5, vb6, vb7, vb8, vb9, vb10, vz0, vz1, vy0, vx0, ↓reduceIte, Nat.reduceBEq, Nat.reduceEqDiff, Nat.reduceLT, Nat.reduceLeDiff, Nat.reduceAdd, Nat.reduceMul, Nat.reduceSub, reduceCtorEq, Int.reduceToNat]) ⟨by show i + 1 ≤ m + 1; omega, by show m + 1 ≤ j; omega, hL2⟩ (by show j - (m + 1) < j - m; omega) ?_
          simp only [tsum_succ hm1, hz, Nat.add_zero]
          rw [← bush_no (by assumption)]
          (simp (disch := (first | omega | (simp only [vlen]; first | done | omega))) only [Fits_u, Fits_m, Fits_nil, List.length_append, vbe, ↓va0, ↓va1, ↓va2, ↓va3, vb0, vb1, vb2, vb3, vb4, vb5, vb6, vb7, vb8, vb9, vb10, vz0, vz1, vy0, vx0, ↓reduceIte, Nat.reduceBEq, Nat.reduceEqDiff, Nat.reduceLT, Nat.reduceLeDiff, Nat.reduceAdd, Nat.reduceMul, Nat.reduceSub, reduceCtorEq, Int.reduceToNat] <;> (repeat' first | rfl | apply And.intro))
          all_goals first | rfl | trace_state
        · refine loopK.mk (m + 1, L2) (by simp (disch := (first | omega | (simp only [vlen]; first | done | omega))) only [↓va0, ↓va1, ↓va2, ↓va3, vb0, vb1, vb2, vb3, vb4, vb5, vb6, vb7, vb8, vb9, vb10, vz0, vz1, vy0, vx0, ↓reduceIte, Nat.reduceBEq, Nat.reduceEqDiff, Nat.reduceLT, Nat.reduceLeDiff, Nat.reduceAdd, Nat.reduceMul, Nat.reduceSub, reduceCtorEq, Int.reduceToNat]) ⟨by show i + 1 ≤ m + 1; omega, by show m + 1 ≤ j; omega, hL2⟩ (by show j - (m + 1) < j - m; omega) ?_
          simp only [tsum_succ hm1, hz, Nat.add_zero]
          (simp (disch := (first | omega | (simp only [vlen]; first | done | omega))) only [Fits_u, Fits_m, Fits_nil, List.length_append, vbe, ↓va0, ↓va1, ↓va2, ↓va3, vb0, vb1, vb2, vb3, vb4, vb5, vb6, vb7, vb8, vb9, vb10, vz0, vz1, vy0, vx0, ↓reduceIte, Nat.reduceBEq, Nat.reduceEqDiff, Nat.reduceLT, Nat.reduceLeDiff, Nat.reduceAdd, Nat.reduceMul, Nat.reduceSub, reduceCtorEq, Int.reduceToNat] <;> (repeat' first | rfl | apply And.intro))
          all_goals first | rfl | trace_state
      · have e2 : m = j := by omega
        subst e2
        repeat' first | (refine Br.dec (fun h => ?_) (fun h => ?_) <;> try (exfalso; omega)) | (refine Br.eqi (fun h => ?_) (fun h => ?_) <;> try (exfalso; omega)) | (simp (disch := (first | omega | (simp only [vlen]; first | done | omega))) only [vbe, ↓va0, ↓va1, ↓va2, ↓va3, vb0, vb1, vb2, vb3, vb4, vb5, vb6, vb7, vb8, vb9, vb10, vz0, vz1, vy0, vx0, ↓reduceIte, Nat.reduceBEq, Nat.reduceEqDiff, Nat.reduceLT, Nat.reduceLeDiff, Nat.reduceAdd, Nat.reduceMul, Nat.reduceSub, reduceCtorEq, Int.reduceToNat]) | (refine Br.mk (fun h => ?_) (fun h => ?_)) | (refine BrN.mk (fun h => ?_) ?_) | (refine AltVC.mk ?_ ?_)
        exact bush_fin (L := Lx) (by simp (disch := (first | omega | (simp only [vlen]; first | done | omega))) only [vbe, ↓va0, ↓va1, ↓va2, ↓va3, vb0, vb1, vb2, vb3, vb4, vb5, vb6, vb7, vb8, vb9, vb10, vz0, vz1, vy0, vx0, ↓reduceIte, Nat.reduceBEq, Nat.reduceEqDiff, Nat.reduceLT, Nat.reduceLeDiff, Nat.reduceAdd, Nat.reduceMul, Nat.reduceSub, reduceCtorEq, Int.reduceToNat]) (by unfold buO; simp (disch := (first | omega | (simp only [vlen]; first | done | omega))) only [vbe, ↓va0, ↓va1, ↓va2, ↓va3, vb0, vb1, vb2, vb3, vb4, vb5, vb6, vb7, vb8, vb9, vb10, vz0, vz1, vy0, vx0, ↓reduceIte, Nat.reduceBEq, Nat.reduceEqDiff, Nat.reduceLT, Nat.reduceLeDiff, Nat.reduceAdd, Nat.reduceMul, Nat.reduceSub, reduceCtorEq, Int.reduceToNat]) rfl hLx
theorem bush_all (g : Grammar) (w : List Int) (hc : CC g w) : ∀ n, (∀ x i j, 0 ≤ x → x < g.k + g.n → i ≤ j → j ≤ w.length → j - i < n → btP g w x i j) ∧ (∀ l i j, l.length ≤ 4 → (∀ k, k < l.length → 0 ≤ l.getD k 0 ∧ l.getD k 0 < g.k + g.n) → i ≤ j → j ≤ w.length → j - i < n → brP g w l i j) := by
  intro n
  induction n with
  | zero => exact ⟨fun _ _ _ _ _ _ _ h => absurd h (Nat.not_lt_zero _), fun _ _ _ _ _ _ _ h => absurd h (Nat.not_lt_zero _)⟩
  | succ n ih =>
    have hdx : ∀ l : List Int, (∀ k, k < l.length → 0 ≤ l.getD k 0 ∧ l.getD k 0 < g.k + g.n) → ∀ k, k < (l.drop 1).length → 0 ≤ (l.drop 1).getD k 0 ∧ (l.drop 1).getD k 0 < g.k + g.n := fun l h k hk => by
      rw [List.length_drop] at hk
      have := h (k + 1) (by omega)
      rwa [show (l.drop 1).getD k 0 = l.getD (k + 1) 0 by simp [List.getD, Nat.add_comm]]
    have hR : ∀ l i j, l.length ≤ 4 → (∀ k, k < l.length → 0 ≤ l.getD k 0 ∧ l.getD k 0 < g.k + g.n) → i ≤ j → j ≤ w.length → j - i < n + 1 → (l.length = 1 → btP g w (l.getD 0 0) i j) → brP g w l i j := fun l i j hl hx hij hj hn hs L hL => by
      by_cases h2 : l.length < 2
      · by_cases h1 : l.length = 1
        · refine rwB_spec g w hc l hl hx i j hij hj (fun m h3 h4 => ih.1 _ _ _ (hx 0 (by omega)).1 (hx 0 (by omega)).2 h3 (by omega) (by omega)) (fun m h3 h4 => ih.2 _ m j (by rw [List.length_drop]; omega) (hdx l hx) h4 hj (by omega)) hs L hL
        · have h0 := List.eq_nil_of_length_eq_zero (show l.length = 0 by omega)
          subst h0
          refine rwB_spec g w hc [] (by simp) (by simp) i j hij hj (fun m h3 h4 L hL => ?_) (fun m h3 h4 => ih.2 _ m j (by simp) (by simp) h4 hj (by omega)) hs L hL
          have hk := hc.v.k
          exact trS_spec g w hc 0 i m (by omega) (Int.le_refl 0) h3 (by omega) L hL
      · refine rwB_spec g w hc l hl hx i j hij hj (fun m h3 h4 => ih.1 _ _ _ (hx 0 (by omega)).1 (hx 0 (by omega)).2 h3 (by omega) (by omega)) (fun m h3 h4 => ih.2 _ m j (by rw [List.length_drop]; omega) (hdx l hx) h4 hj (by omega)) hs L hL
    have hT : ∀ x i j, 0 ≤ x → x < g.k + g.n → i ≤ j → j ≤ w.length → j - i < n + 1 → btP g w x i j := fun x i j h0 h1 hij hj hn L hL => by
      by_cases hx : x < g.k
      · exact trS_spec g w hc x i j hx h0 hij hj L hL
      · refine trN_spec g w hc x i j hx h1 hij hj (fun q hq => ?_) L hL
        have hr := getD_mem' (l := g.rules) (i := q) hq
        refine hR _ i j (hc.v.long _ hr) (fun k hk => hc.v.right _ hr _ (getD_mem' (l := (g.rules.getD q default).right) (i := k) hk)) hij hj hn (fun h1 L hL => ?_)
        have hs : (g.rules.getD q default).right = [(g.rules.getD q default).right.getD 0 0] := by
          match hl : (g.rules.getD q default).right, h1 with
          | [s], _ => rfl
        have h0 := hc.v.right _ hr _ (by rw [hs]; simp : (g.rules.getD q default).right.getD 0 0 ∈ (g.rules.getD q default).right)
        exact trS_spec g w hc _ i j ((hc.p _ hr).2 _ hs) h0.1 hij hj L hL
    exact ⟨hT, fun l i j hl hx hij hj hn => hR l i j hl hx hij hj hn fun h1 => hT _ i j (hx 0 (by omega)).1 (hx 0 (by omega)).2 hij hj hn⟩
theorem bushT_spec (g : Grammar) (w : List Int) (hc : CC g w) (x : Int) (i j : Nat) (h0 : 0 ≤ x) (h1 : x < g.k + g.n) (hij : i ≤ j) (hj : j ≤ w.length) : btP g w x i j := (bush_all g w hc (j - i + 1)).1 x i j h0 h1 hij hj (Nat.lt_succ_self _)
theorem bushR_spec (g : Grammar) (w : List Int) (hc : CC g w) (l : List Int) (i j : Nat) (hl : l.length ≤ 4) (hx : ∀ k, k < l.length → 0 ≤ l.getD k 0 ∧ l.getD k 0 < g.k + g.n) (hij : i ≤ j) (hj : j ≤ w.length) : brP g w l i j := (bush_all g w hc (j - i + 1)).2 l i j hl hx hij hj (Nat.lt_succ_self _)
end Go.Proofs.Ythjpahmcgpnogaa
