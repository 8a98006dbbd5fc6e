/-
 Texts of this claim, one behind another.
-/
import Derived.Test.YtjekkbpdgnohcaaMg13
namespace Go.Proofs.Ytjekkbpdgnohcaa
open Go.Dm
set_option linter.unusedSimpArgs false
set_option linter.unnecessarySimpa false
set_option linter.unusedVariables false
set_option linter.defProp false
structure KE where
  r : Int
  f : Int
  i : Nat
  j : Nat
  v : Nat
deriving Inhabited
def keD (e : KE) : List D := [iv .i64 e.r, iv .i64 e.f, iv .i64 e.i, iv .i64 e.j, iv .i64 e.v]
theorem keD_eq {e : KE} : keD e = [iv .i64 e.r, iv .i64 e.f, iv .i64 e.i, iv .i64 e.j, iv .i64 e.v] := (rfl)
def kv (g : Grammar) (w : List Int) (r f : Int) (i j : Nat) : Nat := if r < 0 then trees g w f i j else rowN g w ((g.rules.getD r.toNat default).right.drop f.toNat) i j
theorem kv_neg {g : Grammar} {w : List Int} {f : Int} {i j : Nat} : kv g w (-1) f i j = trees g w f i j := by unfold kv; rw [if_pos (by omega)]
theorem kv_nat {g : Grammar} {w : List Int} {q f i j : Nat} : kv g w q f i j = rowN g w ((g.rules.getD q default).right.drop f) i j := by unfold kv; rw [if_neg (by omega), Int.toNat_natCast, Int.toNat_natCast]
def MI (g : Grammar) (w : List Int) (L : List KE) : Prop := ∀ e, e ∈ L → e.v = cp (kv g w e.r e.f e.i e.j)
theorem MI.nil {g : Grammar} {w : List Int} : MI g w [] := fun e h => by cases h
theorem MI.add {g : Grammar} {w : List Int} {L : List KE} (h : MI g w L) {e : KE} (he : e.v = cp (kv g w e.r e.f e.i e.j)) : MI g w (L ++ [e]) := fun x hx => by
  rcases List.mem_append.mp hx with h1 | h1
  · exact h x h1
  · rw [List.mem_singleton.mp h1]; exact he
theorem MI.set {g : Grammar} {w : List Int} {L : List KE} (h : MI g w L) {e : KE} {r : Nat} (he : e.v = cp (kv g w e.r e.f e.i e.j)) : MI g w (L.set r e) := fun x hx => by
  rcases List.mem_or_eq_of_mem_set hx with h1 | h1
  · exact h x h1
  · rw [h1]; exact he
theorem ke_in {g : Grammar} {w : List Int} {L : List KE} (h : MI g w L) {r : Nat} {q f : Int} {i j : Nat} (hr : r < (tbl keD L).length) (he : Agr (((tbl keD L).getD r []).take 4) [.v (.int .i64 q), .v (.int .i64 f), .v (.int .i64 i), .v (.int .i64 j)]) : (tbl keD L).getD r [] = [iv .i64 q, iv .i64 f, iv .i64 i, iv .i64 j, iv .i64 (cp (kv g w q f i j))] := by
  rw [tbl_len] at hr
  rw [tbl_get hr] at he ⊢
  rw [keD_eq] at he ⊢
  simp only [List.take_succ_cons, List.take_zero, Agr_v, D.v.injEq, Value.int.injEq, true_and, Int.natCast_inj] at he
  have hm := h _ (getD_mem' (l := L) (i := r) hr)
  rw [hm, he.1, he.2.1, he.2.2.1, he.2.2.2.1]
theorem ke_app {L : List KE} {q f : Int} {i j v : Nat} : tbl keD L ++ [[D.v (.int .i64 q), D.v (.int .i64 f), D.v (.int .i64 i), D.v (.int .i64 j), D.v (.int .i64 v)]] = tbl keD (L ++ [⟨q, f, i, j, v⟩]) := by rw [tbl_app]; rfl
theorem ke_set {L : List KE} {r : Nat} {q f : Int} {i j v : Nat} : (tbl keD L).set r [D.v (.int .i64 q), D.v (.int .i64 f), D.v (.int .i64 i), D.v (.int .i64 j), D.v (.int .i64 v)] = tbl keD (L.set r ⟨q, f, i, j, v⟩) := by rw [← tbl_set]; rfl
def vke := And.intro vmr <| And.intro @ke_app <| And.intro @ke_set <| And.intro @rulD_eq @Int.add_sub_cancel
def coO (g : Grammar) (w : List Int) (L : List KE) : List Ob := [⟨6, [[iv .i64 g.k, iv .i64 g.n, iv .i64 g.start, .sl 2 (tbl rulD g.rules), .sl 1 (i64s w), .mp 1]], false, false, .fix⟩, ⟨5, tbl keD L, true, false, .map [.i64, .i64, .i64, .i64] true false⟩]
def coR (g : Grammar) (w : List Int) (n : Nat) (d : D) (o : List (Option Ob)) : Prop := ∃ L, d = iv .i64 (cp n) ∧ o = (coO g w L).map some ∧ MI g w L
def sgP (g : Grammar) (w : List Int) (x : Int) (i j : Nat) : Prop := ∀ L, MI g w L → Dm.SpecH Try.prog 45 [.ptr 0 6 0 0, iv .i64 x, .ag [iv .i64 i, iv .i64 j]] (coO g w L) (coR g w (trees g w x i j))
def rwP (g : Grammar) (w : List Int) (q f i j : Nat) : Prop := ∀ L, MI g w L → Dm.SpecH Try.prog 53 [.ptr 0 6 0 0, iv .i64 q, iv .i64 f, .ag [iv .i64 i, iv .i64 j]] (coO g w L) (coR g w (rowN g w ((g.rules.getD q default).right.drop f) i j))
structure CC (g : Grammar) (w : List Int) : Prop where
  v : Valid g
  p : Proper g
  w : w.length ≤ 12
theorem ctr_fin {g : Grammar} {w : List Int} {s : S} {n : Nat} {v : Int} {L : List KE} (h1 : 2 ≤ s.N) (h2 : fitL s 2 0 ((coO g w L).map some)) (hv : v = (cp n : Nat)) (hL : MI g w L) : FinH 2 (coR g w n) s (D.v (.int .i64 v)) :=
  finH_mk ((coO g w L).map some) (by simp [coO]) (by simpa [coO] using h1) (by simpa [coO] using h2) ⟨L, by subst hv; rw [trim_v], rfl, hL⟩
set_option maxRecDepth 10000 in
set_option maxHeartbeats 4000000 in
theorem sgnS_spec (g : Grammar) (w : List Int) (hc : CC g w) (x : Int) (i j : Nat) (hx : x < g.k) (hx0 : 0 ≤ x) (hij : i ≤ j) (hj : j ≤ w.length) (L : List KE) (hL : MI g w L) : Dm.SpecH Try.prog 45 [.ptr 0 6 0 0, iv .i64 x, .ag [iv .i64 i, iv .i64 j]] (coO g w L) (coR g w (trees g w x i j)) := by
  refine specH_of_vc mixed Try.func45 c45 (by rw [show Try.f45.ntmps = _ from Try.ntmps45]; simp) ?_
  unfold m45 r45
  have hk := hc.v.k
  have hw := hc.w
  rw [trees_sym hx]
  unfold coO
  repeat' first | ((first | refine Br.dec ?_ ?_ | refine Br.eqi ?_ ?_) <;> intro h <;> try (exfalso; omega)) | (simp (disch := first | omega | (simp only [vlen]; first | done | omega)) only [vke, ↓vAq, vBq, ↓reduceIte, Nat.reduceBEq, Nat.reduceEqDiff, Nat.reduceLT, Nat.reduceLeDiff, Nat.reduceAdd, Nat.reduceMul, Nat.reduceSub, reduceCtorEq, Int.reduceToNat]) | (refine Br.mk ?_ ?_ <;> intro h) | (refine BrN.mk (fun h => ?_) ?_) | (refine AltVC.mk ?_ ?_)
  · refine ctr_fin (L := L) (by simp (disch := first | omega | (simp only [vlen]; first | done | omega)) only [vke, ↓vAq, vBq, ↓reduceIte, Nat.reduceBEq, Nat.reduceEqDiff, Nat.reduceLT, Nat.reduceLeDiff, Nat.reduceAdd, Nat.reduceMul, Nat.reduceSub, reduceCtorEq, Int.reduceToNat]) (by unfold coO; simp (disch := first | omega | (simp only [vlen]; first | done | omega)) only [vke, ↓vAq, vBq, ↓reduceIte, Nat.reduceBEq, Nat.reduceEqDiff, Nat.reduceLT, Nat.reduceLeDiff, Nat.reduceAdd, Nat.reduceMul, Nat.reduceSub, reduceCtorEq, Int.reduceToNat]) ?_ hL
    unfold symV; rw [if_pos ⟨by omega, by assumption⟩]; rfl
  · refine ctr_fin (L := L) (by simp (disch := first | omega | (simp only [vlen]; first | done | omega)) only [vke, ↓vAq, vBq, ↓reduceIte, Nat.reduceBEq, Nat.reduceEqDiff, Nat.reduceLT, Nat.reduceLeDiff, Nat.reduceAdd, Nat.reduceMul, Nat.reduceSub, reduceCtorEq, Int.reduceToNat]) (by unfold coO; simp (disch := first | omega | (simp only [vlen]; first | done | omega)) only [vke, ↓vAq, vBq, ↓reduceIte, Nat.reduceBEq, Nat.reduceEqDiff, Nat.reduceLT, Nat.reduceLeDiff, Nat.reduceAdd, Nat.reduceMul, Nat.reduceSub, reduceCtorEq, Int.reduceToNat]) ?_ hL
    unfold symV; rw [if_neg fun h => by have := h.2; contradiction]; rfl
  · refine ctr_fin (L := L) (by simp (disch := first | omega | (simp only [vlen]; first | done | omega)) only [vke, ↓vAq, vBq, ↓reduceIte, Nat.reduceBEq, Nat.reduceEqDiff, Nat.reduceLT, Nat.reduceLeDiff, Nat.reduceAdd, Nat.reduceMul, Nat.reduceSub, reduceCtorEq, Int.reduceToNat]) (by unfold coO; simp (disch := first | omega | (simp only [vlen]; first | done | omega)) only [vke, ↓vAq, vBq, ↓reduceIte, Nat.reduceBEq, Nat.reduceEqDiff, Nat.reduceLT, Nat.reduceLeDiff, Nat.reduceAdd, Nat.reduceMul, Nat.reduceSub, reduceCtorEq, Int.reduceToNat]) ?_ hL
    unfold symV; rw [if_neg fun h => by have := h.1; omega]; rfl
def rwF (g : Grammar) (w : List Int) (q f i j m : Nat) : Nat := trees g w ((g.rules.getD q default).right.getD f 0) i m * rowN g w ((g.rules.getD q default).right.drop (f + 1)) m j
theorem rwF_eq {g : Grammar} {w : List Int} {q f i j : Nat} (h : f + 1 < (g.rules.getD q default).right.length) : rowN g w ((g.rules.getD q default).right.drop f) i j = tsum (rwF g w q f i j) (i + 1) j := rowN_drop h
def ctO (g : Grammar) (w : List Int) (L : List KE) (q f i j : Nat) : List (Nat × Ob) := [(0, ⟨6, [[iv .i64 g.k, iv .i64 g.n, iv .i64 g.start, .sl 2 (tbl rulD g.rules), .sl 1 (i64s w), .mp 1]], false, false, .fix⟩), (1, ⟨5, tbl keD L, true, false, .map [.i64, .i64, .i64, .i64] true false⟩), (2, ⟨2, [[iv .i64 i, iv .i64 j]], true, false, .fix⟩), (3, ⟨4, [[iv .i64 q, iv .i64 f, iv .i64 i, iv .i64 j]], true, false, .fix⟩)]
set_option maxRecDepth 10000 in
set_option maxHeartbeats 4000000 in
theorem row_spec (g : Grammar) (w : List Int) (hc : CC g w) (n : Nat) (ihS : ∀ x i j, 0 ≤ x → x < g.k + g.n → i ≤ j → j ≤ w.length → j - i < n → sgP g w x i j) (ihR : ∀ q f i j, q < g.rules.length → f < (g.rules.getD q default).right.length → i ≤ j → j ≤ w.length → j - i < n → rwP g w q f i j) (q f i j : Nat) (hq : q < g.rules.length) (hf : f < (g.rules.getD q default).right.length) (hij : i ≤ j) (hj : j ≤ w.length) (hn : j - i ≤ n) (hs : (g.rules.getD q default).right.length = f + 1 → sgP g w ((g.rules.getD q default).right.getD f 0) i j) (L : List KE) (hL : MI g w L) : Dm.SpecH Try.prog 53 [.ptr 0 6 0 0, iv .i64 q, iv .i64 f, .ag [iv .i64 i, iv .i64 j]] (coO g w L) (coR g w (rowN g w ((g.rules.getD q default).right.drop f) i j)) := by
  refine specH_of_vc mixed Try.func53 c53 (by rw [show Try.f53.ntmps = _ from Try.ntmps53]; simp) ?_
  unfold m53 r53
  have hk := hc.v.k
  have hw := hc.w
  have hm : g.rules.getD q default ∈ g.rules := getD_mem' hq
  have hlong := hc.v.long _ hm
  have hlen := hc.v.len
  have hright := hc.v.right _ hm
  have hx : ∀ k, k < (g.rules.getD q default).right.length → 0 ≤ (g.rules.getD q default).right.getD k 0 ∧ (g.rules.getD q default).right.getD k 0 < g.k + g.n := fun k hk => hright _ (getD_mem' (l := (g.rules.getD q default).right) (i := k) hk)
  have hdl : ((g.rules.getD q default).right.drop f).length = (g.rules.getD q default).right.length - f := List.length_drop
  have hd0 : ((g.rules.getD q default).right.drop f).getD 0 0 = (g.rules.getD q default).right.getD f 0 := by simp [List.getD]
  by_cases hsh : j - i < (g.rules.getD q default).right.length - f
  · unfold coO
    repeat' first | ((first | refine Br.dec ?_ ?_ | refine Br.eqi ?_ ?_) <;> intro h <;> try (exfalso; omega)) | (simp (disch := first | omega | (simp only [vlen]; first | done | omega)) only [vke, hdl, ↓vAq, vBq, ↓reduceIte, Nat.reduceBEq, Nat.reduceEqDiff, Nat.reduceLT, Nat.reduceLeDiff, Nat.reduceAdd, Nat.reduceMul, Nat.reduceSub, reduceCtorEq, Int.reduceToNat]) | (refine Br.mk ?_ ?_ <;> intro h) | (refine BrN.mk (fun h => ?_) ?_) | (refine AltVC.mk ?_ ?_)
    refine ctr_fin (L := L) (by simp (disch := first | omega | (simp only [vlen]; first | done | omega)) only [vke, ↓vAq, vBq, ↓reduceIte, Nat.reduceBEq, Nat.reduceEqDiff, Nat.reduceLT, Nat.reduceLeDiff, Nat.reduceAdd, Nat.reduceMul, Nat.reduceSub, reduceCtorEq, Int.reduceToNat]) (by unfold coO; simp (disch := first | omega | (simp only [vlen]; first | done | omega)) only [vke, ↓vAq, vBq, ↓reduceIte, Nat.reduceBEq, Nat.reduceEqDiff, Nat.reduceLT, Nat.reduceLeDiff, Nat.reduceAdd, Nat.reduceMul, Nat.reduceSub, reduceCtorEq, Int.reduceToNat]) ?_ hL
    rw [rowN_short hc.p (by omega)]; rfl
  by_cases hone : (g.rules.getD q default).right.length = f + 1
  · have hS := hs hone L hL
    rw [rowN_last (by omega)]
    unfold coO
    repeat' first | ((first | refine Br.dec ?_ ?_ | refine Br.eqi ?_ ?_) <;> intro h <;> try (exfalso; omega)) | (simp (disch := first | omega | (simp only [vlen]; first | done | omega)) only [vke, hdl, hd0, ↓vAq, vBq, ↓reduceIte, Nat.reduceBEq, Nat.reduceEqDiff, Nat.reduceLT, Nat.reduceLeDiff, Nat.reduceAdd, Nat.reduceMul, Nat.reduceSub, reduceCtorEq, Int.reduceToNat]) | (refine Br.mk ?_ ?_ <;> intro h) | (refine BrN.mk (fun h => ?_) ?_) | (refine AltVC.mk ?_ ?_)
    refine CallVC.lendE [0, 1] [.ptr 0 6 0 0, iv .i64 ((g.rules.getD q default).right.getD f 0), .ag [iv .i64 i, iv .i64 j]] (coO g w L) hS (by simp) (by rfl) (by unfold coO; (simp (disch := first | omega | (simp only [vlen]; first | done | omega)) only [vle0, ↓vAq, vBq, ↓reduceIte, Nat.reduceBEq, Nat.reduceEqDiff, Nat.reduceLT, Nat.reduceLeDiff, Nat.reduceAdd, Nat.reduceMul, Nat.reduceSub, reduceCtorEq, Int.reduceToNat] <;> (repeat' first | rfl | apply And.intro))) ?_
    rintro _ _ ⟨L2, rfl, rfl, hL2⟩
    unfold coO
    repeat' first | ((first | refine Br.dec ?_ ?_ | refine Br.eqi ?_ ?_) <;> intro h <;> try (exfalso; omega)) | (simp (disch := first | omega | (simp only [vlen]; first | done | omega)) only [vke, ↓vAq, vBq, ↓reduceIte, Nat.reduceBEq, Nat.reduceEqDiff, Nat.reduceLT, Nat.reduceLeDiff, Nat.reduceAdd, Nat.reduceMul, Nat.reduceSub, reduceCtorEq, Int.reduceToNat]) | (refine Br.mk ?_ ?_ <;> intro h) | (refine BrN.mk (fun h => ?_) ?_) | (refine AltVC.mk ?_ ?_)
    exact ctr_fin (L := L2) (by simp (disch := first | omega | (simp only [vlen]; first | done | omega)) only [vke, ↓vAq, vBq, ↓reduceIte, Nat.reduceBEq, Nat.reduceEqDiff, Nat.reduceLT, Nat.reduceLeDiff, Nat.reduceAdd, Nat.reduceMul, Nat.reduceSub, reduceCtorEq, Int.reduceToNat]) (by unfold coO; simp (disch := first | omega | (simp only [vlen]; first | done | omega)) only [vke, ↓vAq, vBq, ↓reduceIte, Nat.reduceBEq, Nat.reduceEqDiff, Nat.reduceLT, Nat.reduceLeDiff, Nat.reduceAdd, Nat.reduceMul, Nat.reduceSub, reduceCtorEq, Int.reduceToNat]) rfl hL2
  · rw [rwF_eq (by omega)]
    have hlen1 : f + 1 < (g.rules.getD q default).right.length := by omega
    unfold coO
    repeat' first | ((first | refine Br.dec ?_ ?_ | refine Br.eqi ?_ ?_) <;> intro h <;> try (exfalso; omega)) | (simp (disch := first | omega | (simp only [vlen]; first | done | omega)) only [vke, hdl, hd0, ↓vAq, vBq, ↓reduceIte, Nat.reduceBEq, Nat.reduceEqDiff, Nat.reduceLT, Nat.reduceLeDiff, Nat.reduceAdd, Nat.reduceMul, Nat.reduceSub, reduceCtorEq, Int.reduceToNat]) | (refine Br.mk ?_ ?_ <;> intro h) | (refine BrN.mk (fun h => ?_) ?_) | (refine AltVC.mk ?_ ?_)
    refine BrK.mk (fun r hr he => ?_) (fun hnn => ?_)
    · have hR := ke_in hL hr he
      rw [kv_nat, rwF_eq (by omega)] at hR
      repeat' first | ((first | refine Br.dec ?_ ?_ | refine Br.eqi ?_ ?_) <;> intro h <;> try (exfalso; omega)) | (simp (disch := first | omega | (simp only [vlen]; first | done | omega)) only [vke, hdl, hd0, hR, ↓vAq, vBq, ↓reduceIte, Nat.reduceBEq, Nat.reduceEqDiff, Nat.reduceLT, Nat.reduceLeDiff, Nat.reduceAdd, Nat.reduceMul, Nat.reduceSub, reduceCtorEq, Int.reduceToNat]) | (refine Br.mk ?_ ?_ <;> intro h) | (refine BrN.mk (fun h => ?_) ?_) | (refine AltVC.mk ?_ ?_)
      exact ctr_fin (L := L) (by simp (disch := first | omega | (simp only [vlen]; first | done | omega)) only [vke, ↓vAq, vBq, ↓reduceIte, Nat.reduceBEq, Nat.reduceEqDiff, Nat.reduceLT, Nat.reduceLeDiff, Nat.reduceAdd, Nat.reduceMul, Nat.reduceSub, reduceCtorEq, Int.reduceToNat]) (by unfold coO; simp (disch := first | omega | (simp only [vlen]; first | done | omega)) only [vke, ↓vAq, vBq, ↓reduceIte, Nat.reduceBEq, Nat.reduceEqDiff, Nat.reduceLT, Nat.reduceLeDiff, Nat.reduceAdd, Nat.reduceMul, Nat.reduceSub, reduceCtorEq, Int.reduceToNat]) rfl hL
    · repeat' first | ((first | refine Br.dec ?_ ?_ | refine Br.eqi ?_ ?_) <;> intro h <;> try (exfalso; omega)) | (simp (disch := first | omega | (simp only [vlen]; first | done | omega)) only [vke, hdl, hd0, ↓vAq, vBq, ↓reduceIte, Nat.reduceBEq, Nat.reduceEqDiff, Nat.reduceLT, Nat.reduceLeDiff, Nat.reduceAdd, Nat.reduceMul, Nat.reduceSub, reduceCtorEq, Int.reduceToNat]) | (refine Br.mk ?_ ?_ <;> intro h) | (refine BrN.mk (fun h => ?_) ?_) | (refine AltVC.mk ?_ ?_)
      refine LoopVC.mk (X := Nat × List KE) (fun x => [(13, iv .i64 (cp (tsum (rwF g w q f i j) (i + 1) x.1))), (14, iv .i64 x.1)]) (fun x => ctO g w x.2 q f i j) (fun x => j - x.1) (fun x => i + 1 ≤ x.1 ∧ x.1 ≤ j ∧ MI g w x.2) (i + 1, L) ⟨Nat.le_refl _, by omega, hL⟩ ?_ ?_
      · unfold ctO
        rw [tsum_empty (Nat.le_refl _)]
        (simp (disch := first | omega | (simp only [vlen]; first | done | omega)) only [Fits_u, Fits_m, Fits_nil, List.length_append, vke, ↓vAq, vBq, ↓reduceIte, Nat.reduceBEq, Nat.reduceEqDiff, Nat.reduceLT, Nat.reduceLeDiff, Nat.reduceAdd, Nat.reduceMul, Nat.reduceSub, reduceCtorEq, Int.reduceToNat] <;> (repeat' first | rfl | apply And.intro))
        all_goals first | rfl | trace_state
      · rintro ⟨e, Lx⟩ ⟨he1, he2, hLx⟩
        simp only at he1 he2 hLx ⊢
        unfold ctO
        by_cases hej : e < j
        · repeat' first | ((first | refine Br.dec ?_ ?_ | refine Br.eqi ?_ ?_) <;> intro h <;> try (exfalso; omega)) | (simp (disch := first | omega | (simp only [vlen]; first | done | omega)) only [vke, hdl, hd0, ↓vAq, vBq, ↓reduceIte, Nat.reduceBEq, Nat.reduceEqDiff, Nat.reduceLT, Nat.reduceLeDiff, Nat.reduceAdd, Nat.reduceMul, Nat.reduceSub, reduceCtorEq, Int.reduceToNat]) | (refine Br.mk ?_ ?_ <;> intro h) | (refine BrN.mk (fun h => ?_) ?_) | (refine AltVC.mk ?_ ?_)
          refine CallVC.lendE [0, 1] [.ptr 0 6 0 0, iv .i64 ((g.rules.getD q default).right.getD f 0), .ag [iv .i64 i, iv .i64 e]] (coO g w Lx) (ihS _ i e (hx f hf).1 (hx f hf).2 (by omega) (by omega) (by omega) Lx hLx) (by simp) (by rfl) (by unfold coO; (simp (disch := first | omega | (simp only [vlen]; first | done | omega)) only [vle0, ↓vAq, vBq, ↓reduceIte, Nat.reduceBEq, Nat.reduceEqDiff, Nat.reduceLT, Nat.reduceLeDiff, Nat.reduceAdd, Nat.reduceMul, Nat.reduceSub, reduceCtorEq, Int.reduceToNat] <;> (repeat' first | rfl | apply And.intro))) ?_
          rintro _ _ ⟨L2, rfl, rfl, hL2⟩
          unfold coO
          repeat' first | ((first | refine Br.dec ?_ ?_ | refine Br.eqi ?_ ?_) <;> intro h <;> try (exfalso; omega)) | (simp (disch := first | omega | (simp only [vlen]; first | done | omega)) only [vke, hdl, hd0, ↓vAq, vBq, ↓reduceIte, Nat.reduceBEq, Nat.reduceEqDiff, Nat.reduceLT, Nat.reduceLeDiff, Nat.reduceAdd, Nat.reduceMul, Nat.reduceSub, reduceCtorEq, Int.reduceToNat]) | (refine Br.mk ?_ ?_ <;> intro h) | (refine BrN.mk (fun h => ?_) ?_) | (refine AltVC.mk ?_ ?_)
          · refine CallVC.lendE [0, 1] [.ptr 0 6 0 0, iv .i64 q, iv .i64 (f + 1 : Nat), .ag [iv .i64 e, iv .i64 j]] (coO g w L2) (ihR q (f + 1) e j hq hlen1 (by omega) (by omega) (by omega) L2 hL2) (by simp) (by rfl) (by unfold coO; (simp (disch := first | omega | (simp only [vlen]; first | done | omega)) only [vle0, ↓vAq, vBq, ↓reduceIte, Nat.reduceBEq, Nat.reduceEqDiff, Nat.reduceLT, Nat.reduceLeDiff, Nat.reduceAdd, Nat.reduceMul, Nat.reduceSub, reduceCtorEq, Int.reduceToNat] <;> (repeat' first | rfl | apply And.intro))) ?_
            rintro _ _ ⟨L3, rfl, rfl, hL3⟩
            unfold coO
            repeat' first | ((first | refine Br.dec ?_ ?_ | refine Br.eqi ?_ ?_) <;> intro h <;> try (exfalso; omega)) | (simp (disch := first | omega | (simp only [vlen]; first | done | omega)) only [vke, ↓vAq, vBq, ↓reduceIte, Nat.reduceBEq, Nat.reduceEqDiff, Nat.reduceLT, Nat.reduceLeDiff, Nat.reduceAdd, Nat.reduceMul, Nat.reduceSub, reduceCtorEq, Int.reduceToNat]) | (refine Br.mk ?_ ?_ <;> intro h) | (refine BrN.mk (fun h => ?_) ?_) | (refine AltVC.mk ?_ ?_)
            refine CallVC.eq (times_cp _ _) ?_
            repeat' first | ((first | refine Br.dec ?_ ?_ | refine Br.eqi ?_ ?_) <;> intro h <;> try (exfalso; omega)) | (simp (disch := first | omega | (simp only [vlen]; first | done | omega)) only [vke, ↓vAq, vBq, ↓reduceIte, Nat.reduceBEq, Nat.reduceEqDiff, Nat.reduceLT, Nat.reduceLeDiff, Nat.reduceAdd, Nat.reduceMul, Nat.reduceSub, reduceCtorEq, Int.reduceToNat]) | (refine Br.mk ?_ ?_ <;> intro h) | (refine BrN.mk (fun h => ?_) ?_) | (refine AltVC.mk ?_ ?_)
            refine CallVC.eq (add_cp _ _) ?_
            repeat' first | ((first | refine Br.dec ?_ ?_ | refine Br.eqi ?_ ?_) <;> intro h <;> try (exfalso; omega)) | (simp (disch := first | omega | (simp only [vlen]; first | done | omega)) only [vke, ↓vAq, vBq, ↓reduceIte, Nat.reduceBEq, Nat.reduceEqDiff, Nat.reduceLT, Nat.reduceLeDiff, Nat.reduceAdd, Nat.reduceMul, Nat.reduceSub, reduceCtorEq, Int.reduceToNat]) | (refine Br.mk ?_ ?_ <;> intro h) | (refine BrN.mk (fun h => ?_) ?_) | (refine AltVC.mk ?_ ?_)
            refine loopK.mk (e + 1, L3) (by simp (disch := first | omega | (simp only [vlen]; first | done | omega)) only [↓vAq, vBq, ↓reduceIte, Nat.reduceBEq, Nat.reduceEqDiff, Nat.reduceLT, Nat.reduceLeDiff, Nat.reduceAdd, Nat.reduceMul, Nat.reduceSub, reduceCtorEq, Int.reduceToNat]) ⟨by show i + 1 ≤ e + 1; omega, by show e + 1 ≤ j; omega, hL3⟩ (by show j - (e + 1) < j - e; omega) ?_
            simp only [tsum_succ he1]
            (simp (disch := first | omega | (simp only [vlen]; first | done | omega)) only [Fits_u, Fits_m, Fits_nil, List.length_append, vke, ↓vAq, vBq, ↓reduceIte, Nat.reduceBEq, Nat.reduceEqDiff, Nat.reduceLT, Nat.reduceLeDiff, Nat.reduceAdd, Nat.reduceMul, Nat.reduceSub, reduceCtorEq, Int.reduceToNat] <;> (repeat' first | rfl | apply And.intro))
            all_goals first | rfl | trace_state
          · refine loopK.mk (e + 1, L2) (by simp (disch := first | omega | (simp only [vlen]; first | done | omega)) only [↓vAq, vBq, ↓reduceIte, Nat.reduceBEq, Nat.reduceEqDiff, Nat.reduceLT, Nat.reduceLeDiff, Nat.reduceAdd, Nat.reduceMul, Nat.reduceSub, reduceCtorEq, Int.reduceToNat]) ⟨by show i + 1 ≤ e + 1; omega, by show e + 1 ≤ j; omega, hL2⟩ (by show j - (e + 1) < j - e; omega) ?_
            simp only [tsum_succ he1]
            rw [show rwF g w q f i j e = 0 by unfold rwF; rw [(cp_zero (n := trees g w ((g.rules.getD q default).right.getD f 0) i e)).mp (by omega), Nat.zero_mul], Nat.add_zero]
            (simp (disch := first | omega | (simp only [vlen]; first | done | omega)) only [Fits_u, Fits_m, Fits_nil, List.length_append, vke, ↓vAq, vBq, ↓reduceIte, Nat.reduceBEq, Nat.reduceEqDiff, Nat.reduceLT, Nat.reduceLeDiff, Nat.reduceAdd, Nat.reduceMul, Nat.reduceSub, reduceCtorEq, Int.reduceToNat] <;> (repeat' first | rfl | apply And.intro))
            all_goals first | rfl | trace_state
        · have e2 : e = j := by omega
          subst e2
          repeat' first | ((first | refine Br.dec ?_ ?_ | refine Br.eqi ?_ ?_) <;> intro h <;> try (exfalso; omega)) | (simp (disch := first | omega | (simp only [vlen]; first | done | omega)) only [vke, ↓vAq, vBq, ↓reduceIte, Nat.reduceBEq, Nat.reduceEqDiff, Nat.reduceLT, Nat.reduceLeDiff, Nat.reduceAdd, Nat.reduceMul, Nat.reduceSub, reduceCtorEq, Int.reduceToNat]) | (refine Br.mk ?_ ?_ <;> intro h) | (refine BrN.mk (fun h => ?_) ?_) | (refine AltVC.mk ?_ ?_)
          refine BrK.mk (fun r hr he => ?_) (fun hnn => ?_)
          · repeat' first | ((first | refine Br.dec ?_ ?_ | refine Br.eqi ?_ ?_) <;> intro h <;> try (exfalso; omega)) | (simp (disch := first | omega | (simp only [vlen]; first | done | omega)) only [vke, ↓vAq, vBq, ↓reduceIte, Nat.reduceBEq, Nat.reduceEqDiff, Nat.reduceLT, Nat.reduceLeDiff, Nat.reduceAdd, Nat.reduceMul, Nat.reduceSub, reduceCtorEq, Int.reduceToNat]) | (refine Br.mk ?_ ?_ <;> intro h) | (refine BrN.mk (fun h => ?_) ?_) | (refine AltVC.mk ?_ ?_)
            exact ctr_fin (L := Lx.set r ⟨q, f, i, e, cp (tsum (rwF g w q f i e) (i + 1) e)⟩) (by simp (disch := first | omega | (simp only [vlen]; first | done | omega)) only [vke, ↓vAq, vBq, ↓reduceIte, Nat.reduceBEq, Nat.reduceEqDiff, Nat.reduceLT, Nat.reduceLeDiff, Nat.reduceAdd, Nat.reduceMul, Nat.reduceSub, reduceCtorEq, Int.reduceToNat]) (by unfold coO; simp (disch := first | omega | (simp only [vlen]; first | done | omega)) only [vke, ↓vAq, vBq, ↓reduceIte, Nat.reduceBEq, Nat.reduceEqDiff, Nat.reduceLT, Nat.reduceLeDiff, Nat.reduceAdd, Nat.reduceMul, Nat.reduceSub, reduceCtorEq, Int.reduceToNat]) rfl (hLx.set (by rw [kv_nat, rwF_eq hlen1]))
          · repeat' first | ((first | refine Br.dec ?_ ?_ | refine Br.eqi ?_ ?_) <;> intro h <;> try (exfalso; omega)) | (simp (disch := first | omega | (simp only [vlen]; first | done | omega)) only [vke, ↓vAq, vBq, ↓reduceIte, Nat.reduceBEq, Nat.reduceEqDiff, Nat.reduceLT, Nat.reduceLeDiff, Nat.reduceAdd, Nat.reduceMul, Nat.reduceSub, reduceCtorEq, Int.reduceToNat]) | (refine Br.mk ?_ ?_ <;> intro h) | (refine BrN.mk (fun h => ?_) ?_) | (refine AltVC.mk ?_ ?_)
            exact ctr_fin (L := Lx ++ [⟨q, f, i, e, cp (tsum (rwF g w q f i e) (i + 1) e)⟩]) (by simp (disch := first | omega | (simp only [vlen]; first | done | omega)) only [vke, ↓vAq, vBq, ↓reduceIte, Nat.reduceBEq, Nat.reduceEqDiff, Nat.reduceLT, Nat.reduceLeDiff, Nat.reduceAdd, Nat.reduceMul, Nat.reduceSub, reduceCtorEq, Int.reduceToNat]) (by unfold coO; simp (disch := first | omega | (simp only [vlen]; first | done | omega)) only [vke, ↓vAq, vBq, ↓reduceIte, Nat.reduceBEq, Nat.reduceEqDiff, Nat.reduceLT, Nat.reduceLeDiff, Nat.reduceAdd, Nat.reduceMul, Nat.reduceSub, reduceCtorEq, Int.reduceToNat]) rfl (hLx.add (by rw [kv_nat, rwF_eq hlen1]))
def csO (g : Grammar) (w : List Int) (L : List KE) (x : Int) (i j : Nat) : List (Nat × Ob) := [(0, ⟨6, [[iv .i64 g.k, iv .i64 g.n, iv .i64 g.start, .sl 2 (tbl rulD g.rules), .sl 1 (i64s w), .mp 1]], false, false, .fix⟩), (1, ⟨5, tbl keD L, true, false, .map [.i64, .i64, .i64, .i64] true false⟩), (2, ⟨2, [[iv .i64 i, iv .i64 j]], true, false, .fix⟩), (3, ⟨4, [[iv .i64 (-1), iv .i64 x, iv .i64 i, iv .i64 j]], true, false, .fix⟩)]
theorem nsum_succ {f : Nat → Nat} {n : Nat} : nsum f (n + 1) = nsum f n + f n := (rfl)
set_option maxRecDepth 10000 in
set_option maxHeartbeats 4000000 in
theorem sgnN_spec (g : Grammar) (w : List Int) (hc : CC g w) (x : Int) (i j : Nat) (hx : ¬ x < g.k) (hx2 : x < g.k + g.n) (hij : i ≤ j) (hj : j ≤ w.length) (ihR : ∀ q, q < g.rules.length → rwP g w q 0 i j) (L : List KE) (hL : MI g w L) : Dm.SpecH Try.prog 45 [.ptr 0 6 0 0, iv .i64 x, .ag [iv .i64 i, iv .i64 j]] (coO g w L) (coR g w (trees g w x i j)) := by
  refine specH_of_vc mixed Try.func45 c45 (by rw [show Try.f45.ntmps = _ from Try.ntmps45]; simp) ?_
  unfold m45 r45
  have hk := hc.v.k
  have hn := hc.v.n
  have hw := hc.w
  have hlen := hc.v.len
  have hleft : ∀ q, q < g.rules.length → 0 ≤ (g.rules.getD q default).left ∧ (g.rules.getD q default).left < g.n := fun q hq => hc.v.left _ (getD_mem' hq)
  unfold coO
  repeat' first | ((first | refine Br.dec ?_ ?_ | refine Br.eqi ?_ ?_) <;> intro h <;> try (exfalso; omega)) | (simp (disch := first | omega | (simp only [vlen]; first | done | omega)) only [vke, ↓vAq, vBq, ↓reduceIte, Nat.reduceBEq, Nat.reduceEqDiff, Nat.reduceLT, Nat.reduceLeDiff, Nat.reduceAdd, Nat.reduceMul, Nat.reduceSub, reduceCtorEq, Int.reduceToNat]) | (refine Br.mk ?_ ?_ <;> intro h) | (refine BrN.mk (fun h => ?_) ?_) | (refine AltVC.mk ?_ ?_)
  refine BrK.mk (fun r hr he => ?_) (fun hnn => ?_)
  · have hR := ke_in hL hr he
    rw [kv_neg] at hR
    repeat' first | ((first | refine Br.dec ?_ ?_ | refine Br.eqi ?_ ?_) <;> intro h <;> try (exfalso; omega)) | (simp (disch := first | omega | (simp only [vlen]; first | done | omega)) only [vke, hR, ↓vAq, vBq, ↓reduceIte, Nat.reduceBEq, Nat.reduceEqDiff, Nat.reduceLT, Nat.reduceLeDiff, Nat.reduceAdd, Nat.reduceMul, Nat.reduceSub, reduceCtorEq, Int.reduceToNat]) | (refine Br.mk ?_ ?_ <;> intro h) | (refine BrN.mk (fun h => ?_) ?_) | (refine AltVC.mk ?_ ?_)
    exact ctr_fin (L := L) (by simp (disch := first | omega | (simp only [vlen]; first | done | omega)) only [vke, ↓vAq, vBq, ↓reduceIte, Nat.reduceBEq, Nat.reduceEqDiff, Nat.reduceLT, Nat.reduceLeDiff, Nat.reduceAdd, Nat.reduceMul, Nat.reduceSub, reduceCtorEq, Int.reduceToNat]) (by unfold coO; simp (disch := first | omega | (simp only [vlen]; first | done | omega)) only [vke, ↓vAq, vBq, ↓reduceIte, Nat.reduceBEq, Nat.reduceEqDiff, Nat.reduceLT, Nat.reduceLeDiff, Nat.reduceAdd, Nat.reduceMul, Nat.reduceSub, reduceCtorEq, Int.reduceToNat]) rfl hL
  · repeat' first | ((first | refine Br.dec ?_ ?_ | refine Br.eqi ?_ ?_) <;> intro h <;> try (exfalso; omega)) | (simp (disch := first | omega | (simp only [vlen]; first | done | omega)) only [vke, ↓vAq, vBq, ↓reduceIte, Nat.reduceBEq, Nat.reduceEqDiff, Nat.reduceLT, Nat.reduceLeDiff, Nat.reduceAdd, Nat.reduceMul, Nat.reduceSub, reduceCtorEq, Int.reduceToNat]) | (refine Br.mk ?_ ?_ <;> intro h) | (refine BrN.mk (fun h => ?_) ?_) | (refine AltVC.mk ?_ ?_)
    refine LoopVC.mk (X := Nat × List KE) (fun y => [(10, iv .i64 (cp (nsum (ruleV g w x i j) y.1))), (58, iv .i64 y.1)]) (fun y => csO g w y.2 x i j) (fun y => g.rules.length - y.1) (fun y => y.1 ≤ g.rules.length ∧ MI g w y.2) (0, L) ⟨Nat.zero_le _, hL⟩ ?_ ?_
    · unfold csO
      (simp (disch := first | omega | (simp only [vlen]; first | done | omega)) only [Fits_u, Fits_m, Fits_nil, List.length_append, vke, ↓vAq, vBq, ↓reduceIte, Nat.reduceBEq, Nat.reduceEqDiff, Nat.reduceLT, Nat.reduceLeDiff, Nat.reduceAdd, Nat.reduceMul, Nat.reduceSub, reduceCtorEq, Int.reduceToNat] <;> (repeat' first | rfl | apply And.intro))
      all_goals first | rfl | trace_state
    · rintro ⟨q, Lx⟩ ⟨hq1, hLx⟩
      simp only at hq1 hLx ⊢
      unfold csO
      by_cases hq : q < g.rules.length
      · have hlq := hleft q hq
        by_cases hlx : (g.rules.getD q default).left = x - g.k
        · repeat' first | ((first | refine Br.dec ?_ ?_ | refine Br.eqi ?_ ?_) <;> intro h <;> try (exfalso; omega)) | (simp (disch := first | omega | (simp only [vlen]; first | done | omega)) only [vke, ↓vAq, vBq, ↓reduceIte, Nat.reduceBEq, Nat.reduceEqDiff, Nat.reduceLT, Nat.reduceLeDiff, Nat.reduceAdd, Nat.reduceMul, Nat.reduceSub, reduceCtorEq, Int.reduceToNat]) | (refine Br.mk ?_ ?_ <;> intro h) | (refine BrN.mk (fun h => ?_) ?_) | (refine AltVC.mk ?_ ?_)
          refine CallVC.lendE [0, 1] [.ptr 0 6 0 0, iv .i64 q, iv .i64 (0 : Nat), .ag [iv .i64 i, iv .i64 j]] (coO g w Lx) (ihR q hq Lx hLx) (by simp) (by rfl) (by unfold coO; (simp (disch := first | omega | (simp only [vlen]; first | done | omega)) only [vle0, ↓vAq, vBq, ↓reduceIte, Nat.reduceBEq, Nat.reduceEqDiff, Nat.reduceLT, Nat.reduceLeDiff, Nat.reduceAdd, Nat.reduceMul, Nat.reduceSub, reduceCtorEq, Int.reduceToNat] <;> (repeat' first | rfl | apply And.intro))) ?_
          rintro _ _ ⟨L2, rfl, rfl, hL2⟩
          unfold coO
          repeat' first | ((first | refine Br.dec ?_ ?_ | refine Br.eqi ?_ ?_) <;> intro h <;> try (exfalso; omega)) | (simp (disch := first | omega | (simp only [vlen]; first | done | omega)) only [vke, ↓vAq, vBq, ↓reduceIte, Nat.reduceBEq, Nat.reduceEqDiff, Nat.reduceLT, Nat.reduceLeDiff, Nat.reduceAdd, Nat.reduceMul, Nat.reduceSub, reduceCtorEq, Int.reduceToNat]) | (refine Br.mk ?_ ?_ <;> intro h) | (refine BrN.mk (fun h => ?_) ?_) | (refine AltVC.mk ?_ ?_)
          refine CallVC.eq (add_cp _ _) ?_
          repeat' first | ((first | refine Br.dec ?_ ?_ | refine Br.eqi ?_ ?_) <;> intro h <;> try (exfalso; omega)) | (simp (disch := first | omega | (simp only [vlen]; first | done | omega)) only [vke, ↓vAq, vBq, ↓reduceIte, Nat.reduceBEq, Nat.reduceEqDiff, Nat.reduceLT, Nat.reduceLeDiff, Nat.reduceAdd, Nat.reduceMul, Nat.reduceSub, reduceCtorEq, Int.reduceToNat]) | (refine Br.mk ?_ ?_ <;> intro h) | (refine BrN.mk (fun h => ?_) ?_) | (refine AltVC.mk ?_ ?_)
          refine loopK.mk (q + 1, L2) (by simp (disch := first | omega | (simp only [vlen]; first | done | omega)) only [↓vAq, vBq, ↓reduceIte, Nat.reduceBEq, Nat.reduceEqDiff, Nat.reduceLT, Nat.reduceLeDiff, Nat.reduceAdd, Nat.reduceMul, Nat.reduceSub, reduceCtorEq, Int.reduceToNat]) ⟨by show q + 1 ≤ g.rules.length; omega, hL2⟩ (by show g.rules.length - (q + 1) < g.rules.length - q; omega) ?_
          simp only [nsum_succ]
          rw [show ruleV g w x i j q = rowN g w ((g.rules.getD q default).right.drop 0) i j by unfold ruleV; rw [if_pos hlx]; rfl]
          (simp (disch := first | omega | (simp only [vlen]; first | done | omega)) only [Fits_u, Fits_m, Fits_nil, List.length_append, vke, ↓vAq, vBq, ↓reduceIte, Nat.reduceBEq, Nat.reduceEqDiff, Nat.reduceLT, Nat.reduceLeDiff, Nat.reduceAdd, Nat.reduceMul, Nat.reduceSub, reduceCtorEq, Int.reduceToNat] <;> (repeat' first | rfl | apply And.intro))
          all_goals first | rfl | trace_state
        · repeat' first | ((first | refine Br.dec ?_ ?_ | refine Br.eqi ?_ ?_) <;> intro h <;> try (exfalso; omega)) | (simp (disch := first | omega | (simp only [vlen]; first | done | omega)) only [vke, ↓vAq, vBq, ↓reduceIte, Nat.reduceBEq, Nat.reduceEqDiff, Nat.reduceLT, Nat.reduceLeDiff, Nat.reduceAdd, Nat.reduceMul, Nat.reduceSub, reduceCtorEq, Int.reduceToNat]) | (refine Br.mk ?_ ?_ <;> intro h) | (refine BrN.mk (fun h => ?_) ?_) | (refine AltVC.mk ?_ ?_)
          refine loopK.mk (q + 1, Lx) (by simp (disch := first | omega | (simp only [vlen]; first | done | omega)) only [↓vAq, vBq, ↓reduceIte, Nat.reduceBEq, Nat.reduceEqDiff, Nat.reduceLT, Nat.reduceLeDiff, Nat.reduceAdd, Nat.reduceMul, Nat.reduceSub, reduceCtorEq, Int.reduceToNat]) ⟨by show q + 1 ≤ g.rules.length; omega, hLx⟩ (by show g.rules.length - (q + 1) < g.rules.length - q; omega) ?_
          simp only [nsum_succ]
          rw [show ruleV g w x i j q = 0 by unfold ruleV; rw [if_neg hlx], Nat.add_zero]
          (simp (disch := first | omega | (simp only [vlen]; first | done | omega)) only [Fits_u, Fits_m, Fits_nil, List.length_append, vke, ↓vAq, vBq, ↓reduceIte, Nat.reduceBEq, Nat.reduceEqDiff, Nat.reduceLT, Nat.reduceLeDiff, Nat.reduceAdd, Nat.reduceMul, Nat.reduceSub, reduceCtorEq, Int.reduceToNat] <;> (repeat' first | rfl | apply And.intro))
          all_goals first | rfl | trace_state
      · have e2 : q = g.rules.length := by omega
        subst e2
        rw [← trees_name hc.p hx]
        repeat' first | ((first | refine Br.dec ?_ ?_ | refine Br.eqi ?_ ?_) <;> intro h <;> try (exfalso; omega)) | (simp (disch := first | omega | (simp only [vlen]; first | done | omega)) only [vke, ↓vAq, vBq, ↓reduceIte, Nat.reduceBEq, Nat.reduceEqDiff, Nat.reduceLT, Nat.reduceLeDiff, Nat.reduceAdd, Nat.reduceMul, Nat.reduceSub, reduceCtorEq, Int.reduceToNat]) | (refine Br.mk ?_ ?_ <;> intro h) | (refine BrN.mk (fun h => ?_) ?_) | (refine AltVC.mk ?_ ?_)
        refine BrK.mk (fun r hr he => ?_) (fun hnn => ?_)
        · repeat' first | ((first | refine Br.dec ?_ ?_ | refine Br.eqi ?_ ?_) <;> intro h <;> try (exfalso; omega)) | (simp (disch := first | omega | (simp only [vlen]; first | done | omega)) only [vke, ↓vAq, vBq, ↓reduceIte, Nat.reduceBEq, Nat.reduceEqDiff, Nat.reduceLT, Nat.reduceLeDiff, Nat.reduceAdd, Nat.reduceMul, Nat.reduceSub, reduceCtorEq, Int.reduceToNat]) | (refine Br.mk ?_ ?_ <;> intro h) | (refine BrN.mk (fun h => ?_) ?_) | (refine AltVC.mk ?_ ?_)
          exact ctr_fin (L := Lx.set r ⟨-1, x, i, j, cp (trees g w x i j)⟩) (by simp (disch := first | omega | (simp only [vlen]; first | done | omega)) only [vke, ↓vAq, vBq, ↓reduceIte, Nat.reduceBEq, Nat.reduceEqDiff, Nat.reduceLT, Nat.reduceLeDiff, Nat.reduceAdd, Nat.reduceMul, Nat.reduceSub, reduceCtorEq, Int.reduceToNat]) (by unfold coO; simp (disch := first | omega | (simp only [vlen]; first | done | omega)) only [vke, ↓vAq, vBq, ↓reduceIte, Nat.reduceBEq, Nat.reduceEqDiff, Nat.reduceLT, Nat.reduceLeDiff, Nat.reduceAdd, Nat.reduceMul, Nat.reduceSub, reduceCtorEq, Int.reduceToNat]) rfl (hLx.set (by rw [kv_neg]))
        · repeat' first | ((first | refine Br.dec ?_ ?_ | refine Br.eqi ?_ ?_) <;> intro h <;> try (exfalso; omega)) | (simp (disch := first | omega | (simp only [vlen]; first | done | omega)) only [vke, ↓vAq, vBq, ↓reduceIte, Nat.reduceBEq, Nat.reduceEqDiff, Nat.reduceLT, Nat.reduceLeDiff, Nat.reduceAdd, Nat.reduceMul, Nat.reduceSub, reduceCtorEq, Int.reduceToNat]) | (refine Br.mk ?_ ?_ <;> intro h) | (refine BrN.mk (fun h => ?_) ?_) | (refine AltVC.mk ?_ ?_)
          exact ctr_fin (L := Lx ++ [⟨-1, x, i, j, cp (trees g w x i j)⟩]) (by simp (disch := first | omega | (simp only [vlen]; first | done | omega)) only [vke, ↓vAq, vBq, ↓reduceIte, Nat.reduceBEq, Nat.reduceEqDiff, Nat.reduceLT, Nat.reduceLeDiff, Nat.reduceAdd, Nat.reduceMul, Nat.reduceSub, reduceCtorEq, Int.reduceToNat]) (by unfold coO; simp (disch := first | omega | (simp only [vlen]; first | done | omega)) only [vke, ↓vAq, vBq, ↓reduceIte, Nat.reduceBEq, Nat.reduceEqDiff, Nat.reduceLT, Nat.reduceLeDiff, Nat.reduceAdd, Nat.reduceMul, Nat.reduceSub, reduceCtorEq, Int.reduceToNat]) rfl (hLx.add (by rw [kv_neg]))
theorem counter_all (g : Grammar) (w : List Int) (hc : CC g w) : ∀ n, (∀ x i j, 0 ≤ x → x < g.k + g.n → i ≤ j → j ≤ w.length → j - i < n → sgP g w x i j) ∧ (∀ q f i j, q < g.rules.length → f < (g.rules.getD q default).right.length → i ≤ j → j ≤ w.length → j - i < n → rwP g w q f i j) := by
  intro n
  induction n with
  | zero => exact ⟨fun _ _ _ _ _ _ _ h => absurd h (Nat.not_lt_zero _), fun _ _ _ _ _ _ _ _ h => absurd h (Nat.not_lt_zero _)⟩
  | succ n ih =>
    have hR0 : ∀ i j, i ≤ j → j ≤ w.length → j - i < n + 1 → ∀ q, q < g.rules.length → rwP g w q 0 i j := fun i j hij hj hn q hq L hL => by
      have hp := hc.p _ (getD_mem' (l := g.rules) (i := q) hq)
      refine row_spec g w hc n ih.1 ih.2 q 0 i j hq (List.length_pos_iff.mpr hp.1) hij hj (by omega) (fun h1 L hL => ?_) L hL
      have hs : (g.rules.getD q default).right = [(g.rules.getD q default).right.getD 0 0] := by
        match hl : (g.rules.getD q default).right, h1 with
        | [s], _ => rfl
      have h0 := hc.v.right _ (getD_mem' (l := g.rules) (i := q) hq) _ (by rw [hs]; simp : (g.rules.getD q default).right.getD 0 0 ∈ (g.rules.getD q default).right)
      exact sgnS_spec g w hc _ i j (hp.2 _ hs) h0.1 hij hj L hL
    have hS : ∀ x i j, 0 ≤ x → x < g.k + g.n → i ≤ j → j ≤ w.length → j - i < n + 1 → sgP g w x i j := fun x i j h0 h1 hij hj hn L hL => by
      by_cases hx : x < g.k
      · exact sgnS_spec g w hc x i j hx h0 hij hj L hL
      · exact sgnN_spec g w hc x i j hx h1 hij hj (hR0 i j hij hj hn) L hL
    refine ⟨hS, fun q f i j hq hf hij hj hn L hL => row_spec g w hc n ih.1 ih.2 q f i j hq hf hij hj (by omega) (fun h1 => ?_) L hL⟩
    have h0 := hc.v.right _ (getD_mem' (l := g.rules) (i := q) hq) _ (getD_mem' (l := (g.rules.getD q default).right) (i := f) hf)
    exact hS _ i j h0.1 h0.2 hij hj hn
theorem sign_spec (g : Grammar) (w : List Int) (hc : CC g w) (x : Int) (i j : Nat) (h0 : 0 ≤ x) (h1 : x < g.k + g.n) (hij : i ≤ j) (hj : j ≤ w.length) : sgP g w x i j := (counter_all g w hc (j - i + 1)).1 x i j h0 h1 hij hj (Nat.lt_succ_self _)
theorem rowC_spec (g : Grammar) (w : List Int) (hc : CC g w) (q f i j : Nat) (hq : q < g.rules.length) (hf : f < (g.rules.getD q default).right.length) (hij : i ≤ j) (hj : j ≤ w.length) : rwP g w q f i j := (counter_all g w hc (j - i + 1)).2 q f i j hq hf hij hj (Nat.lt_succ_self _)
end Go.Proofs.Ytjekkbpdgnohcaa

namespace Go.Proofs.Ytjekkbpdgnohcaa
open Go.Dm
set_option linter.unusedSimpArgs false
set_option linter.unnecessarySimpa false
set_option linter.unusedVariables false
set_option linter.defProp false
structure BE where
  x : Int
  i : Nat
  j : Nat
  v : Nat
deriving Inhabited
def beD (e : BE) : List D := [iv .i64 e.x, iv .i64 e.i, iv .i64 e.j, iv .i64 e.v]
theorem beD_eq {e : BE} : beD e = [iv .i64 e.x, iv .i64 e.i, iv .i64 e.j, iv .i64 e.v] := (rfl)
def BI (g : Grammar) (w : List Int) (L : List BE) : Prop := ∀ e, e ∈ L → e.v = cp (trees g w e.x e.i e.j)
theorem BI.nil {g : Grammar} {w : List Int} : BI g w [] := fun e h => by cases h
theorem BI.add {g : Grammar} {w : List Int} {L : List BE} (h : BI g w L) {e : BE} (he : e.v = cp (trees g w e.x e.i e.j)) : BI g w (L ++ [e]) := fun x hx => by
  rcases List.mem_append.mp hx with h1 | h1
  · exact h x h1
  · rw [List.mem_singleton.mp h1]; exact he
theorem BI.set {g : Grammar} {w : List Int} {L : List BE} (h : BI g w L) {e : BE} {r : Nat} (he : e.v = cp (trees g w e.x e.i e.j)) : BI g w (L.set r e) := fun x hx => by
  rcases List.mem_or_eq_of_mem_set hx with h1 | h1
  · exact h x h1
  · rw [h1]; exact he
theorem be_in {g : Grammar} {w : List Int} {L : List BE} (h : BI g w L) {r : Nat} {x : Int} {i j : Nat} (hr : r < (tbl beD L).length) (he : Agr (((tbl beD L).getD r []).take 3) [.v (.int .i64 x), .v (.int .i64 i), .v (.int .i64 j)]) : (tbl beD L).getD r [] = [iv .i64 x, iv .i64 i, iv .i64 j, iv .i64 (cp (trees g w x i j))] := by
  rw [tbl_len] at hr
  rw [tbl_get hr] at he ⊢
  rw [beD_eq] at he ⊢
  simp only [List.take_succ_cons, List.take_zero, Agr_v, D.v.injEq, Value.int.injEq, true_and, Int.natCast_inj] at he
  have hm := h _ (getD_mem' (l := L) (i := r) hr)
  rw [hm, he.1, he.2.1, he.2.2.1]
theorem be_app {L : List BE} {x : Int} {i j v : Nat} : tbl beD L ++ [[D.v (.int .i64 x), D.v (.int .i64 i), D.v (.int .i64 j), D.v (.int .i64 v)]] = tbl beD (L ++ [⟨x, i, j, v⟩]) := by rw [tbl_app]; rfl
theorem be_set {L : List BE} {r : Nat} {x : Int} {i j v : Nat} : (tbl beD L).set r [D.v (.int .i64 x), D.v (.int .i64 i), D.v (.int .i64 j), D.v (.int .i64 v)] = tbl beD (L.set r ⟨x, i, j, v⟩) := by rw [← tbl_set]; rfl
def vbe := And.intro vmr <| And.intro @be_app <| And.intro @be_set <| And.intro @rulD_eq @Int.add_sub_cancel
def buO (g : Grammar) (w : List Int) (L : List BE) : List Ob := [⟨6, [[iv .i64 g.k, iv .i64 g.n, iv .i64 g.start, .sl 2 (tbl rulD g.rules), .sl 1 (i64s w), .mp 1]], false, false, .fix⟩, ⟨4, tbl beD L, true, false, .map [.i64, .i64, .i64] true false⟩]
def buL (g : Grammar) (w : List Int) (L : List BE) : List (Nat × Ob) := [(0, ⟨6, [[iv .i64 g.k, iv .i64 g.n, iv .i64 g.start, .sl 2 (tbl rulD g.rules), .sl 1 (i64s w), .mp 1]], false, false, .fix⟩), (1, ⟨4, tbl beD L, true, false, .map [.i64, .i64, .i64] true false⟩)]
def buR (g : Grammar) (w : List Int) (n : Nat) (d : D) (o : List (Option Ob)) : Prop := ∃ L, d = iv .i64 (cp n) ∧ o = (buO g w L).map some ∧ BI g w L
theorem bush_fin {g : Grammar} {w : List Int} {s : S} {n : Nat} {v : Int} {L : List BE} (h1 : 2 ≤ s.N) (h2 : fitL s 2 0 ((buO g w L).map some)) (hv : v = (cp n : Nat)) (hL : BI g w L) : FinH 2 (buR g w n) s (D.v (.int .i64 v)) :=
  finH_mk ((buO g w L).map some) (by simp [buO]) (by simpa [buO] using h1) (by simpa [buO] using h2) ⟨L, by subst hv; rw [trim_v], rfl, hL⟩
theorem nsum_cp_le {f : Nat → Nat} : ∀ {n : Nat}, nsum (fun q => cp (f q)) n ≤ n * 1099511627777
  | 0 => Nat.zero_le _
  | n + 1 => by
    have := @nsum_cp_le f n
    have h2 := @cp_le (f n)
    rw [nsum_succ, Nat.succ_mul]; omega
theorem nsum_cp {f : Nat → Nat} : ∀ {n : Nat}, cp (nsum f n) = cp (nsum (fun q => cp (f q)) n)
  | 0 => rfl
  | n + 1 => by
    have := @nsum_cp f n
    rw [nsum_succ, nsum_succ]
    unfold cp at this ⊢; omega
def btP (g : Grammar) (w : List Int) (x : Int) (i j : Nat) : Prop := ∀ L, BI g w L → Dm.SpecH Try.prog 15 [.ptr 0 6 0 0, iv .i64 x, iv .i64 i, iv .i64 j] (buO g w L) (buR g w (trees g w x i j))
def brP (g : Grammar) (w : List Int) (l : List Int) (i j : Nat) : Prop := ∀ L, BI g w L → Dm.SpecH Try.prog 28 [.ptr 0 6 0 0, .sl 1 (i64s l), iv .i64 i, iv .i64 j] (buO g w L) (buR g w (rowN g w l i j))
set_option maxRecDepth 10000 in
set_option maxHeartbeats 4000000 in
theorem trS_spec (g : Grammar) (w : List Int) (hc : CC g w) (x : Int) (i j : Nat) (hx : x < g.k) (hx0 : 0 ≤ x) (hij : i ≤ j) (hj : j ≤ w.length) (L : List BE) (hL : BI g w L) : Dm.SpecH Try.prog 15 [.ptr 0 6 0 0, iv .i64 x, iv .i64 i, iv .i64 j] (buO g w L) (buR g w (trees g w x i j)) := by
  refine specH_of_vc mixed Try.func15 c15 (by rw [show Try.f15.ntmps = _ from Try.ntmps15]; simp) ?_
  unfold m15 r15
  have hk := hc.v.k
  have hw := hc.w
  rw [trees_sym hx]
  unfold buO
  repeat' first | ((first | refine Br.dec ?_ ?_ | refine Br.eqi ?_ ?_) <;> intro h <;> try (exfalso; omega)) | (simp (disch := first | omega | (simp only [vlen]; first | done | omega)) only [vbe, ↓vAq, vBq, ↓reduceIte, Nat.reduceBEq, Nat.reduceEqDiff, Nat.reduceLT, Nat.reduceLeDiff, Nat.reduceAdd, Nat.reduceMul, Nat.reduceSub, reduceCtorEq, Int.reduceToNat]) | (refine Br.mk ?_ ?_ <;> intro h) | (refine BrN.mk (fun h => ?_) ?_) | (refine AltVC.mk ?_ ?_)
  · refine bush_fin (L := L) (by simp (disch := first | omega | (simp only [vlen]; first | done | omega)) only [vbe, ↓vAq, vBq, ↓reduceIte, Nat.reduceBEq, Nat.reduceEqDiff, Nat.reduceLT, Nat.reduceLeDiff, Nat.reduceAdd, Nat.reduceMul, Nat.reduceSub, reduceCtorEq, Int.reduceToNat]) (by unfold buO; simp (disch := first | omega | (simp only [vlen]; first | done | omega)) only [vbe, ↓vAq, vBq, ↓reduceIte, Nat.reduceBEq, Nat.reduceEqDiff, Nat.reduceLT, Nat.reduceLeDiff, Nat.reduceAdd, Nat.reduceMul, Nat.reduceSub, reduceCtorEq, Int.reduceToNat]) ?_ hL
    unfold symV; rw [if_pos ⟨by omega, by assumption⟩]; rfl
  · refine bush_fin (L := L) (by simp (disch := first | omega | (simp only [vlen]; first | done | omega)) only [vbe, ↓vAq, vBq, ↓reduceIte, Nat.reduceBEq, Nat.reduceEqDiff, Nat.reduceLT, Nat.reduceLeDiff, Nat.reduceAdd, Nat.reduceMul, Nat.reduceSub, reduceCtorEq, Int.reduceToNat]) (by unfold buO; simp (disch := first | omega | (simp only [vlen]; first | done | omega)) only [vbe, ↓vAq, vBq, ↓reduceIte, Nat.reduceBEq, Nat.reduceEqDiff, Nat.reduceLT, Nat.reduceLeDiff, Nat.reduceAdd, Nat.reduceMul, Nat.reduceSub, reduceCtorEq, Int.reduceToNat]) ?_ hL
    unfold symV; rw [if_neg fun h => by have := h.2; contradiction]; rfl
  · refine bush_fin (L := L) (by simp (disch := first | omega | (simp only [vlen]; first | done | omega)) only [vbe, ↓vAq, vBq, ↓reduceIte, Nat.reduceBEq, Nat.reduceEqDiff, Nat.reduceLT, Nat.reduceLeDiff, Nat.reduceAdd, Nat.reduceMul, Nat.reduceSub, reduceCtorEq, Int.reduceToNat]) (by unfold buO; simp (disch := first | omega | (simp only [vlen]; first | done | omega)) only [vbe, ↓vAq, vBq, ↓reduceIte, Nat.reduceBEq, Nat.reduceEqDiff, Nat.reduceLT, Nat.reduceLeDiff, Nat.reduceAdd, Nat.reduceMul, Nat.reduceSub, reduceCtorEq, Int.reduceToNat]) ?_ hL
    unfold symV; rw [if_neg fun h => by have := h.1; omega]; rfl
set_option maxRecDepth 10000 in
set_option maxHeartbeats 4000000 in
theorem trN_spec (g : Grammar) (w : List Int) (hc : CC g w) (x : Int) (i j : Nat) (hx : ¬ x < g.k) (hx2 : x < g.k + g.n) (hij : i ≤ j) (hj : j ≤ w.length) (ihR : ∀ q, q < g.rules.length → brP g w (g.rules.getD q default).right i j) (L : List BE) (hL : BI g w L) : Dm.SpecH Try.prog 15 [.ptr 0 6 0 0, iv .i64 x, iv .i64 i, iv .i64 j] (buO g w L) (buR g w (trees g w x i j)) := by
  refine specH_of_vc mixed Try.func15 c15 (by rw [show Try.f15.ntmps = _ from Try.ntmps15]; simp) ?_
  unfold m15 r15
  have hk := hc.v.k
  have hn := hc.v.n
  have hw := hc.w
  have hlen := hc.v.len
  have hleft : ∀ q, q < g.rules.length → 0 ≤ (g.rules.getD q default).left ∧ (g.rules.getD q default).left < g.n := fun q hq => hc.v.left _ (getD_mem' hq)
  by_cases hij0 : i = j
  · subst hij0
    rw [trees_none hc.p (Nat.le_refl _)]
    unfold buO
    repeat' first | ((first | refine Br.dec ?_ ?_ | refine Br.eqi ?_ ?_) <;> intro h <;> try (exfalso; omega)) | (simp (disch := first | omega | (simp only [vlen]; first | done | omega)) only [vbe, ↓vAq, vBq, ↓reduceIte, Nat.reduceBEq, Nat.reduceEqDiff, Nat.reduceLT, Nat.reduceLeDiff, Nat.reduceAdd, Nat.reduceMul, Nat.reduceSub, reduceCtorEq, Int.reduceToNat]) | (refine Br.mk ?_ ?_ <;> intro h) | (refine BrN.mk (fun h => ?_) ?_) | (refine AltVC.mk ?_ ?_)
    exact bush_fin (L := L) (by simp (disch := first | omega | (simp only [vlen]; first | done | omega)) only [vbe, ↓vAq, vBq, ↓reduceIte, Nat.reduceBEq, Nat.reduceEqDiff, Nat.reduceLT, Nat.reduceLeDiff, Nat.reduceAdd, Nat.reduceMul, Nat.reduceSub, reduceCtorEq, Int.reduceToNat]) (by unfold buO; simp (disch := first | omega | (simp only [vlen]; first | done | omega)) only [vbe, ↓vAq, vBq, ↓reduceIte, Nat.reduceBEq, Nat.reduceEqDiff, Nat.reduceLT, Nat.reduceLeDiff, Nat.reduceAdd, Nat.reduceMul, Nat.reduceSub, reduceCtorEq, Int.reduceToNat]) rfl hL
  unfold buO
  repeat' first | ((first | refine Br.dec ?_ ?_ | refine Br.eqi ?_ ?_) <;> intro h <;> try (exfalso; omega)) | (simp (disch := first | omega | (simp only [vlen]; first | done | omega)) only [vbe, ↓vAq, vBq, ↓reduceIte, Nat.reduceBEq, Nat.reduceEqDiff, Nat.reduceLT, Nat.reduceLeDiff, Nat.reduceAdd, Nat.reduceMul, Nat.reduceSub, reduceCtorEq, Int.reduceToNat]) | (refine Br.mk ?_ ?_ <;> intro h) | (refine BrN.mk (fun h => ?_) ?_) | (refine AltVC.mk ?_ ?_)
  refine BrK.mk (fun r hr he => ?_) (fun hnn => ?_)
  · have hR := be_in hL hr he
    repeat' first | ((first | refine Br.dec ?_ ?_ | refine Br.eqi ?_ ?_) <;> intro h <;> try (exfalso; omega)) | (simp (disch := first | omega | (simp only [vlen]; first | done | omega)) only [vbe, hR, ↓vAq, vBq, ↓reduceIte, Nat.reduceBEq, Nat.reduceEqDiff, Nat.reduceLT, Nat.reduceLeDiff, Nat.reduceAdd, Nat.reduceMul, Nat.reduceSub, reduceCtorEq, Int.reduceToNat]) | (refine Br.mk ?_ ?_ <;> intro h) | (refine BrN.mk (fun h => ?_) ?_) | (refine AltVC.mk ?_ ?_)
    exact bush_fin (L := L) (by simp (disch := first | omega | (simp only [vlen]; first | done | omega)) only [vbe, ↓vAq, vBq, ↓reduceIte, Nat.reduceBEq, Nat.reduceEqDiff, Nat.reduceLT, Nat.reduceLeDiff, Nat.reduceAdd, Nat.reduceMul, Nat.reduceSub, reduceCtorEq, Int.reduceToNat]) (by unfold buO; simp (disch := first | omega | (simp only [vlen]; first | done | omega)) only [vbe, ↓vAq, vBq, ↓reduceIte, Nat.reduceBEq, Nat.reduceEqDiff, Nat.reduceLT, Nat.reduceLeDiff, Nat.reduceAdd, Nat.reduceMul, Nat.reduceSub, reduceCtorEq, Int.reduceToNat]) rfl hL
  · repeat' first | ((first | refine Br.dec ?_ ?_ | refine Br.eqi ?_ ?_) <;> intro h <;> try (exfalso; omega)) | (simp (disch := first | omega | (simp only [vlen]; first | done | omega)) only [vbe, ↓vAq, vBq, ↓reduceIte, Nat.reduceBEq, Nat.reduceEqDiff, Nat.reduceLT, Nat.reduceLeDiff, Nat.reduceAdd, Nat.reduceMul, Nat.reduceSub, reduceCtorEq, Int.reduceToNat]) | (refine Br.mk ?_ ?_ <;> intro h) | (refine BrN.mk (fun h => ?_) ?_) | (refine AltVC.mk ?_ ?_)
    refine LoopVC.mk (X := Nat × List BE) (fun y => [(9, iv .i64 (nsum (fun q => cp (ruleV g w x i j q)) y.1)), (58, iv .i64 y.1)]) (fun y => buL g w y.2) (fun y => g.rules.length - y.1) (fun y => y.1 ≤ g.rules.length ∧ BI g w y.2) (0, L) ⟨Nat.zero_le _, hL⟩ ?_ ?_
    · unfold buL
      (simp (disch := first | omega | (simp only [vlen]; first | done | omega)) only [Fits_u, Fits_m, Fits_nil, List.length_append, vbe, ↓vAq, vBq, ↓reduceIte, Nat.reduceBEq, Nat.reduceEqDiff, Nat.reduceLT, Nat.reduceLeDiff, Nat.reduceAdd, Nat.reduceMul, Nat.reduceSub, reduceCtorEq, Int.reduceToNat] <;> (repeat' first | rfl | apply And.intro))
      all_goals first | rfl | trace_state
    · rintro ⟨q, Lx⟩ ⟨hq1, hLx⟩
      simp only at hq1 hLx ⊢
      unfold buL
      have hsum := nsum_cp_le (f := ruleV g w x i j) (n := q)
      have hsq := Nat.mul_le_mul_right 1099511627777 (show q ≤ 10 by omega)
      by_cases hq : q < g.rules.length
      · have hlq := hleft q hq
        have hmr := hc.v.long _ (getD_mem' (l := g.rules) (i := q) hq)
        have hcq := @cp_le (rowN g w (g.rules.getD q default).right i j)
        by_cases hlx : (g.rules.getD q default).left = x - g.k
        · repeat' first | ((first | refine Br.dec ?_ ?_ | refine Br.eqi ?_ ?_) <;> intro h <;> try (exfalso; omega)) | (simp (disch := first | omega | (simp only [vlen]; first | done | omega)) only [vbe, ↓vAq, vBq, ↓reduceIte, Nat.reduceBEq, Nat.reduceEqDiff, Nat.reduceLT, Nat.reduceLeDiff, Nat.reduceAdd, Nat.reduceMul, Nat.reduceSub, reduceCtorEq, Int.reduceToNat]) | (refine Br.mk ?_ ?_ <;> intro h) | (refine BrN.mk (fun h => ?_) ?_) | (refine AltVC.mk ?_ ?_)
          refine CallVC.lendE [0, 1] [.ptr 0 6 0 0, .sl 1 (i64s (g.rules.getD q default).right), iv .i64 i, iv .i64 j] (buO g w Lx) (ihR q hq Lx hLx) (by simp) (by rfl) (by unfold buO; (simp (disch := first | omega | (simp only [vlen]; first | done | omega)) only [vle0, ↓vAq, vBq, ↓reduceIte, Nat.reduceBEq, Nat.reduceEqDiff, Nat.reduceLT, Nat.reduceLeDiff, Nat.reduceAdd, Nat.reduceMul, Nat.reduceSub, reduceCtorEq, Int.reduceToNat] <;> (repeat' first | rfl | apply And.intro))) ?_
          rintro _ _ ⟨L2, rfl, rfl, hL2⟩
          unfold buO
          repeat' first | ((first | refine Br.dec ?_ ?_ | refine Br.eqi ?_ ?_) <;> intro h <;> try (exfalso; omega)) | (simp (disch := first | omega | (simp only [vlen]; first | done | omega)) only [vbe, ↓vAq, vBq, ↓reduceIte, Nat.reduceBEq, Nat.reduceEqDiff, Nat.reduceLT, Nat.reduceLeDiff, Nat.reduceAdd, Nat.reduceMul, Nat.reduceSub, reduceCtorEq, Int.reduceToNat]) | (refine Br.mk ?_ ?_ <;> intro h) | (refine BrN.mk (fun h => ?_) ?_) | (refine AltVC.mk ?_ ?_)
          refine loopK.mk (q + 1, L2) (by simp (disch := first | omega | (simp only [vlen]; first | done | omega)) only [↓vAq, vBq, ↓reduceIte, Nat.reduceBEq, Nat.reduceEqDiff, Nat.reduceLT, Nat.reduceLeDiff, Nat.reduceAdd, Nat.reduceMul, Nat.reduceSub, reduceCtorEq, Int.reduceToNat]) ⟨by show q + 1 ≤ g.rules.length; omega, hL2⟩ (by show g.rules.length - (q + 1) < g.rules.length - q; omega) ?_
          simp only [nsum_succ]
          rw [show ruleV g w x i j q = rowN g w (g.rules.getD q default).right i j by unfold ruleV; rw [if_pos hlx]]
          (simp (disch := first | omega | (simp only [vlen]; first | done | omega)) only [Fits_u, Fits_m, Fits_nil, List.length_append, vbe, ↓vAq, vBq, ↓reduceIte, Nat.reduceBEq, Nat.reduceEqDiff, Nat.reduceLT, Nat.reduceLeDiff, Nat.reduceAdd, Nat.reduceMul, Nat.reduceSub, reduceCtorEq, Int.reduceToNat] <;> (repeat' first | rfl | apply And.intro))
          all_goals first | rfl | trace_state
        · repeat' first | ((first | refine Br.dec ?_ ?_ | refine Br.eqi ?_ ?_) <;> intro h <;> try (exfalso; omega)) | (simp (disch := first | omega | (simp only [vlen]; first | done | omega)) only [vbe, ↓vAq, vBq, ↓reduceIte, Nat.reduceBEq, Nat.reduceEqDiff, Nat.reduceLT, Nat.reduceLeDiff, Nat.reduceAdd, Nat.reduceMul, Nat.reduceSub, reduceCtorEq, Int.reduceToNat]) | (refine Br.mk ?_ ?_ <;> intro h) | (refine BrN.mk (fun h => ?_) ?_) | (refine AltVC.mk ?_ ?_)
          refine loopK.mk (q + 1, Lx) (by simp (disch := first | omega | (simp only [vlen]; first | done | omega)) only [↓vAq, vBq, ↓reduceIte, Nat.reduceBEq, Nat.reduceEqDiff, Nat.reduceLT, Nat.reduceLeDiff, Nat.reduceAdd, Nat.reduceMul, Nat.reduceSub, reduceCtorEq, Int.reduceToNat]) ⟨by show q + 1 ≤ g.rules.length; omega, hLx⟩ (by show g.rules.length - (q + 1) < g.rules.length - q; omega) ?_
          simp only [nsum_succ]
          rw [show ruleV g w x i j q = 0 by unfold ruleV; rw [if_neg hlx], show cp 0 = 0 from rfl, Nat.add_zero]
          (simp (disch := first | omega | (simp only [vlen]; first | done | omega)) only [Fits_u, Fits_m, Fits_nil, List.length_append, vbe, ↓vAq, vBq, ↓reduceIte, Nat.reduceBEq, Nat.reduceEqDiff, Nat.reduceLT, Nat.reduceLeDiff, Nat.reduceAdd, Nat.reduceMul, Nat.reduceSub, reduceCtorEq, Int.reduceToNat] <;> (repeat' first | rfl | apply And.intro))
          all_goals first | rfl | trace_state
      · have e2 : q = g.rules.length := by omega
        subst e2
        have htr := trees_name hc.p (w := w) (i := i) (j := j) hx
        have hcp : cp (trees g w x i j) = cp (nsum (fun q => cp (ruleV g w x i j q)) g.rules.length) := by rw [htr, nsum_cp]
        obtain ⟨S, hS⟩ : ∃ S, nsum (fun q => cp (ruleV g w x i j q)) g.rules.length = S := ⟨_, rfl⟩
        rw [hS] at hcp hsum ⊢
        repeat' first | ((first | refine Br.dec ?_ ?_ | refine Br.eqi ?_ ?_) <;> intro h <;> try (exfalso; omega)) | (simp (disch := first | omega | (simp only [vlen]; first | done | omega)) only [vbe, ↓vAq, vBq, ↓reduceIte, Nat.reduceBEq, Nat.reduceEqDiff, Nat.reduceLT, Nat.reduceLeDiff, Nat.reduceAdd, Nat.reduceMul, Nat.reduceSub, reduceCtorEq, Int.reduceToNat]) | (refine Br.mk ?_ ?_ <;> intro h) | (refine BrN.mk (fun h => ?_) ?_) | (refine AltVC.mk ?_ ?_)
        · have hv : cp (trees g w x i j) = 1099511627777 := by rw [hcp]; unfold cp; omega
          obtain ⟨C, hC, hC2⟩ : ∃ C : Nat, (1099511627777 : Int) = C ∧ 1099511627777 = C := ⟨1099511627777, rfl, rfl⟩
          rw [hC2] at hv
          refine BrK.mk (fun r hr he => ?_) (fun hnn => ?_)
          · repeat' first | ((first | refine Br.dec ?_ ?_ | refine Br.eqi ?_ ?_) <;> intro h <;> try (exfalso; omega)) | (simp (disch := first | omega | (simp only [vlen]; first | done | omega)) only [hC, vbe, ↓vAq, vBq, ↓reduceIte, Nat.reduceBEq, Nat.reduceEqDiff, Nat.reduceLT, Nat.reduceLeDiff, Nat.reduceAdd, Nat.reduceMul, Nat.reduceSub, reduceCtorEq, Int.reduceToNat]) | (refine Br.mk ?_ ?_ <;> intro h) | (refine BrN.mk (fun h => ?_) ?_) | (refine AltVC.mk ?_ ?_)
            exact bush_fin (L := Lx.set r ⟨x, i, j, C⟩) (by simp (disch := first | omega | (simp only [vlen]; first | done | omega)) only [vbe, ↓vAq, vBq, ↓reduceIte, Nat.reduceBEq, Nat.reduceEqDiff, Nat.reduceLT, Nat.reduceLeDiff, Nat.reduceAdd, Nat.reduceMul, Nat.reduceSub, reduceCtorEq, Int.reduceToNat]) (by unfold buO; simp (disch := first | omega | (simp only [vlen]; first | done | omega)) only [vbe, ↓vAq, vBq, ↓reduceIte, Nat.reduceBEq, Nat.reduceEqDiff, Nat.reduceLT, Nat.reduceLeDiff, Nat.reduceAdd, Nat.reduceMul, Nat.reduceSub, reduceCtorEq, Int.reduceToNat]) (by rw [hv]) (hLx.set hv.symm)
          · repeat' first | ((first | refine Br.dec ?_ ?_ | refine Br.eqi ?_ ?_) <;> intro h <;> try (exfalso; omega)) | (simp (disch := first | omega | (simp only [vlen]; first | done | omega)) only [hC, vbe, ↓vAq, vBq, ↓reduceIte, Nat.reduceBEq, Nat.reduceEqDiff, Nat.reduceLT, Nat.reduceLeDiff, Nat.reduceAdd, Nat.reduceMul, Nat.reduceSub, reduceCtorEq, Int.reduceToNat]) | (refine Br.mk ?_ ?_ <;> intro h) | (refine BrN.mk (fun h => ?_) ?_) | (refine AltVC.mk ?_ ?_)
            exact bush_fin (L := Lx ++ [⟨x, i, j, C⟩]) (by simp (disch := first | omega | (simp only [vlen]; first | done | omega)) only [vbe, ↓vAq, vBq, ↓reduceIte, Nat.reduceBEq, Nat.reduceEqDiff, Nat.reduceLT, Nat.reduceLeDiff, Nat.reduceAdd, Nat.reduceMul, Nat.reduceSub, reduceCtorEq, Int.reduceToNat]) (by unfold buO; simp (disch := first | omega | (simp only [vlen]; first | done | omega)) only [vbe, ↓vAq, vBq, ↓reduceIte, Nat.reduceBEq, Nat.reduceEqDiff, Nat.reduceLT, Nat.reduceLeDiff, Nat.reduceAdd, Nat.reduceMul, Nat.reduceSub, reduceCtorEq, Int.reduceToNat]) (by rw [hv]) (hLx.add hv.symm)
        · have hv : cp (trees g w x i j) = S := by rw [hcp]; unfold cp; omega
          refine BrK.mk (fun r hr he => ?_) (fun hnn => ?_)
          · repeat' first | ((first | refine Br.dec ?_ ?_ | refine Br.eqi ?_ ?_) <;> intro h <;> try (exfalso; omega)) | (simp (disch := first | omega | (simp only [vlen]; first | done | omega)) only [vbe, ↓vAq, vBq, ↓reduceIte, Nat.reduceBEq, Nat.reduceEqDiff, Nat.reduceLT, Nat.reduceLeDiff, Nat.reduceAdd, Nat.reduceMul, Nat.reduceSub, reduceCtorEq, Int.reduceToNat]) | (refine Br.mk ?_ ?_ <;> intro h) | (refine BrN.mk (fun h => ?_) ?_) | (refine AltVC.mk ?_ ?_)
            exact bush_fin (L := Lx.set r ⟨x, i, j, S⟩) (by simp (disch := first | omega | (simp only [vlen]; first | done | omega)) only [vbe, ↓vAq, vBq, ↓reduceIte, Nat.reduceBEq, Nat.reduceEqDiff, Nat.reduceLT, Nat.reduceLeDiff, Nat.reduceAdd, Nat.reduceMul, Nat.reduceSub, reduceCtorEq, Int.reduceToNat]) (by unfold buO; simp (disch := first | omega | (simp only [vlen]; first | done | omega)) only [vbe, ↓vAq, vBq, ↓reduceIte, Nat.reduceBEq, Nat.reduceEqDiff, Nat.reduceLT, Nat.reduceLeDiff, Nat.reduceAdd, Nat.reduceMul, Nat.reduceSub, reduceCtorEq, Int.reduceToNat]) (by rw [hv]) (hLx.set hv.symm)
          · repeat' first | ((first | refine Br.dec ?_ ?_ | refine Br.eqi ?_ ?_) <;> intro h <;> try (exfalso; omega)) | (simp (disch := first | omega | (simp only [vlen]; first | done | omega)) only [vbe, ↓vAq, vBq, ↓reduceIte, Nat.reduceBEq, Nat.reduceEqDiff, Nat.reduceLT, Nat.reduceLeDiff, Nat.reduceAdd, Nat.reduceMul, Nat.reduceSub, reduceCtorEq, Int.reduceToNat]) | (refine Br.mk ?_ ?_ <;> intro h) | (refine BrN.mk (fun h => ?_) ?_) | (refine AltVC.mk ?_ ?_)
            exact bush_fin (L := Lx ++ [⟨x, i, j, S⟩]) (by simp (disch := first | omega | (simp only [vlen]; first | done | omega)) only [vbe, ↓vAq, vBq, ↓reduceIte, Nat.reduceBEq, Nat.reduceEqDiff, Nat.reduceLT, Nat.reduceLeDiff, Nat.reduceAdd, Nat.reduceMul, Nat.reduceSub, reduceCtorEq, Int.reduceToNat]) (by unfold buO; simp (disch := first | omega | (simp only [vlen]; first | done | omega)) only [vbe, ↓vAq, vBq, ↓reduceIte, Nat.reduceBEq, Nat.reduceEqDiff, Nat.reduceLT, Nat.reduceLeDiff, Nat.reduceAdd, Nat.reduceMul, Nat.reduceSub, reduceCtorEq, Int.reduceToNat]) (by rw [hv]) (hLx.add hv.symm)
def lsF (g : Grammar) (w : List Int) (l : List Int) (i j m : Nat) : Nat := trees g w (l.getD 0 0) i m * rowN g w (l.drop 1) m j
theorem lsF_eq {g : Grammar} {w : List Int} {l : List Int} {i j : Nat} (h : 1 < l.length) : rowN g w l i j = tsum (lsF g w l i j) (i + 1) j := by
  have := @rowN_drop g w l 0 i j (by omega)
  rw [List.drop_zero] at this; exact this
theorem bush_sum {a b : Nat} (h : ¬ (1099511627776 : Int) < (cp a : Nat) + (cp b : Nat)) : ((cp a : Nat) : Int) + (cp b : Nat) = (cp (a + b) : Nat) := by unfold cp at *; omega
theorem bush_cap {a b : Nat} (h : (1099511627776 : Int) < (cp a : Nat) + (cp b : Nat)) : (1099511627777 : Int) = (cp (a + b) : Nat) := by unfold cp at *; omega
theorem bush_no {a : Nat} (h : (1099511627776 : Int) < (cp a : Nat)) : (1099511627777 : Int) = (cp a : Nat) := by unfold cp at *; omega
set_option maxRecDepth 10000 in
set_option maxHeartbeats 4000000 in
theorem rwB_spec (g : Grammar) (w : List Int) (hc : CC g w) (l : List Int) (hll : l.length ≤ 4) (hx : ∀ k, k < l.length → 0 ≤ l.getD k 0 ∧ l.getD k 0 < g.k + g.n) (i j : Nat) (hij : i ≤ j) (hj : j ≤ w.length) (ihT : ∀ m, i ≤ m → m < j → btP g w (l.getD 0 0) i m) (ihR : ∀ m, i < m → m ≤ j → brP g w (l.drop 1) m j) (hs : l.length = 1 → btP g w (l.getD 0 0) i j) (L : List BE) (hL : BI g w L) : Dm.SpecH Try.prog 28 [.ptr 0 6 0 0, .sl 1 (i64s l), iv .i64 i, iv .i64 j] (buO g w L) (buR g w (rowN g w l i j)) := by
  refine specH_of_vc mixed Try.func28 c28 (by rw [show Try.f28.ntmps = _ from Try.ntmps28]; simp) ?_
  unfold m28 r28
  have hk := hc.v.k
  have hw := hc.w
  by_cases hsh : j - i < l.length
  · unfold buO
    repeat' first | ((first | refine Br.dec ?_ ?_ | refine Br.eqi ?_ ?_) <;> intro h <;> try (exfalso; omega)) | (simp (disch := first | omega | (simp only [vlen]; first | done | omega)) only [vbe, ↓vAq, vBq, ↓reduceIte, Nat.reduceBEq, Nat.reduceEqDiff, Nat.reduceLT, Nat.reduceLeDiff, Nat.reduceAdd, Nat.reduceMul, Nat.reduceSub, reduceCtorEq, Int.reduceToNat]) | (refine Br.mk ?_ ?_ <;> intro h) | (refine BrN.mk (fun h => ?_) ?_) | (refine AltVC.mk ?_ ?_)
    refine bush_fin (L := L) (by simp (disch := first | omega | (simp only [vlen]; first | done | omega)) only [vbe, ↓vAq, vBq, ↓reduceIte, Nat.reduceBEq, Nat.reduceEqDiff, Nat.reduceLT, Nat.reduceLeDiff, Nat.reduceAdd, Nat.reduceMul, Nat.reduceSub, reduceCtorEq, Int.reduceToNat]) (by unfold buO; simp (disch := first | omega | (simp only [vlen]; first | done | omega)) only [vbe, ↓vAq, vBq, ↓reduceIte, Nat.reduceBEq, Nat.reduceEqDiff, Nat.reduceLT, Nat.reduceLeDiff, Nat.reduceAdd, Nat.reduceMul, Nat.reduceSub, reduceCtorEq, Int.reduceToNat]) ?_ hL
    rw [rowN_short hc.p hsh]; rfl
  by_cases h0 : l.length = 0
  · have h0' := List.eq_nil_of_length_eq_zero h0
    subst h0'
    unfold buO
    repeat' first | ((first | refine Br.dec ?_ ?_ | refine Br.eqi ?_ ?_) <;> intro h <;> try (exfalso; omega)) | (simp (disch := first | omega | (simp only [vlen]; first | done | omega)) only [vbe, ↓vAq, vBq, ↓reduceIte, Nat.reduceBEq, Nat.reduceEqDiff, Nat.reduceLT, Nat.reduceLeDiff, Nat.reduceAdd, Nat.reduceMul, Nat.reduceSub, reduceCtorEq, Int.reduceToNat]) | (refine Br.mk ?_ ?_ <;> intro h) | (refine BrN.mk (fun h => ?_) ?_) | (refine AltVC.mk ?_ ?_)
    · refine bush_fin (L := L) (by simp (disch := first | omega | (simp only [vlen]; first | done | omega)) only [vbe, ↓vAq, vBq, ↓reduceIte, Nat.reduceBEq, Nat.reduceEqDiff, Nat.reduceLT, Nat.reduceLeDiff, Nat.reduceAdd, Nat.reduceMul, Nat.reduceSub, reduceCtorEq, Int.reduceToNat]) (by unfold buO; simp (disch := first | omega | (simp only [vlen]; first | done | omega)) only [vbe, ↓vAq, vBq, ↓reduceIte, Nat.reduceBEq, Nat.reduceEqDiff, Nat.reduceLT, Nat.reduceLeDiff, Nat.reduceAdd, Nat.reduceMul, Nat.reduceSub, reduceCtorEq, Int.reduceToNat]) ?_ hL
      rw [rowN_nil, if_pos (by omega)]; rfl
    · refine bush_fin (L := L) (by simp (disch := first | omega | (simp only [vlen]; first | done | omega)) only [vbe, ↓vAq, vBq, ↓reduceIte, Nat.reduceBEq, Nat.reduceEqDiff, Nat.reduceLT, Nat.reduceLeDiff, Nat.reduceAdd, Nat.reduceMul, Nat.reduceSub, reduceCtorEq, Int.reduceToNat]) (by unfold buO; simp (disch := first | omega | (simp only [vlen]; first | done | omega)) only [vbe, ↓vAq, vBq, ↓reduceIte, Nat.reduceBEq, Nat.reduceEqDiff, Nat.reduceLT, Nat.reduceLeDiff, Nat.reduceAdd, Nat.reduceMul, Nat.reduceSub, reduceCtorEq, Int.reduceToNat]) ?_ hL
      rw [rowN_nil, if_neg (by omega)]; rfl
  by_cases hone : l.length = 1
  · have hS := hs hone L hL
    have e := @rowN_last g w l 0 i j (by omega)
    rw [List.drop_zero] at e
    rw [e]
    unfold buO
    repeat' first | ((first | refine Br.dec ?_ ?_ | refine Br.eqi ?_ ?_) <;> intro h <;> try (exfalso; omega)) | (simp (disch := first | omega | (simp only [vlen]; first | done | omega)) only [vbe, ↓vAq, vBq, ↓reduceIte, Nat.reduceBEq, Nat.reduceEqDiff, Nat.reduceLT, Nat.reduceLeDiff, Nat.reduceAdd, Nat.reduceMul, Nat.reduceSub, reduceCtorEq, Int.reduceToNat]) | (refine Br.mk ?_ ?_ <;> intro h) | (refine BrN.mk (fun h => ?_) ?_) | (refine AltVC.mk ?_ ?_)
    refine CallVC.lendE [0, 1] [.ptr 0 6 0 0, iv .i64 (l.getD 0 0), iv .i64 i, iv .i64 j] (buO g w L) hS (by simp) (by rfl) (by unfold buO; (simp (disch := first | omega | (simp only [vlen]; first | done | omega)) only [vle0, ↓vAq, vBq, ↓reduceIte, Nat.reduceBEq, Nat.reduceEqDiff, Nat.reduceLT, Nat.reduceLeDiff, Nat.reduceAdd, Nat.reduceMul, Nat.reduceSub, reduceCtorEq, Int.reduceToNat] <;> (repeat' first | rfl | apply And.intro))) ?_
    rintro _ _ ⟨L2, rfl, rfl, hL2⟩
    unfold buO
    repeat' first | ((first | refine Br.dec ?_ ?_ | refine Br.eqi ?_ ?_) <;> intro h <;> try (exfalso; omega)) | (simp (disch := first | omega | (simp only [vlen]; first | done | omega)) only [vbe, ↓vAq, vBq, ↓reduceIte, Nat.reduceBEq, Nat.reduceEqDiff, Nat.reduceLT, Nat.reduceLeDiff, Nat.reduceAdd, Nat.reduceMul, Nat.reduceSub, reduceCtorEq, Int.reduceToNat]) | (refine Br.mk ?_ ?_ <;> intro h) | (refine BrN.mk (fun h => ?_) ?_) | (refine AltVC.mk ?_ ?_)
    exact bush_fin (L := L2) (by simp (disch := first | omega | (simp only [vlen]; first | done | omega)) only [vbe, ↓vAq, vBq, ↓reduceIte, Nat.reduceBEq, Nat.reduceEqDiff, Nat.reduceLT, Nat.reduceLeDiff, Nat.reduceAdd, Nat.reduceMul, Nat.reduceSub, reduceCtorEq, Int.reduceToNat]) (by unfold buO; simp (disch := first | omega | (simp only [vlen]; first | done | omega)) only [vbe, ↓vAq, vBq, ↓reduceIte, Nat.reduceBEq, Nat.reduceEqDiff, Nat.reduceLT, Nat.reduceLeDiff, Nat.reduceAdd, Nat.reduceMul, Nat.reduceSub, reduceCtorEq, Int.reduceToNat]) rfl hL2
  · rw [lsF_eq (by omega)]
    unfold buO
    repeat' first | ((first | refine Br.dec ?_ ?_ | refine Br.eqi ?_ ?_) <;> intro h <;> try (exfalso; omega)) | (simp (disch := first | omega | (simp only [vlen]; first | done | omega)) only [vbe, ↓vAq, vBq, ↓reduceIte, Nat.reduceBEq, Nat.reduceEqDiff, Nat.reduceLT, Nat.reduceLeDiff, Nat.reduceAdd, Nat.reduceMul, Nat.reduceSub, reduceCtorEq, Int.reduceToNat]) | (refine Br.mk ?_ ?_ <;> intro h) | (refine BrN.mk (fun h => ?_) ?_) | (refine AltVC.mk ?_ ?_)
    refine LoopVC.mk (X := Nat × List BE) (fun y => [(9, iv .i64 (cp (tsum (lsF g w l i j) (i + 1) y.1))), (10, iv .i64 y.1)]) (fun y => buL g w y.2) (fun y => j - y.1) (fun y => i + 1 ≤ y.1 ∧ y.1 ≤ j ∧ BI g w y.2) (i + 1, L) ⟨Nat.le_refl _, by omega, hL⟩ ?_ ?_
    · unfold buL
      rw [tsum_empty (Nat.le_refl _)]
      (simp (disch := first | omega | (simp only [vlen]; first | done | omega)) only [Fits_u, Fits_m, Fits_nil, List.length_append, vbe, ↓vAq, vBq, ↓reduceIte, Nat.reduceBEq, Nat.reduceEqDiff, Nat.reduceLT, Nat.reduceLeDiff, Nat.reduceAdd, Nat.reduceMul, Nat.reduceSub, reduceCtorEq, Int.reduceToNat] <;> (repeat' first | rfl | apply And.intro))
      all_goals first | rfl | trace_state
    · rintro ⟨m, Lx⟩ ⟨hm1, hm2, hLx⟩
      simp only at hm1 hm2 hLx ⊢
      unfold buL
      have hsl := @cp_le (tsum (lsF g w l i j) (i + 1) m)
      have hpl := @cp_le (lsF g w l i j m)
      by_cases hmj : m < j
      · have hdr : (l.drop 1).length = l.length - 1 := List.length_drop
        repeat' first | ((first | refine Br.dec ?_ ?_ | refine Br.eqi ?_ ?_) <;> intro h <;> try (exfalso; omega)) | (simp (disch := first | omega | (simp only [vlen]; first | done | omega)) only [vbe, ↓vAq, vBq, ↓reduceIte, Nat.reduceBEq, Nat.reduceEqDiff, Nat.reduceLT, Nat.reduceLeDiff, Nat.reduceAdd, Nat.reduceMul, Nat.reduceSub, reduceCtorEq, Int.reduceToNat]) | (refine Br.mk ?_ ?_ <;> intro h) | (refine BrN.mk (fun h => ?_) ?_) | (refine AltVC.mk ?_ ?_)
        refine CallVC.lendE [0, 1] [.ptr 0 6 0 0, .sl 1 (i64s (l.drop 1)), iv .i64 m, iv .i64 j] (buO g w Lx) (ihR m (by omega) (by omega) Lx hLx) (by simp) (by rfl) (by unfold buO; (simp (disch := first | omega | (simp only [vlen]; first | done | omega)) only [vle0, ↓vAq, vBq, ↓reduceIte, Nat.reduceBEq, Nat.reduceEqDiff, Nat.reduceLT, Nat.reduceLeDiff, Nat.reduceAdd, Nat.reduceMul, Nat.reduceSub, reduceCtorEq, Int.reduceToNat] <;> (repeat' first | rfl | apply And.intro))) ?_
        rintro _ _ ⟨L2, rfl, rfl, hL2⟩
        unfold buO
        repeat' first | ((first | refine Br.dec ?_ ?_ | refine Br.eqi ?_ ?_) <;> intro h <;> try (exfalso; omega)) | (simp (disch := first | omega | (simp only [vlen]; first | done | omega)) only [vbe, ↓vAq, vBq, ↓reduceIte, Nat.reduceBEq, Nat.reduceEqDiff, Nat.reduceLT, Nat.reduceLeDiff, Nat.reduceAdd, Nat.reduceMul, Nat.reduceSub, reduceCtorEq, Int.reduceToNat]) | (refine Br.mk ?_ ?_ <;> intro h) | (refine BrN.mk (fun h => ?_) ?_) | (refine AltVC.mk ?_ ?_)
        · refine CallVC.lendE [0, 1] [.ptr 0 6 0 0, iv .i64 (l.getD 0 0), iv .i64 i, iv .i64 m] (buO g w L2) (ihT m (by omega) hmj L2 hL2) (by simp) (by rfl) (by unfold buO; (simp (disch := first | omega | (simp only [vlen]; first | done | omega)) only [vle0, ↓vAq, vBq, ↓reduceIte, Nat.reduceBEq, Nat.reduceEqDiff, Nat.reduceLT, Nat.reduceLeDiff, Nat.reduceAdd, Nat.reduceMul, Nat.reduceSub, reduceCtorEq, Int.reduceToNat] <;> (repeat' first | rfl | apply And.intro))) ?_
          rintro _ _ ⟨L3, rfl, rfl, hL3⟩
          unfold buO
          repeat' first | ((first | refine Br.dec ?_ ?_ | refine Br.eqi ?_ ?_) <;> intro h <;> try (exfalso; omega)) | (simp (disch := first | omega | (simp only [vlen]; first | done | omega)) only [vbe, ↓vAq, vBq, ↓reduceIte, Nat.reduceBEq, Nat.reduceEqDiff, Nat.reduceLT, Nat.reduceLeDiff, Nat.reduceAdd, Nat.reduceMul, Nat.reduceSub, reduceCtorEq, Int.reduceToNat]) | (refine Br.mk ?_ ?_ <;> intro h) | (refine BrN.mk (fun h => ?_) ?_) | (refine AltVC.mk ?_ ?_)
          refine CallVC.eq (capped_cp _ _) ?_
          rw [show trees g w (l.getD 0 0) i m * rowN g w (l.drop 1) m j = lsF g w l i j m from rfl]
          repeat' first | ((first | refine Br.dec ?_ ?_ | refine Br.eqi ?_ ?_) <;> intro h <;> try (exfalso; omega)) | (simp (disch := first | omega | (simp only [vlen]; first | done | omega)) only [vbe, ↓vAq, vBq, ↓reduceIte, Nat.reduceBEq, Nat.reduceEqDiff, Nat.reduceLT, Nat.reduceLeDiff, Nat.reduceAdd, Nat.reduceMul, Nat.reduceSub, reduceCtorEq, Int.reduceToNat]) | (refine Br.mk ?_ ?_ <;> intro h) | (refine BrN.mk (fun h => ?_) ?_) | (refine AltVC.mk ?_ ?_)
          · refine loopK.mk (m + 1, L3) (by simp (disch := first | omega | (simp only [vlen]; first | done | omega)) only [↓vAq, vBq, ↓reduceIte, Nat.reduceBEq, Nat.reduceEqDiff, Nat.reduceLT, Nat.reduceLeDiff, Nat.reduceAdd, Nat.reduceMul, Nat.reduceSub, reduceCtorEq, Int.reduceToNat]) ⟨by show i + 1 ≤ m + 1; omega, by show m + 1 ≤ j; omega, hL3⟩ (by show j - (m + 1) < j - m; omega) ?_
            simp only [tsum_succ hm1, ← bush_cap h]
            (simp (disch := first | omega | (simp only [vlen]; first | done | omega)) only [Fits_u, Fits_m, Fits_nil, List.length_append, vbe, ↓vAq, vBq, ↓reduceIte, Nat.reduceBEq, Nat.reduceEqDiff, Nat.reduceLT, Nat.reduceLeDiff, Nat.reduceAdd, Nat.reduceMul, Nat.reduceSub, reduceCtorEq, Int.reduceToNat] <;> (repeat' first | rfl | apply And.intro))
            all_goals first | rfl | trace_state
          · refine loopK.mk (m + 1, L3) (by simp (disch := first | omega | (simp only [vlen]; first | done | omega)) only [↓vAq, vBq, ↓reduceIte, Nat.reduceBEq, Nat.reduceEqDiff, Nat.reduceLT, Nat.reduceLeDiff, Nat.reduceAdd, Nat.reduceMul, Nat.reduceSub, reduceCtorEq, Int.reduceToNat]) ⟨by show i + 1 ≤ m + 1; omega, by show m + 1 ≤ j; omega, hL3⟩ (by show j - (m + 1) < j - m; omega) ?_
            simp only [tsum_succ hm1, ← bush_sum h]
            (simp (disch := first | omega | (simp only [vlen]; first | done | omega)) only [Fits_u, Fits_m, Fits_nil, List.length_append, vbe, ↓vAq, vBq, ↓reduceIte, Nat.reduceBEq, Nat.reduceEqDiff, Nat.reduceLT, Nat.reduceLeDiff, Nat.reduceAdd, Nat.reduceMul, Nat.reduceSub, reduceCtorEq, Int.reduceToNat] <;> (repeat' first | rfl | apply And.intro))
            all_goals first | rfl | trace_state
        all_goals
          have hz : lsF g w l i j m = 0 := by unfold lsF; rw [(cp_zero (n := rowN g w (l.drop 1) m j)).mp (by omega), Nat.mul_zero]
        · refine loopK.mk (m + 1, L2) (by simp (disch := first | omega | (simp only [vlen]; first | done | omega)) only [↓vAq, vBq, ↓reduceIte, Nat.reduceBEq, Nat.reduceEqDiff, Nat.reduceLT, Nat.reduceLeDiff, Nat.reduceAdd, Nat.reduceMul, Nat.reduceSub, reduceCtorEq, Int.reduceToNat]) ⟨by show i + 1 ≤ m + 1; omega, by show m + 1 ≤ j; omega, hL2⟩ (by show j - (m + 1) < j - m; omega) ?_
          simp only [tsum_succ hm1, hz, Nat.add_zero]
          rw [← bush_no (by assumption)]
          (simp (disch := first | omega | (simp only [vlen]; first | done | omega)) only [Fits_u, Fits_m, Fits_nil, List.length_append, vbe, ↓vAq, vBq, ↓reduceIte, Nat.reduceBEq, Nat.reduceEqDiff, Nat.reduceLT, Nat.reduceLeDiff, Nat.reduceAdd, Nat.reduceMul, Nat.reduceSub, reduceCtorEq, Int.reduceToNat] <;> (repeat' first | rfl | apply And.intro))
          all_goals first | rfl | trace_state
        · refine loopK.mk (m + 1, L2) (by simp (disch := first | omega | (simp only [vlen]; first | done | omega)) only [↓vAq, vBq, ↓reduceIte, Nat.reduceBEq, Nat.reduceEqDiff, Nat.reduceLT, Nat.reduceLeDiff, Nat.reduceAdd, Nat.reduceMul, Nat.reduceSub, reduceCtorEq, Int.reduceToNat]) ⟨by show i + 1 ≤ m + 1; omega, by show m + 1 ≤ j; omega, hL2⟩ (by show j - (m + 1) < j - m; omega) ?_
          simp only [tsum_succ hm1, hz, Nat.add_zero]
          (simp (disch := first | omega | (simp only [vlen]; first | done | omega)) only [Fits_u, Fits_m, Fits_nil, List.length_append, vbe, ↓vAq, vBq, ↓reduceIte, Nat.reduceBEq, Nat.reduceEqDiff, Nat.reduceLT, Nat.reduceLeDiff, Nat.reduceAdd, Nat.reduceMul, Nat.reduceSub, reduceCtorEq, Int.reduceToNat] <;> (repeat' first | rfl | apply And.intro))
          all_goals first | rfl | trace_state
      · have e2 : m = j := by omega
        subst e2
        repeat' first | ((first | refine Br.dec ?_ ?_ | refine Br.eqi ?_ ?_) <;> intro h <;> try (exfalso; omega)) | (simp (disch := first | omega | (simp only [vlen]; first | done | omega)) only [vbe, ↓vAq, vBq, ↓reduceIte, Nat.reduceBEq, Nat.reduceEqDiff, Nat.reduceLT, Nat.reduceLeDiff, Nat.reduceAdd, Nat.reduceMul, Nat.reduceSub, reduceCtorEq, Int.reduceToNat]) | (refine Br.mk ?_ ?_ <;> intro h) | (refine BrN.mk (fun h => ?_) ?_) | (refine AltVC.mk ?_ ?_)
        exact bush_fin (L := Lx) (by simp (disch := first | omega | (simp only [vlen]; first | done | omega)) only [vbe, ↓vAq, vBq, ↓reduceIte, Nat.reduceBEq, Nat.reduceEqDiff, Nat.reduceLT, Nat.reduceLeDiff, Nat.reduceAdd, Nat.reduceMul, Nat.reduceSub, reduceCtorEq, Int.reduceToNat]) (by unfold buO; simp (disch := first | omega | (simp only [vlen]; first | done | omega)) only [vbe, ↓vAq, vBq, ↓reduceIte, Nat.reduceBEq, Nat.reduceEqDiff, Nat.reduceLT, Nat.reduceLeDiff, Nat.reduceAdd, Nat.reduceMul, Nat.reduceSub, reduceCtorEq, Int.reduceToNat]) rfl hLx
theorem bush_all (g : Grammar) (w : List Int) (hc : CC g w) : ∀ n, (∀ x i j, 0 ≤ x → x < g.k + g.n → i ≤ j → j ≤ w.length → j - i < n → btP g w x i j) ∧ (∀ l i j, l.length ≤ 4 → (∀ k, k < l.length → 0 ≤ l.getD k 0 ∧ l.getD k 0 < g.k + g.n) → i ≤ j → j ≤ w.length → j - i < n → brP g w l i j) := by
  intro n
  induction n with
  | zero => exact ⟨fun _ _ _ _ _ _ _ h => absurd h (Nat.not_lt_zero _), fun _ _ _ _ _ _ _ h => absurd h (Nat.not_lt_zero _)⟩
  | succ n ih =>
    have hdx : ∀ l : List Int, (∀ k, k < l.length → 0 ≤ l.getD k 0 ∧ l.getD k 0 < g.k + g.n) → ∀ k, k < (l.drop 1).length → 0 ≤ (l.drop 1).getD k 0 ∧ (l.drop 1).getD k 0 < g.k + g.n := fun l h k hk => by
      rw [List.length_drop] at hk
      have := h (k + 1) (by omega)
      rwa [show (l.drop 1).getD k 0 = l.getD (k + 1) 0 by simp [List.getD, Nat.add_comm]]
    have hR : ∀ l i j, l.length ≤ 4 → (∀ k, k < l.length → 0 ≤ l.getD k 0 ∧ l.getD k 0 < g.k + g.n) → i ≤ j → j ≤ w.length → j - i < n + 1 → (l.length = 1 → btP g w (l.getD 0 0) i j) → brP g w l i j := fun l i j hl hx hij hj hn hs L hL => by
      by_cases h2 : l.length < 2
      · by_cases h1 : l.length = 1
        · refine rwB_spec g w hc l hl hx i j hij hj (fun m h3 h4 => ih.1 _ _ _ (hx 0 (by omega)).1 (hx 0 (by omega)).2 h3 (by omega) (by omega)) (fun m h3 h4 => ih.2 _ m j (by rw [List.length_drop]; omega) (hdx l hx) h4 hj (by omega)) hs L hL
        · have h0 := List.eq_nil_of_length_eq_zero (show l.length = 0 by omega)
          subst h0
          refine rwB_spec g w hc [] (by simp) (by simp) i j hij hj (fun m h3 h4 L hL => ?_) (fun m h3 h4 => ih.2 _ m j (by simp) (by simp) h4 hj (by omega)) hs L hL
          have hk := hc.v.k
          exact trS_spec g w hc 0 i m (by omega) (Int.le_refl 0) h3 (by omega) L hL
      · refine rwB_spec g w hc l hl hx i j hij hj (fun m h3 h4 => ih.1 _ _ _ (hx 0 (by omega)).1 (hx 0 (by omega)).2 h3 (by omega) (by omega)) (fun m h3 h4 => ih.2 _ m j (by rw [List.length_drop]; omega) (hdx l hx) h4 hj (by omega)) hs L hL
    have hT : ∀ x i j, 0 ≤ x → x < g.k + g.n → i ≤ j → j ≤ w.length → j - i < n + 1 → btP g w x i j := fun x i j h0 h1 hij hj hn L hL => by
      by_cases hx : x < g.k
      · exact trS_spec g w hc x i j hx h0 hij hj L hL
      · refine trN_spec g w hc x i j hx h1 hij hj (fun q hq => ?_) L hL
        have hr := getD_mem' (l := g.rules) (i := q) hq
        refine hR _ i j (hc.v.long _ hr) (fun k hk => hc.v.right _ hr _ (getD_mem' (l := (g.rules.getD q default).right) (i := k) hk)) hij hj hn (fun h1 L hL => ?_)
        have hs : (g.rules.getD q default).right = [(g.rules.getD q default).right.getD 0 0] := by
          match hl : (g.rules.getD q default).right, h1 with
          | [s], _ => rfl
        have h0 := hc.v.right _ hr _ (by rw [hs]; simp : (g.rules.getD q default).right.getD 0 0 ∈ (g.rules.getD q default).right)
        exact trS_spec g w hc _ i j ((hc.p _ hr).2 _ hs) h0.1 hij hj L hL
    exact ⟨hT, fun l i j hl hx hij hj hn => hR l i j hl hx hij hj hn fun h1 => hT _ i j (hx 0 (by omega)).1 (hx 0 (by omega)).2 hij hj hn⟩
theorem bushT_spec (g : Grammar) (w : List Int) (hc : CC g w) (x : Int) (i j : Nat) (h0 : 0 ≤ x) (h1 : x < g.k + g.n) (hij : i ≤ j) (hj : j ≤ w.length) : btP g w x i j := (bush_all g w hc (j - i + 1)).1 x i j h0 h1 hij hj (Nat.lt_succ_self _)
theorem bushR_spec (g : Grammar) (w : List Int) (hc : CC g w) (l : List Int) (i j : Nat) (hl : l.length ≤ 4) (hx : ∀ k, k < l.length → 0 ≤ l.getD k 0 ∧ l.getD k 0 < g.k + g.n) (hij : i ≤ j) (hj : j ≤ w.length) : brP g w l i j := (bush_all g w hc (j - i + 1)).2 l i j hl hx hij hj (Nat.lt_succ_self _)
end Go.Proofs.Ytjekkbpdgnohcaa

namespace Go.Proofs.Ytjekkbpdgnohcaa
open Go.Dm
set_option linter.unusedSimpArgs false
set_option linter.unnecessarySimpa false
set_option linter.unusedVariables false
structure VM (m : Dm.Machine) : Prop where
  n : 1 ≤ m.n ∧ m.n ≤ 7
  k : 1 ≤ m.k ∧ m.k ≤ 3
  len : (m.next.length : Int) = m.n
  row : ∀ l, l ∈ m.next → (l.length : Int) = m.k
  to : ∀ l, l ∈ m.next → ∀ x, x ∈ l → 0 ≤ x ∧ x < m.n
  start : 0 ≤ m.start ∧ m.start < m.n
  final : 0 ≤ m.final ∧ m.final.toNat < 2 ^ m.n.toNat
set_option maxRecDepth 10000 in
set_option maxHeartbeats 4000000 in
theorem within_spec (n lo hi : Int) : Dm.Spec Try.prog 67 [iv .i64 n, iv .i64 lo, iv .i64 hi] (· = .v (.bool (decide (lo ≤ n ∧ n ≤ hi)))) := by
  refine spec_of_vc mixed Try.func67 c67 (by rw [show Try.f67.ntmps = _ from Try.ntmps67]; simp) ?_
  unfold m67 r67
  repeat' first | ((first | refine Br.dec ?_ ?_ | refine Br.eqi ?_ ?_) <;> intro h <;> try (exfalso; omega)) | (simp (disch := first | omega | (simp only [vlen]; first | done | omega)) only [↓vAq, vBq, ↓reduceIte, Nat.reduceBEq, Nat.reduceEqDiff, Nat.reduceLT, Nat.reduceLeDiff, Nat.reduceAdd, Nat.reduceMul, Nat.reduceSub, reduceCtorEq, Int.reduceToNat]) | (refine Br.mk ?_ ?_ <;> intro h) | (refine BrN.mk (fun h => ?_) ?_) | (refine AltVC.mk ?_ ?_)
  · exact fin_mk (vbEq (dec_iff (by omega)))
  · exact fin_mk (vbEq (decide_eq_false (by omega)).symm)
end Go.Proofs.Ytjekkbpdgnohcaa
