/-
  table.Counter: how many trees; Sign and Row, by what is known.
-/
import Derived.Test.YthjpahmcgpnogaaTimes
import Derived.Test.YthjpahmcgpnogaaLend
import Derived.Test.YthjpahmcgpnogaaMore
namespace Go.Proofs.Ythjpahmcgpnogaa
open Go.Dm
set_option linter.unusedSimpArgs false
set_option linter.unnecessarySimpa false
set_option linter.unusedVariables false
set_option linter.defProp false

structure KE where
  r : Int
  f : Int
  i : Nat
  j : Nat
  v : Nat
deriving Inhabited
def keD (e : KE) : List D := [iv .i64 e.r, iv .i64 e.f, iv .i64 e.i, iv .i64 e.j, iv .i64 e.v]
theorem keD_eq {e : KE} : keD e = [iv .i64 e.r, iv .i64 e.f, iv .i64 e.i, iv .i64 e.j, iv .i64 e.v] := (rfl)
def kv (g : Grammar) (w : List Int) (r f : Int) (i j : Nat) : Nat := if r < 0 then trees g w f i j else rowN g w ((g.rules.getD r.toNat default).right.drop f.toNat) i j
theorem kv_neg {g : Grammar} {w : List Int} {f : Int} {i j : Nat} : kv g w (-1) f i j = trees g w f i j := by unfold kv; rw [if_pos (by omega)]
theorem kv_nat {g : Grammar} {w : List Int} {q f i j : Nat} : kv g w q f i j = rowN g w ((g.rules.getD q default).right.drop f) i j := by unfold kv; rw [if_neg (by omega), Int.toNat_natCast, Int.toNat_natCast]
/-- What is known is right. -/
def MI (g : Grammar) (w : List Int) (L : List KE) : Prop := ∀ e, e ∈ L → e.v = cp (kv g w e.r e.f e.i e.j)
theorem MI.nil {g : Grammar} {w : List Int} : MI g w [] := fun e h => by cases h
theorem MI.add {g : Grammar} {w : List Int} {L : List KE} (h : MI g w L) {e : KE} (he : e.v = cp (kv g w e.r e.f e.i e.j)) : MI g w (L ++ [e]) := fun x hx => by
  rcases List.mem_append.mp hx with h1 | h1
  · exact h x h1
  · rw [List.mem_singleton.mp h1]; exact he
theorem MI.set {g : Grammar} {w : List Int} {L : List KE} (h : MI g w L) {e : KE} {r : Nat} (he : e.v = cp (kv g w e.r e.f e.i e.j)) : MI g w (L.set r e) := fun x hx => by
  rcases List.mem_or_eq_of_mem_set hx with h1 | h1
  · exact h x h1
  · rw [h1]; exact he
theorem ke_in {g : Grammar} {w : List Int} {L : List KE} (h : MI g w L) {r : Nat} {q f : Int} {i j : Nat} (hr : r < (tbl keD L).length) (he : Agr (((tbl keD L).getD r []).take 4) [.v (.int .i64 q), .v (.int .i64 f), .v (.int .i64 i), .v (.int .i64 j)]) : (tbl keD L).getD r [] = [iv .i64 q, iv .i64 f, iv .i64 i, iv .i64 j, iv .i64 (cp (kv g w q f i j))] := by
  rw [tbl_len] at hr
  rw [tbl_get hr] at he ⊢
  rw [keD_eq] at he ⊢
  simp only [List.take_succ_cons, List.take_zero, Agr_v, D.v.injEq, Value.int.injEq, true_and, Int.natCast_inj] at he
  have hm := h _ (getD_mem' (l := L) (i := r) hr)
  rw [hm, he.1, he.2.1, he.2.2.1, he.2.2.2.1]
theorem ke_app {L : List KE} {q f : Int} {i j v : Nat} : tbl keD L ++ [[D.v (.int .i64 q), D.v (.int .i64 f), D.v (.int .i64 i), D.v (.int .i64 j), D.v (.int .i64 v)]] = tbl keD (L ++ [⟨q, f, i, j, v⟩]) := by rw [tbl_app]; rfl
theorem ke_set {L : List KE} {r : Nat} {q f : Int} {i j v : Nat} : (tbl keD L).set r [D.v (.int .i64 q), D.v (.int .i64 f), D.v (.int .i64 i), D.v (.int .i64 j), D.v (.int .i64 v)] = tbl keD (L.set r ⟨q, f, i, j, v⟩) := by rw [← tbl_set]; rfl
def vke := And.intro vmr <| And.intro @ke_app <| And.intro @ke_set <| And.intro @rulD_eq @Int.add_sub_cancel
def coO (g : Grammar) (w : List Int) (L : List KE) : List Ob := [⟨6, [[iv .i64 g.k, iv .i64 g.n, iv .i64 g.start, .sl 2 (tbl rulD g.rules), .sl 1 (i64s w), .mp 1]], false, false, .fix⟩, ⟨5, tbl keD L, true, false, .map [.i64, .i64, .i64, .i64] true false⟩]
def coR (g : Grammar) (w : List Int) (n : Nat) (d : D) (o : List (Option Ob)) : Prop := ∃ L, d = iv .i64 (cp n) ∧ o = (coO g w L).map some ∧ MI g w L
def sgP (g : Grammar) (w : List Int) (x : Int) (i j : Nat) : Prop := ∀ L, MI g w L → Dm.SpecH Try.prog 78 [.ptr 0 6 0 0, iv .i64 x, .ag [iv .i64 i, iv .i64 j]] (coO g w L) (coR g w (trees g w x i j))
def rwP (g : Grammar) (w : List Int) (q f i j : Nat) : Prop := ∀ L, MI g w L → Dm.SpecH Try.prog 89 [.ptr 0 6 0 0, iv .i64 q, iv .i64 f, .ag [iv .i64 i, iv .i64 j]] (coO g w L) (coR g w (rowN g w ((g.rules.getD q default).right.drop f) i j))
structure CC (g : Grammar) (w : List Int) : Prop where
  v : Valid g
  p : Proper g
  w : w.length ≤ 12
theorem ctr_fin {g : Grammar} {w : List Int} {s : S} {n : Nat} {v : Int} {L : List KE} (h1 : 2 ≤ s.N) (h2 : fitL s 2 0 ((coO g w L).map some)) (hv : v = (cp n : Nat)) (hL : MI g w L) : FinH 2 (coR g w n) s (D.v (.int .i64 v)) :=
  finH_mk ((coO g w L).map some) (by simp [coO]) (by simpa [coO] using h1) (by simpa [coO] using h2) ⟨L, by subst hv; rw [trim_v], rfl, hL⟩
set_option maxRecDepth 10000 in
set_option maxHeartbeats 4000000 in
theorem sgnS_spec (g : Grammar) (w : List Int) (hc : CC g w) (x : Int) (i j : Nat) (hx : x < g.k) (hx0 : 0 ≤ x) (hij : i ≤ j) (hj : j ≤ w.length) (L : List KE) (hL : MI g w L) : Dm.SpecH Try.prog 78 [.ptr 0 6 0 0, iv .i64 x, .ag [iv .i64 i, iv .i64 j]] (coO g w L) (coR g w (trees g w x i j)) := by
  refine specH_of_vc mixed Try.func78 c78 (by rw [show Try.f78.ntmps = _ from Try.ntmps78]; simp) ?_
  unfold m78 r78
  have hk := hc.v.k
  have hw := hc.w
  rw [trees_sym hx]
  unfold coO
  repeat' first | (refine Br.dec (fun h => ?_) (fun h => ?_) <;> try (exfalso; omega)) | (refine Br.eqi (fun h => ?_) (fun h => ?_) <;> try (exfalso; omega)) | (simp (disch := (first | omega | (simp only [vlen]; first | done | omega))) only [vke, ↓va0, ↓va1, ↓va2, ↓va3, vb0, vb1, vb2, vb3, vb4, vb5, vb6, vb7, vb8, vb9, vb10, vz0, vz1, vy0, vx0, ↓reduceIte, Nat.reduceBEq, Nat.reduceEqDiff, Nat.reduceLT, Nat.reduceLeDiff, Nat.reduceAdd, Nat.reduceMul, Nat.reduceSub, reduceCtorEq, Int.reduceToNat]) | (refine Br.mk (fun h => ?_) (fun h => ?_)) | (refine BrN.mk (fun h => ?_) ?_) | (refine AltVC.mk ?_ ?_)
  · refine ctr_fin (L := L) (by simp (disch := (first | omega | (simp only [vlen]; first | done | omega))) only [vke, ↓va0, ↓va1, ↓va2, ↓va3, vb0, vb1, vb2, vb3, vb4, vb5, vb6, vb7, vb8, vb9, vb10, vz0, vz1, vy0, vx0, ↓reduceIte, Nat.reduceBEq, Nat.reduceEqDiff, Nat.reduceLT, Nat.reduceLeDiff, Nat.reduceAdd, Nat.reduceMul, Nat.reduceSub, reduceCtorEq, Int.reduceToNat]) (by unfold coO; simp (disch := (first | omega | (simp only [vlen]; first | done | omega))) only [vke, ↓va0, ↓va1, ↓va2, ↓va3, vb0, vb1, vb2, vb3, vb4, vb5, vb6, vb7, vb8, vb9, vb10, vz0, vz1, vy0, vx0, ↓reduceIte, Nat.reduceBEq, Nat.reduceEqDiff, Nat.reduceLT, Nat.reduceLeDiff, Nat.reduceAdd, Nat.reduceMul, Nat.reduceSub, reduceCtorEq, Int.reduceToNat]) ?_ hL
    unfold symV; rw [if_pos ⟨by omega, by assumption⟩]; rfl
  · refine ctr_fin (L := L) (by simp (disch := (first | omega | (simp only [vlen]; first | done | omega))) only [vke, ↓va0, ↓va1, ↓va2, ↓va3, vb0, vb1, vb2, vb3, vb4, vb5, vb6, vb7, vb8, vb9, vb10, vz0, vz1, vy0, vx0, ↓reduceIte, Nat.reduceBEq, Nat.reduceEqDiff, Nat.reduceLT, Nat.reduceLeDiff, Nat.reduceAdd, Nat.reduceMul, Nat.reduceSub, reduceCtorEq, Int.reduceToNat]) (by unfold coO; simp (disch := (first | omega | (simp only [vlen]; first | done | omega))) only [vke, ↓va0, ↓va1, ↓va2, ↓va3, vb0, vb1, vb2, vb3, vb4, vb5, vb6, vb7, vb8, vb9, vb10, vz0, vz1, vy0, vx0, ↓reduceIte, Nat.reduceBEq, Nat.reduceEqDiff, Nat.reduceLT, Nat.reduceLeDiff, Nat.reduceAdd, Nat.reduceMul, Nat.reduceSub, reduceCtorEq, Int.reduceToNat]) ?_ hL
    unfold symV; rw [if_neg fun h => by have := h.2; contradiction]; rfl
  · refine ctr_fin (L := L) (by simp (disch := (first | omega | (simp only [vlen]; first | done | omega))) only [vke, ↓va0, ↓va1, ↓va2, ↓va3, vb0, vb1, vb2, vb3, vb4, vb5, vb6, vb7, vb8, vb9, vb10, vz0, vz1, vy0, vx0, ↓reduceIte, Nat.reduceBEq, Nat.reduceEqDiff, Nat.reduceLT, Nat.reduceLeDiff, Nat.reduceAdd, Nat.reduceMul, Nat.reduceSub, reduceCtorEq, Int.reduceToNat]) (by unfold coO; simp (disch := (first | omega | (simp only [vlen]; first | done | omega))) only [vke, ↓va0, ↓va1, ↓va2, ↓va3, vb0, vb1, vb2, vb3, vb4, vb5, vb6, vb7, vb8, vb9, vb10, vz0, vz1, vy0, vx0, ↓reduceIte, Nat.reduceBEq, Nat.reduceEqDiff, Nat.reduceLT, Nat.reduceLeDiff, Nat.reduceAdd, Nat.reduceMul, Nat.reduceSub, reduceCtorEq, Int.reduceToNat]) ?_ hL
    unfold symV; rw [if_neg fun h => by have := h.1; omega]; rfl
def rwF (g : Grammar) (w : List Int) (q f i j m : Nat) : Nat := trees g w ((g.rules.getD q default).right.getD f 0) i m * rowN g w ((g.rules.getD q default).right.drop (f + 1)) m j
theorem rwF_eq {g : Grammar} {w : List Int} {q f i j : Nat} (h : f + 1 < (g.rules.getD q default).right.length) : rowN g w ((g.rules.getD q default).right.drop f) i j = tsum (rwF g w q f i j) (i + 1) j := rowN_drop h
def ctO (g : Grammar) (w : List Int) (L : List KE) (q f i j : Nat) : List (Nat × Ob) := [(0, ⟨6, [[iv .i64 g.k, iv .i64 g.n, iv .i64 g.start, .sl 2 (tbl rulD g.rules), .sl 1 (i64s w), .mp 1]], false, false, .fix⟩), (1, ⟨5, tbl keD L, true, false, .map [.i64, .i64, .i64, .i64] true false⟩), (2, ⟨2, [[iv .i64 i, iv .i64 j]], true, false, .fix⟩), (3, ⟨4, [[iv .i64 q, iv .i64 f, iv .i64 i, iv .i64 j]], true, false, .fix⟩)]
set_option maxRecDepth 10000 in
set_option maxHeartbeats 4000000 in
theorem row_spec (g : Grammar) (w : List Int) (hc : CC g w) (n : Nat) (ihS : ∀ x i j, 0 ≤ x → x < g.k + g.n → i ≤ j → j ≤ w.length → j - i < n → sgP g w x i j) (ihR : ∀ q f i j, q < g.rules.length → f < (g.rules.getD q default).right.length → i ≤ j → j ≤ w.length → j - i < n → rwP g w q f i j) (q f i j : Nat) (hq : q < g.rules.length) (hf : f < (g.rules.getD q default).right.length) (hij : i ≤ j) (hj : j ≤ w.length) (hn : j - i ≤ n) (hs : (g.rules.getD q default).right.length = f + 1 → sgP g w ((g.rules.getD q default).right.getD f 0) i j) (L : List KE) (hL : MI g w L) : Dm.SpecH Try.prog 89 [.ptr 0 6 0 0, iv .i64 q, iv .i64 f, .ag [iv .i64 i, iv .i64 j]] (coO g w L) (coR g w (rowN g w ((g.rules.getD q default).right.drop f) i j)) := by
  refine specH_of_vc mixed Try.func89 c89 (by rw [show Try.f89.ntmps = _ from Try.ntmps89]; simp) ?_
  unfold m89 r89
  have hk := hc.v.k
  have hw := hc.w
  have hm : g.rules.getD q default ∈ g.rules := getD_mem' hq
  have hlong := hc.v.long _ hm
  have hlen := hc.v.len
  have hright := hc.v.right _ hm
  have hx : ∀ k, k < (g.rules.getD q default).right.length → 0 ≤ (g.rules.getD q default).right.getD k 0 ∧ (g.rules.getD q default).right.getD k 0 < g.k + g.n := fun k hk => hright _ (getD_mem' (l := (g.rules.getD q default).right) (i := k) hk)
  have hdl : ((g.rules.getD q default).right.drop f).length = (g.rules.getD q default).right.length - f := List.length_drop
  have hd0 : ((g.rules.getD q default).right.drop f).getD 0 0 = (g.rules.getD q default).right.getD f 0 := by simp [List.getD]
  by_cases hsh : j - i < (g.rules.getD q default).right.length - f
  · unfold coO
    repeat' first | (refine Br.dec (fun h => ?_) (fun h => ?_) <;> try (exfalso; omega)) | (refine Br.eqi (fun h => ?_) (fun h => ?_) <;> try (exfalso; omega)) | (simp (disch := (first | omega | (simp only [vlen]; first | done | omega))) only [vke, hdl, ↓va0, ↓va1, ↓va2, ↓va3, vb0, vb1, vb2, vb3, vb4, vb5, vb6, vb7, vb8, vb9, vb10, vz0, vz1, vy0, vx0, ↓reduceIte, Nat.reduceBEq, Nat.reduceEqDiff, Nat.reduceLT, Nat.reduceLeDiff, Nat.reduceAdd, Nat.reduceMul, Nat.reduceSub, reduceCtorEq, Int.reduceToNat]) | (refine Br.mk (fun h => ?_) (fun h => ?_)) | (refine BrN.mk (fun h => ?_) ?_) | (refine AltVC.mk ?_ ?_)
    refine ctr_fin (L := L) (by simp (disch := (first | omega | (simp only [vlen]; first | done | omega))) only [vke, ↓va0, ↓va1, ↓va2, ↓va3, vb0, vb1, vb2, vb3, vb4, vb5, vb6, vb7, vb8, vb9, vb10, vz0, vz1, vy0, vx0, ↓reduceIte, Nat.reduceBEq, Nat.reduceEqDiff, Nat.reduceLT, Nat.reduceLeDiff, Nat.reduceAdd, Nat.reduceMul, Nat.reduceSub, reduceCtorEq, Int.reduceToNat]) (by unfold coO; simp (disch := (first | omega | (simp only [vlen]; first | done | omega))) only [vke, ↓va0, ↓va1, ↓va2, ↓va3, vb0, vb1, vb2, vb3, vb4, vb5, vb6, vb7, vb8, vb9, vb10, vz0, vz1, vy0, vx0, ↓reduceIte, Nat.reduceBEq, Nat.reduceEqDiff, Nat.reduceLT, Nat.reduceLeDiff, Nat.reduceAdd, Nat.reduceMul, Nat.reduceSub, reduceCtorEq, Int.reduceToNat]) ?_ hL
    rw [rowN_short hc.p (by omega)]; rfl
  by_cases hone : (g.rules.getD q default).right.length = f + 1
  · have hS := hs hone L hL
    rw [rowN_last (by omega)]
    unfold coO
    repeat' first | (refine Br.dec (fun h => ?_) (fun h => ?_) <;> try (exfalso; omega)) | (refine Br.eqi (fun h => ?_) (fun h => ?_) <;> try (exfalso; omega)) | (simp (disch := (first | omega | (simp only [vlen]; first | done | omega))) only [vke, hdl, hd0, ↓va0, ↓va1, ↓va2, ↓va3, vb0, vb1, vb2, vb3, vb4, vb5, vb6, vb7, vb8, vb9, vb10, vz0, vz1, vy0, vx0, ↓reduceIte, Nat.reduceBEq, Nat.reduceEqDiff, Nat.reduceLT, Nat.reduceLeDiff, Nat.reduceAdd, Nat.reduceMul, Nat.reduceSub, reduceCtorEq, Int.reduceToNat]) | (refine Br.mk (fun h => ?_) (fun h => ?_)) | (refine BrN.mk (fun h => ?_) ?_) | (refine AltVC.mk ?_ ?_)
    refine CallVC.lendE [0, 1] [.ptr 0 6 0 0, iv .i64 ((g.rules.getD q default).right.getD f 0), .ag [iv .i64 i, iv .i64 j]] (coO g w L) hS (by simp) (by rfl) (by unfold coO; (simp (disch := (first | omega | (simp only [vlen]; first | done | omega))) only [vle0, ↓va0, ↓va1, ↓va2, ↓va3, vb0, vb1, vb2, vb3, vb4, vb5, vb6, vb7, vb8, vb9, vb10, vz0, vz1, vy0, vx0, ↓reduceIte, Nat.reduceBEq, Nat.reduceEqDiff, Nat.reduceLT, Nat.reduceLeDiff, Nat.reduceAdd, Nat.reduceMul, Nat.reduceSub, reduceCtorEq, Int.reduceToNat] <;> (repeat' first | rfl | apply And.intro))) ?_
    rintro _ _ ⟨L2, rfl, rfl, hL2⟩
    unfold coO
    repeat' first | (refine Br.dec (fun h => ?_) (fun h => ?_) <;> try (exfalso; omega)) | (refine Br.eqi (fun h => ?_) (fun h => ?_) <;> try (exfalso; omega)) | (simp (disch := (first | omega | (simp only [vlen]; first | done | omega))) only [vke, ↓va0, ↓va1, ↓va2, ↓va3, vb0, vb1, vb2, vb3, vb4, vb5, vb6, vb7, vb8, vb9, vb10, vz0, vz1, vy0, vx0, ↓reduceIte, Nat.reduceBEq, Nat.reduceEqDiff, Nat.reduceLT, Nat.reduceLeDiff, Nat.reduceAdd, Nat.reduceMul, Nat.reduceSub, reduceCtorEq, Int.reduceToNat]) | (refine Br.mk (fun h => ?_) (fun h => ?_)) | (refine BrN.mk (fun h => ?_) ?_) | (refine AltVC.mk ?_ ?_)
    exact ctr_fin (L := L2) (by simp (disch := (first | omega | (simp only [vlen]; first | done | omega))) only [vke, ↓va0, ↓va1, ↓va2, ↓va3, vb0, vb1, vb2, vb3, vb4, vb5, vb6, vb7, vb8, vb9, vb10, vz0, vz1, vy0, vx0, ↓reduceIte, Nat.reduceBEq, Nat.reduceEqDiff, Nat.reduceLT, Nat.reduceLeDiff, Nat.reduceAdd, Nat.reduceMul, Nat.reduceSub, reduceCtorEq, Int.reduceToNat]) (by unfold coO; simp (disch := (first | omega | (simp only [vlen]; first | done | omega))) only [vke, ↓va0, ↓va1, ↓va2, ↓va3, vb0, vb1, vb2, vb3, vb4, vb5, vb6, vb7, vb8, vb9, vb10, vz0, vz1, vy0, vx0, ↓reduceIte, Nat.reduceBEq, Nat.reduceEqDiff, Nat.reduceLT, Nat.reduceLeDiff, Nat.reduceAdd, Nat.reduceMul, Nat.reduceSub, reduceCtorEq, Int.reduceToNat]) rfl hL2
  · rw [rwF_eq (by omega)]
    have hlen1 : f + 1 < (g.rules.getD q default).right.length := by omega
    unfold coO
    repeat' first | (refine Br.dec (fun h => ?_) (fun h => ?_) <;> try (exfalso; omega)) | (refine Br.eqi (fun h => ?_) (fun h => ?_) <;> try (exfalso; omega)) | (simp (disch := (first | omega | (simp only [vlen]; first | done | omega))) only [vke, hdl, hd0, ↓va0, ↓va1, ↓va2, ↓va3, vb0, vb1, vb2, vb3, vb4, vb5, vb6, vb7, vb8, vb9, vb10, vz0, vz1, vy0, vx0, ↓reduceIte, Nat.reduceBEq, Nat.reduceEqDiff, Nat.reduceLT, Nat.reduceLeDiff, Nat.reduceAdd, Nat.reduceMul, Nat.reduceSub, reduceCtorEq, Int.reduceToNat]) | (refine Br.mk (fun h => ?_) (fun h => ?_)) | (refine BrN.mk (fun h => ?_) ?_) | (refine AltVC.mk ?_ ?_)
    refine BrK.mk (fun r hr he => ?_) (fun hnn => ?_)
    · have hR := ke_in hL hr he
      rw [kv_nat, rwF_eq (by omega)] at hR
      repeat' first | (refine Br.dec (fun h => ?_) (fun h => ?_) <;> try (exfalso; omega)) | (refine Br.eqi (fun h => ?_) (fun h => ?_) <;> try (exfalso; omega)) | (simp (disch := (first | omega | (simp only [vlen]; first | done | omega))) only [vke, hdl, hd0, hR, ↓va0, ↓va1, ↓va2, ↓va3, vb0, vb1, vb2, vb3, vb4, vb5, vb6, vb7, vb8, vb9, vb10, vz0, vz1, vy0, vx0, ↓reduceIte, Nat.reduceBEq, Nat.reduceEqDiff, Nat.reduceLT, Nat.reduceLeDiff, Nat.reduceAdd, Nat.reduceMul, Nat.reduceSub, reduceCtorEq, Int.reduceToNat]) | (refine Br.mk (fun h => ?_) (fun h => ?_)) | (refine BrN.mk (fun h => ?_) ?_) | (refine AltVC.mk ?_ ?_)
      exact ctr_fin (L := L) (by simp (disch := (first | omega | (simp only [vlen]; first | done | omega))) only [vke, ↓va0, ↓va1, ↓va2, ↓va3, vb0, vb1, vb2, vb3, vb4, vb5, vb6, vb7, vb8, vb9, vb10, vz0, vz1, vy0, vx0, ↓reduceIte, Nat.reduceBEq, Nat.reduceEqDiff, Nat.reduceLT, Nat.reduceLeDiff, Nat.reduceAdd, Nat.reduceMul, Nat.reduceSub, reduceCtorEq, Int.reduceToNat]) (by unfold coO; simp (disch := (first | omega | (simp only [vlen]; first | done | omega))) only [vke, ↓va0, ↓va1, ↓va2, ↓va3, vb0, vb1, vb2, vb3, vb4, vb5, vb6, vb7, vb8, vb9, vb10, vz0, vz1, vy0, vx0, ↓reduceIte, Nat.reduceBEq, Nat.reduceEqDiff, Nat.reduceLT, Nat.reduceLeDiff, Nat.reduceAdd, Nat.reduceMul, Nat.reduceSub, reduceCtorEq, Int.reduceToNat]) rfl hL
    · repeat' first | (refine Br.dec (fun h => ?_) (fun h => ?_) <;> try (exfalso; omega)) | (refine Br.eqi (fun h => ?_) (fun h => ?_) <;> try (exfalso; omega)) | (simp (disch := (first | omega | (simp only [vlen]; first | done | omega))) only [vke, hdl, hd0, ↓va0, ↓va1, ↓va2, ↓va3, vb0, vb1, vb2, vb3, vb4, vb5, vb6, vb7, vb8, vb9, vb10, vz0, vz1, vy0, vx0, ↓reduceIte, Nat.reduceBEq, Nat.reduceEqDiff, Nat.reduceLT, Nat.reduceLeDiff, Nat.reduceAdd, Nat.reduceMul, Nat.reduceSub, reduceCtorEq, Int.reduceToNat]) | (refine Br.mk (fun h => ?_) (fun h => ?_)) | (refine BrN.mk (fun h => ?_) ?_) | (refine AltVC.mk ?_ ?_)
      refine LoopVC.mk (X := Nat × List KE) (fun x => [(13, iv .i64 (cp (tsum (rwF g w q f i j) (i + 1) x.1))), (14, iv .i64 x.1)]) (fun x => ctO g w x.2 q f i j) (fun x => j - x.1) (fun x => i + 1 ≤ x.1 ∧ x.1 ≤ j ∧ MI g w x.2) (i + 1, L) ⟨Nat.le_refl _, by omega, hL⟩ ?_ ?_
      · unfold ctO
        rw [tsum_empty (Nat.le_refl _)]
        (simp (disch := (first | omega | (simp only [vlen]; first | done | omega))) only [Fits_u, Fits_m, Fits_nil, List.length_append, vke, ↓va0, ↓va1, ↓va2, ↓va3, vb0, vb1, vb2, vb3, vb4, vb5, vb6, vb7, vb8, vb9, vb10, vz0, vz1, vy0, vx0, ↓reduceIte, Nat.reduceBEq, Nat.reduceEqDiff, Nat.reduceLT, Nat.reduceLeDiff, Nat.reduceAdd, Nat.reduceMul, Nat.reduceSub, reduceCtorEq, Int.reduceToNat] <;> (repeat' first | rfl | apply And.intro))
        all_goals first | rfl | trace_state
      · rintro ⟨e, Lx⟩ ⟨he1, he2, hLx⟩
        simp only at he1 he2 hLx ⊢
        unfold ctO
        by_cases hej : e < j
        · repeat' first | (refine Br.dec (fun h => ?_) (fun h => ?_) <;> try (exfalso; omega)) | (refine Br.eqi (fun h => ?_) (fun h => ?_) <;> try (exfalso; omega)) | (simp (disch := (first | omega | (simp only [vlen]; first | done | omega))) only [vke, hdl, hd0, ↓va0, ↓va1, ↓va2, ↓va3, vb0, vb1, vb2, vb3, vb4, vb5, vb6, vb7, vb8, vb9, vb10, vz0, vz1, vy0, vx0, ↓reduceIte, Nat.reduceBEq, Nat.reduceEqDiff, Nat.reduceLT, Nat.reduceLeDiff, Nat.reduceAdd, Nat.reduceMul, Nat.reduceSub, reduceCtorEq, Int.reduceToNat]) | (refine Br.mk (fun h => ?_) (fun h => ?_)) | (refine BrN.mk (fun h => ?_) ?_) | (refine AltVC.mk ?_ ?_)
          refine CallVC.lendE [0, 1] [.ptr 0 6 0 0, iv .i64 ((g.rules.getD q default).right.getD f 0), .ag [iv .i64 i, iv .i64 e]] (coO g w Lx) (ihS _ i e (hx f hf).1 (hx f hf).2 (by omega) (by omega) (by omega) Lx hLx) (by simp) (by rfl) (by unfold coO; (simp (disch := (first | omega | (simp only [vlen]; first | done | omega))) only [vle0, ↓va0, ↓va1, ↓va2, ↓va3, vb0, vb1, vb2, vb3, vb4, vb5, vb6, vb7, vb8, vb9, vb10, vz0, vz1, vy0, vx0, ↓reduceIte, Nat.reduceBEq, Nat.reduceEqDiff, Nat.reduceLT, Nat.reduceLeDiff, Nat.reduceAdd, Nat.reduceMul, Nat.reduceSub, reduceCtorEq, Int.reduceToNat] <;> (repeat' first | rfl | apply And.intro))) ?_
          rintro _ _ ⟨L2, rfl, rfl, hL2⟩
          unfold coO
          repeat' first | (refine Br.dec (fun h => ?_) (fun h => ?_) <;> try (exfalso; omega)) | (refine Br.eqi (fun h => ?_) (fun h => ?_) <;> try (exfalso; omega)) | (simp (disch := (first | omega | (simp only [vlen]; first | done | omega))) only [vke, hdl, hd0, ↓va0, ↓va1, ↓va2, ↓va3, vb0, vb1, vb2, vb3, vb4, vb5, vb6, vb7, vb8, vb9, vb10, vz0, vz1, vy0, vx0, ↓reduceIte, Nat.reduceBEq, Nat.reduceEqDiff, Nat.reduceLT, Nat.reduceLeDiff, Nat.reduceAdd, Nat.reduceMul, Nat.reduceSub, reduceCtorEq, Int.reduceToNat]) | (refine Br.mk (fun h => ?_) (fun h => ?_)) | (refine BrN.mk (fun h => ?_) ?_) | (refine AltVC.mk ?_ ?_)
          · refine CallVC.lendE [0, 1] [.ptr 0 6 0 0, iv .i64 q, iv .i64 (f + 1 : Nat), .ag [iv .i64 e, iv .i64 j]] (coO g w L2) (ihR q (f + 1) e j hq hlen1 (by omega) (by omega) (by omega) L2 hL2) (by simp) (by rfl) (by unfold coO; (simp (disch := (first | omega | (simp only [vlen]; first | done | omega))) only [vle0, ↓va0, ↓va1, ↓va2, ↓va3, vb0, vb1, vb2, vb3, vb4, vb5, vb6, vb7, vb8, vb9, vb10, vz0, vz1, vy0, vx0, ↓reduceIte, Nat.reduceBEq, Nat.reduceEqDiff, Nat.reduceLT, Nat.reduceLeDiff, Nat.reduceAdd, Nat.reduceMul, Nat.reduceSub, reduceCtorEq, Int.reduceToNat] <;> (repeat' first | rfl | apply And.intro))) ?_
            rintro _ _ ⟨L3, rfl, rfl, hL3⟩
            unfold coO
            repeat' first | (refine Br.dec (fun h => ?_) (fun h => ?_) <;> try (exfalso; omega)) | (refine Br.eqi (fun h => ?_) (fun h => ?_) <;> try (exfalso; omega)) | (simp (disch := (first | omega | (simp only [vlen]; first | done | omega))) only [vke, ↓va0, ↓va1, ↓va2, ↓va3, vb0, vb1, vb2, vb3, vb4, vb5, vb6, vb7, vb8, vb9, vb10, vz0, vz1, vy0, vx0, ↓reduceIte, Nat.reduceBEq, Nat.reduceEqDiff, Nat.reduceLT, Nat.reduceLeDiff, Nat.reduceAdd, Nat.reduceMul, Nat.reduceSub, reduceCtorEq, Int.reduceToNat]) | (refine Br.mk (fun h => ?_) (fun h => ?_)) | (refine BrN.mk (fun h => ?_) ?_) | (refine AltVC.mk ?_ ?_)
            refine CallVC.eq (times_cp _ _) ?_
            repeat' first | (refine Br.dec (fun h => ?_) (fun h => ?_) <;> try (exfalso; omega)) | (refine Br.eqi (fun h => ?_) (fun h => ?_) <;> try (exfalso; omega)) | (simp (disch := (first | omega | (simp only [vlen]; first | done | omega))) only [vke, ↓va0, ↓va1, ↓va2, ↓va3, vb0, vb1, vb2, vb3, vb4, vb5, vb6, vb7, vb8, vb9, vb10, vz0, vz1, vy0, vx0, ↓reduceIte, Nat.reduceBEq, Nat.reduceEqDiff, Nat.reduceLT, Nat.reduceLeDiff, Nat.reduceAdd, Nat.reduceMul, Nat.reduceSub, reduceCtorEq, Int.reduceToNat]) | (refine Br.mk (fun h => ?_) (fun h => ?_)) | (refine BrN.mk (fun h => ?_) ?_) | (refine AltVC.mk ?_ ?_)
            refine CallVC.eq (add_cp _ _) ?_
            repeat' first | (refine Br.dec (fun h => ?_) (fun h => ?_) <;> try (exfalso; omega)) | (refine Br.eqi (fun h => ?_) (fun h => ?_) <;> try (exfalso; omega)) | (simp (disch := (first | omega | (simp only [vlen]; first | done | omega))) only [vke, ↓va0, ↓va1, ↓va2, ↓va3, vb0, vb1, vb2, vb3, vb4, vb5, vb6, vb7, vb8, vb9, vb10, vz0, vz1, vy0, vx0, ↓reduceIte, Nat.reduceBEq, Nat.reduceEqDiff, Nat.reduceLT, Nat.reduceLeDiff, Nat.reduceAdd, Nat.reduceMul, Nat.reduceSub, reduceCtorEq, Int.reduceToNat]) | (refine Br.mk (fun h => ?_) (fun h => ?_)) | (refine BrN.mk (fun h => ?_) ?_) | (refine AltVC.mk ?_ ?_)
            refine loopK.mk (e + 1, L3) (by simp (disch := (first | omega | (simp only [vlen]; first | done | omega))) only [↓va0, ↓va1, ↓va2, ↓va3, vb0, vb1, vb2, vb3, vb4, vb5, vb6, vb7, vb8, vb9, vb10, vz0, vz1, vy0, vx0, ↓reduceIte, Nat.reduceBEq, Nat.reduceEqDiff, Nat.reduceLT, Nat.reduceLeDiff, Nat.reduceAdd, Nat.reduceMul, Nat.reduceSub, reduceCtorEq, Int.reduceToNat]) ⟨by show i + 1 ≤ e + 1; omega, by show e + 1 ≤ j; omega, hL3⟩ (by show j - (e + 1) < j - e; omega) ?_
            simp only [tsum_succ he1]
            (simp (disch := (first | omega | (simp only [vlen]; first | done | omega))) only [Fits_u, Fits_m, Fits_nil, List.length_append, vke, ↓va0, ↓va1, ↓va2, ↓va3, vb0, vb1, vb2, vb3, vb4, vb5, vb6, vb7, vb8, vb9, vb10, vz0, vz1, vy0, vx0, ↓reduceIte, Nat.reduceBEq, Nat.reduceEqDiff, Nat.reduceLT, Nat.reduceLeDiff, Nat.reduceAdd, Nat.reduceMul, Nat.reduceSub, reduceCtorEq, Int.reduceToNat] <;> (repeat' first | rfl | apply And.intro))
            all_goals first | rfl | trace_state
          · refine loopK.mk (e + 1, L2) (by simp (disch := (first | omega | (simp only [vlen]; first | done | omega))) only [↓va0, ↓va1, ↓va2, ↓va3, vb0, vb1, vb2, vb3, vb4, vb5, vb6, vb7, vb8, vb9, vb10, vz0, vz1, vy0, vx0, ↓reduceIte, Nat.reduceBEq, Nat.reduceEqDiff, Nat.reduceLT, Nat.reduceLeDiff, Nat.reduceAdd, Nat.reduceMul, Nat.reduceSub, reduceCtorEq, Int.reduceToNat]) ⟨by show i + 1 ≤ e + 1; omega, by show e + 1 ≤ j; omega, hL2⟩ (by show j - (e + 1) < j - e; omega) ?_
            simp only [tsum_succ he1]
            rw [show rwF g w q f i j e = 0 by unfold rwF; rw [(cp_zero (n := trees g w ((g.rules.getD q default).right.getD f 0) i e)).mp (by omega), Nat.zero_mul], Nat.add_zero]
            (simp (disch := (first | omega | (simp only [vlen]; first | done | omega))) only [Fits_u, Fits_m, Fits_nil, List.length_append, vke, ↓va0, ↓va1, ↓va2, ↓va3, vb0, vb1, vb2, vb3, vb4, vb5, vb6, vb7, vb8, vb9, vb10, vz0, vz1, vy0, vx0, ↓reduceIte, Nat.reduceBEq, Nat.reduceEqDiff, Nat.reduceLT, Nat.reduceLeDiff, Nat.reduceAdd, Nat.reduceMul, Nat.reduceSub, reduceCtorEq, Int.reduceToNat] <;> (repeat' first | rfl | apply And.intro))
            all_goals first | rfl | trace_state
        · have e2 : e = j := by omega
          subst e2
          repeat' first | (refine Br.dec (fun h => ?_) (fun h => ?_) <;> try (exfalso; omega)) | (refine Br.eqi (fun h => ?_) (fun h => ?_) <;> try (exfalso; omega)) | (simp (disch := (first | omega | (simp only [vlen]; first | done | omega))) only [vke, ↓va0, ↓va1, ↓va2, ↓va3, vb0, vb1, vb2, vb3, vb4, vb5, vb6, vb7, vb8, vb9, vb10, vz0, vz1, vy0, vx0, ↓reduceIte, Nat.reduceBEq, Nat.reduceEqDiff, Nat.reduceLT, Nat.reduceLeDiff, Nat.reduceAdd, Nat.reduceMul, Nat.reduceSub, reduceCtorEq, Int.reduceToNat]) | (refine Br.mk (fun h => ?_) (fun h => ?_)) | (refine BrN.mk (fun h => ?_) ?_) | (refine AltVC.mk ?_ ?_)
          refine BrK.mk (fun r hr he => ?_) (fun hnn => ?_)
          · repeat' first | (refine Br.dec (fun h => ?_) (fun h => ?_) <;> try (exfalso; omega)) | (refine Br.eqi (fun h => ?_) (fun h => ?_) <;> try (exfalso; omega)) | (simp (disch := (first | omega | (simp only [vlen]; first | done | omega))) only [vke, ↓va0, ↓va1, ↓va2, ↓va3, vb0, vb1, vb2, vb3, vb4, vb5, vb6, vb7, vb8, vb9, vb10, vz0, vz1, vy0, vx0, ↓reduceIte, Nat.reduceBEq, Nat.reduceEqDiff, Nat.reduceLT, Nat.reduceLeDiff, Nat.reduceAdd, Nat.reduceMul, Nat.reduceSub, reduceCtorEq, Int.reduceToNat]) | (refine Br.mk (fun h => ?_) (fun h => ?_)) | (refine BrN.mk (fun h => ?_) ?_) | (refine AltVC.mk ?_ ?_)
            exact ctr_fin (L := Lx.set r ⟨q, f, i, e, cp (tsum (rwF g w q f i e) (i + 1) e)⟩) (by simp (disch := (first | omega | (simp only [vlen]; first | done | omega))) only [vke, ↓va0, ↓va1, ↓va2, ↓va3, vb0, vb1, vb2, vb3, vb4, vb5, vb6, vb7, vb8, vb9, vb10, vz0, vz1, vy0, vx0, ↓reduceIte, Nat.reduceBEq, Nat.reduceEqDiff, Nat.reduceLT, Nat.reduceLeDiff, Nat.reduceAdd, Nat.reduceMul, Nat.reduceSub, reduceCtorEq, Int.reduceToNat]) (by unfold coO; simp (disch := (first | omega | (simp only [vlen]; first | done | omega))) only [vke, ↓va0, ↓va1, ↓va2, ↓va3, vb0, vb1, vb2, vb3, vb4, vb5, vb6, vb7, vb8, vb9, vb10, vz0, vz1, vy0, vx0, ↓reduceIte, Nat.reduceBEq, Nat.reduceEqDiff, Nat.reduceLT, Nat.reduceLeDiff, Nat.reduceAdd, Nat.reduceMul, Nat.reduceSub, reduceCtorEq, Int.reduceToNat]) rfl (hLx.set (by rw [kv_nat, rwF_eq hlen1]))
          · repeat' first | (refine Br.dec (fun h => ?_) (fun h => ?_) <;> try (exfalso; omega)) | (refine Br.eqi (fun h => ?_) (fun h => ?_) <;> try (exfalso; omega)) | (simp (disch := (first | omega | (simp only [vlen]; first | done | omega))) only [vke, ↓va0, ↓va1, ↓va2, ↓va3, vb0, vb1, vb2, vb3, vb4, vb5, vb6, vb7, vb8, vb9, vb10, vz0, vz1, vy0, vx0, ↓reduceIte, Nat.reduceBEq, Nat.reduceEqDiff, Nat.reduceLT, Nat.reduceLeDiff, Nat.reduceAdd, Nat.reduceMul, Nat.reduceSub, reduceCtorEq, Int.reduceToNat]) | (refine Br.mk (fun h => ?_) (fun h => ?_)) | (refine BrN.mk (fun h => ?_) ?_) | (refine AltVC.mk ?_ ?_)
            exact ctr_fin (L := Lx ++ [⟨q, f, i, e, cp (tsum (rwF g w q f i e) (i + 1) e)⟩]) (by simp (disch := (first | omega | (simp only [vlen]; first | done | omega))) only [vke, ↓va0, ↓va1, ↓va2, ↓va3, vb0, vb1, vb2, vb3, vb4, vb5, vb6, vb7, vb8, vb9, vb10, vz0, vz1, vy0, vx0, ↓reduceIte, Nat.reduceBEq, Nat.reduceEqDiff, Nat.reduceLT, Nat.reduceLeDiff, Nat.reduceAdd, Nat.reduceMul, Nat.reduceSub, reduceCtorEq, Int.reduceToNat]) (by unfold coO; simp (disch := (first | omega | (simp only [vlen]; first | done | omega))) only [vke, ↓va0, ↓va1, ↓va2, ↓va3, vb0, vb1, vb2, vb3, vb4, vb5, vb6, vb7, vb8, vb9, vb10, vz0, vz1, vy0, vx0, ↓reduceIte, Nat.reduceBEq, Nat.reduceEqDiff, Nat.reduceLT, Nat.reduceLeDiff, Nat.reduceAdd, Nat.reduceMul, Nat.reduceSub, reduceCtorEq, Int.reduceToNat]) rfl (hLx.add (by rw [kv_nat, rwF_eq hlen1]))
def csO (g : Grammar) (w : List Int) (L : List KE) (x : Int) (i j : Nat) : List (Nat × Ob) := [(0, ⟨6, [[iv .i64 g.k, iv .i64 g.n, iv .i64 g.start, .sl 2 (tbl rulD g.rules), .sl 1 (i64s w), .mp 1]], false, false, .fix⟩), (1, ⟨5, tbl keD L, true, false, .map [.i64, .i64, .i64, .i64] true false⟩), (2, ⟨2, [[iv .i64 i, iv .i64 j]], true, false, .fix⟩), (3, ⟨4, [[iv .i64 (-1), iv .i64 x, iv .i64 i, iv .i64 j]], true, false, .fix⟩)]
theorem nsum_succ {f : Nat → Nat} {n : Nat} : nsum f (n + 1) = nsum f n + f n := (rfl)
theorem nsum_nil {f : Nat → Nat} : nsum f 0 = 0 := (rfl)
set_option maxRecDepth 10000 in
set_option maxHeartbeats 4000000 in
theorem sgnN_spec (g : Grammar) (w : List Int) (hc : CC g w) (x : Int) (i j : Nat) (hx : ¬ x < g.k) (hx2 : x < g.k + g.n) (hij : i ≤ j) (hj : j ≤ w.length) (ihR : ∀ q, q < g.rules.length → rwP g w q 0 i j) (L : List KE) (hL : MI g w L) : Dm.SpecH Try.prog 78 [.ptr 0 6 0 0, iv .i64 x, .ag [iv .i64 i, iv .i64 j]] (coO g w L) (coR g w (trees g w x i j)) := by
  refine specH_of_vc mixed Try.func78 c78 (by rw [show Try.f78.ntmps = _ from Try.ntmps78]; simp) ?_
  unfold m78 r78
  have hk := hc.v.k
  have hn := hc.v.n
  have hw := hc.w
  have hlen := hc.v.len
  have hleft : ∀ q, q < g.rules.length → 0 ≤ (g.rules.getD q default).left ∧ (g.rules.getD q default).left < g.n := fun q hq => hc.v.left _ (getD_mem' hq)
  unfold coO
  repeat' first | (refine Br.dec (fun h => ?_) (fun h => ?_) <;> try (exfalso; omega)) | (refine Br.eqi (fun h => ?_) (fun h => ?_) <;> try (exfalso; omega)) | (simp (disch := (first | omega | (simp only [vlen]; first | done | omega))) only [vke, ↓va0, ↓va1, ↓va2, ↓va3, vb0, vb1, vb2, vb3, vb4, vb5, vb6, vb7, vb8, vb9, vb10, vz0, vz1, vy0, vx0, ↓reduceIte, Nat.reduceBEq, Nat.reduceEqDiff, Nat.reduceLT, Nat.reduceLeDiff, Nat.reduceAdd, Nat.reduceMul, Nat.reduceSub, reduceCtorEq, Int.reduceToNat]) | (refine Br.mk (fun h => ?_) (fun h => ?_)) | (refine BrN.mk (fun h => ?_) ?_) | (refine AltVC.mk ?_ ?_)
  refine BrK.mk (fun r hr he => ?_) (fun hnn => ?_)
  · have hR := ke_in hL hr he
    rw [kv_neg] at hR
    repeat' first | (refine Br.dec (fun h => ?_) (fun h => ?_) <;> try (exfalso; omega)) | (refine Br.eqi (fun h => ?_) (fun h => ?_) <;> try (exfalso; omega)) | (simp (disch := (first | omega | (simp only [vlen]; first | done | omega))) only [vke, hR, ↓va0, ↓va1, ↓va2, ↓va3, vb0, vb1, vb2, vb3, vb4, vb5, vb6, vb7, vb8, vb9, vb10, vz0, vz1, vy0, vx0, ↓reduceIte, Nat.reduceBEq, Nat.reduceEqDiff, Nat.reduceLT, Nat.reduceLeDiff, Nat.reduceAdd, Nat.reduceMul, Nat.reduceSub, reduceCtorEq, Int.reduceToNat]) | (refine Br.mk (fun h => ?_) (fun h => ?_)) | (refine BrN.mk (fun h => ?_) ?_) | (refine AltVC.mk ?_ ?_)
    exact ctr_fin (L := L) (by simp (disch := (first | omega | (simp only [vlen]; first | done | omega))) only [vke, ↓va0, ↓va1, ↓va2, ↓va3, vb0, vb1, vb2, vb3, vb4, vb5, vb6, vb7, vb8, vb9, vb10, vz0, vz1, vy0, vx0, ↓reduceIte, Nat.reduceBEq, Nat.reduceEqDiff, Nat.reduceLT, Nat.reduceLeDiff, Nat.reduceAdd, Nat.reduceMul, Nat.reduceSub, reduceCtorEq, Int.reduceToNat]) (by unfold coO; simp (disch := (first | omega | (simp only [vlen]; first | done | omega))) only [vke, ↓va0, ↓va1, ↓va2, ↓va3, vb0, vb1, vb2, vb3, vb4, vb5, vb6, vb7, vb8, vb9, vb10, vz0, vz1, vy0, vx0, ↓reduceIte, Nat.reduceBEq, Nat.reduceEqDiff, Nat.reduceLT, Nat.reduceLeDiff, Nat.reduceAdd, Nat.reduceMul, Nat.reduceSub, reduceCtorEq, Int.reduceToNat]) rfl hL
  · repeat' first | (refine Br.dec (fun h => ?_) (fun h => ?_) <;> try (exfalso; omega)) | (refine Br.eqi (fun h => ?_) (fun h => ?_) <;> try (exfalso; omega)) | (simp (disch := (first | omega | (simp only [vlen]; first | done | omega))) only [vke, ↓va0, ↓va1, ↓va2, ↓va3, vb0, vb1, vb2, vb3, vb4, vb5, vb6, vb7, vb8, vb9, vb10, vz0, vz1, vy0, vx0, ↓reduceIte, Nat.reduceBEq, Nat.reduceEqDiff, Nat.reduceLT, Nat.reduceLeDiff, Nat.reduceAdd, Nat.reduceMul, Nat.reduceSub, reduceCtorEq, Int.reduceToNat]) | (refine Br.mk (fun h => ?_) (fun h => ?_)) | (refine BrN.mk (fun h => ?_) ?_) | (refine AltVC.mk ?_ ?_)
    refine LoopVC.mk (X := Nat × List KE) (fun y => [(10, iv .i64 (cp (nsum (ruleV g w x i j) y.1))), (58, iv .i64 y.1)]) (fun y => csO g w y.2 x i j) (fun y => g.rules.length - y.1) (fun y => y.1 ≤ g.rules.length ∧ MI g w y.2) (0, L) ⟨Nat.zero_le _, hL⟩ ?_ ?_
    · unfold csO
      (simp (disch := (first | omega | (simp only [vlen]; first | done | omega))) only [Fits_u, Fits_m, Fits_nil, List.length_append, vke, ↓va0, ↓va1, ↓va2, ↓va3, vb0, vb1, vb2, vb3, vb4, vb5, vb6, vb7, vb8, vb9, vb10, vz0, vz1, vy0, vx0, ↓reduceIte, Nat.reduceBEq, Nat.reduceEqDiff, Nat.reduceLT, Nat.reduceLeDiff, Nat.reduceAdd, Nat.reduceMul, Nat.reduceSub, reduceCtorEq, Int.reduceToNat] <;> (repeat' first | rfl | apply And.intro))
      all_goals first | rfl | trace_state
    · rintro ⟨q, Lx⟩ ⟨hq1, hLx⟩
      simp only at hq1 hLx ⊢
      unfold csO
      by_cases hq : q < g.rules.length
      · have hlq := hleft q hq
        by_cases hlx : (g.rules.getD q default).left = x - g.k
        · repeat' first | (refine Br.dec (fun h => ?_) (fun h => ?_) <;> try (exfalso; omega)) | (refine Br.eqi (fun h => ?_) (fun h => ?_) <;> try (exfalso; omega)) | (simp (disch := (first | omega | (simp only [vlen]; first | done | omega))) only [vke, ↓va0, ↓va1, ↓va2, ↓va3, vb0, vb1, vb2, vb3, vb4, vb5, vb6, vb7, vb8, vb9, vb10, vz0, vz1, vy0, vx0, ↓reduceIte, Nat.reduceBEq, Nat.reduceEqDiff, Nat.reduceLT, Nat.reduceLeDiff, Nat.reduceAdd, Nat.reduceMul, Nat.reduceSub, reduceCtorEq, Int.reduceToNat]) | (refine Br.mk (fun h => ?_) (fun h => ?_)) | (refine BrN.mk (fun h => ?_) ?_) | (refine AltVC.mk ?_ ?_)
          refine CallVC.lendE [0, 1] [.ptr 0 6 0 0, iv .i64 q, iv .i64 (0 : Nat), .ag [iv .i64 i, iv .i64 j]] (coO g w Lx) (ihR q hq Lx hLx) (by simp) (by rfl) (by unfold coO; (simp (disch := (first | omega | (simp only [vlen]; first | done | omega))) only [vle0, ↓va0, ↓va1, ↓va2, ↓va3, vb0, vb1, vb2, vb3, vb4, vb5, vb6, vb7, vb8, vb9, vb10, vz0, vz1, vy0, vx0, ↓reduceIte, Nat.reduceBEq, Nat.reduceEqDiff, Nat.reduceLT, Nat.reduceLeDiff, Nat.reduceAdd, Nat.reduceMul, Nat.reduceSub, reduceCtorEq, Int.reduceToNat] <;> (repeat' first | rfl | apply And.intro))) ?_
          rintro _ _ ⟨L2, rfl, rfl, hL2⟩
          unfold coO
          repeat' first | (refine Br.dec (fun h => ?_) (fun h => ?_) <;> try (exfalso; omega)) | (refine Br.eqi (fun h => ?_) (fun h => ?_) <;> try (exfalso; omega)) | (simp (disch := (first | omega | (simp only [vlen]; first | done | omega))) only [vke, ↓va0, ↓va1, ↓va2, ↓va3, vb0, vb1, vb2, vb3, vb4, vb5, vb6, vb7, vb8, vb9, vb10, vz0, vz1, vy0, vx0, ↓reduceIte, Nat.reduceBEq, Nat.reduceEqDiff, Nat.reduceLT, Nat.reduceLeDiff, Nat.reduceAdd, Nat.reduceMul, Nat.reduceSub, reduceCtorEq, Int.reduceToNat]) | (refine Br.mk (fun h => ?_) (fun h => ?_)) | (refine BrN.mk (fun h => ?_) ?_) | (refine AltVC.mk ?_ ?_)
          refine CallVC.eq (add_cp _ _) ?_
          repeat' first | (refine Br.dec (fun h => ?_) (fun h => ?_) <;> try (exfalso; omega)) | (refine Br.eqi (fun h => ?_) (fun h => ?_) <;> try (exfalso; omega)) | (simp (disch := (first | omega | (simp only [vlen]; first | done | omega))) only [vke, ↓va0, ↓va1, ↓va2, ↓va3, vb0, vb1, vb2, vb3, vb4, vb5, vb6, vb7, vb8, vb9, vb10, vz0, vz1, vy0, vx0, ↓reduceIte, Nat.reduceBEq, Nat.reduceEqDiff, Nat.reduceLT, Nat.reduceLeDiff, Nat.reduceAdd, Nat.reduceMul, Nat.reduceSub, reduceCtorEq, Int.reduceToNat]) | (refine Br.mk (fun h => ?_) (fun h => ?_)) | (refine BrN.mk (fun h => ?_) ?_) | (refine AltVC.mk ?_ ?_)
          refine loopK.mk (q + 1, L2) (by simp (disch := (first | omega | (simp only [vlen]; first | done | omega))) only [↓va0, ↓va1, ↓va2, ↓va3, vb0, vb1, vb2, vb3, vb4, vb5, vb6, vb7, vb8, vb9, vb10, vz0, vz1, vy0, vx0, ↓reduceIte, Nat.reduceBEq, Nat.reduceEqDiff, Nat.reduceLT, Nat.reduceLeDiff, Nat.reduceAdd, Nat.reduceMul, Nat.reduceSub, reduceCtorEq, Int.reduceToNat]) ⟨by show q + 1 ≤ g.rules.length; omega, hL2⟩ (by show g.rules.length - (q + 1) < g.rules.length - q; omega) ?_
          simp only [nsum_succ]
          rw [show ruleV g w x i j q = rowN g w ((g.rules.getD q default).right.drop 0) i j by unfold ruleV; rw [if_pos hlx]; rfl]
          (simp (disch := (first | omega | (simp only [vlen]; first | done | omega))) only [Fits_u, Fits_m, Fits_nil, List.length_append, vke, ↓va0, ↓va1, ↓va2, ↓va3, vb0, vb1, vb2, vb3, vb4, vb5, vb6, vb7, vb8, vb9, vb10, vz0, vz1, vy0, vx0, ↓reduceIte, Nat.reduceBEq, Nat.reduceEqDiff, Nat.reduceLT, Nat.reduceLeDiff, Nat.reduceAdd, Nat.reduceMul, Nat.reduceSub, reduceCtorEq, Int.reduceToNat] <;> (repeat' first | rfl | apply And.intro))
          all_goals first | rfl | trace_state
        · repeat' first | (refine Br.dec (fun h => ?_) (fun h => ?_) <;> try (exfalso; omega)) | (refine Br.eqi (fun h => ?_) (fun h => ?_) <;> try (exfalso; omega)) | (simp (disch := (first | omega | (simp only [vlen]; first | done | omega))) only [vke, ↓va0, ↓va1, ↓va2, ↓va3, vb0, vb1, vb2, vb3, vb4, vb5, vb6, vb7, vb8, vb9, vb10, vz0, vz1, vy0, vx0, ↓reduceIte, Nat.reduceBEq, Nat.reduceEqDiff, Nat.reduceLT, Nat.reduceLeDiff, Nat.reduceAdd, Nat.reduceMul, Nat.reduceSub, reduceCtorEq, Int.reduceToNat]) | (refine Br.mk (fun h => ?_) (fun h => ?_)) | (refine BrN.mk (fun h => ?_) ?_) | (refine AltVC.mk ?_ ?_)
          refine loopK.mk (q + 1, Lx) (by simp (disch := (first | omega | (simp only [vlen]; first | done | omega))) only [↓va0, ↓va1, ↓va2, ↓va3, vb0, vb1, vb2, vb3, vb4, vb5, vb6, vb7, vb8, vb9, vb10, vz0, vz1, vy0, vx0, ↓reduceIte, Nat.reduceBEq, Nat.reduceEqDiff, Nat.reduceLT, Nat.reduceLeDiff, Nat.reduceAdd, Nat.reduceMul, Nat.reduceSub, reduceCtorEq, Int.reduceToNat]) ⟨by show q + 1 ≤ g.rules.length; omega, hLx⟩ (by show g.rules.length - (q + 1) < g.rules.length - q; omega) ?_
          simp only [nsum_succ]
          rw [show ruleV g w x i j q = 0 by unfold ruleV; rw [if_neg hlx], Nat.add_zero]
          (simp (disch := (first | omega | (simp only [vlen]; first | done | omega))) only [Fits_u, Fits_m, Fits_nil, List.length_append, vke, ↓va0, ↓va1, ↓va2, ↓va3, vb0, vb1, vb2, vb3, vb4, vb5, vb6, vb7, vb8, vb9, vb10, vz0, vz1, vy0, vx0, ↓reduceIte, Nat.reduceBEq, Nat.reduceEqDiff, Nat.reduceLT, Nat.reduceLeDiff, Nat.reduceAdd, Nat.reduceMul, Nat.reduceSub, reduceCtorEq, Int.reduceToNat] <;> (repeat' first | rfl | apply And.intro))
          all_goals first | rfl | trace_state
      · have e2 : q = g.rules.length := by omega
        subst e2
        rw [← trees_name hc.p hx]
        repeat' first | (refine Br.dec (fun h => ?_) (fun h => ?_) <;> try (exfalso; omega)) | (refine Br.eqi (fun h => ?_) (fun h => ?_) <;> try (exfalso; omega)) | (simp (disch := (first | omega | (simp only [vlen]; first | done | omega))) only [vke, ↓va0, ↓va1, ↓va2, ↓va3, vb0, vb1, vb2, vb3, vb4, vb5, vb6, vb7, vb8, vb9, vb10, vz0, vz1, vy0, vx0, ↓reduceIte, Nat.reduceBEq, Nat.reduceEqDiff, Nat.reduceLT, Nat.reduceLeDiff, Nat.reduceAdd, Nat.reduceMul, Nat.reduceSub, reduceCtorEq, Int.reduceToNat]) | (refine Br.mk (fun h => ?_) (fun h => ?_)) | (refine BrN.mk (fun h => ?_) ?_) | (refine AltVC.mk ?_ ?_)
        refine BrK.mk (fun r hr he => ?_) (fun hnn => ?_)
        · repeat' first | (refine Br.dec (fun h => ?_) (fun h => ?_) <;> try (exfalso; omega)) | (refine Br.eqi (fun h => ?_) (fun h => ?_) <;> try (exfalso; omega)) | (simp (disch := (first | omega | (simp only [vlen]; first | done | omega))) only [vke, ↓va0, ↓va1, ↓va2, ↓va3, vb0, vb1, vb2, vb3, vb4, vb5, vb6, vb7, vb8, vb9, vb10, vz0, vz1, vy0, vx0, ↓reduceIte, Nat.reduceBEq, Nat.reduceEqDiff, Nat.reduceLT, Nat.reduceLeDiff, Nat.reduceAdd, Nat.reduceMul, Nat.reduceSub, reduceCtorEq, Int.reduceToNat]) | (refine Br.mk (fun h => ?_) (fun h => ?_)) | (refine BrN.mk (fun h => ?_) ?_) | (refine AltVC.mk ?_ ?_)
          exact ctr_fin (L := Lx.set r ⟨-1, x, i, j, cp (trees g w x i j)⟩) (by simp (disch := (first | omega | (simp only [vlen]; first | done | omega))) only [vke, ↓va0, ↓va1, ↓va2, ↓va3, vb0, vb1, vb2, vb3, vb4, vb5, vb6, vb7, vb8, vb9, vb10, vz0, vz1, vy0, vx0, ↓reduceIte, Nat.reduceBEq, Nat.reduceEqDiff, Nat.reduceLT, Nat.reduceLeDiff, Nat.reduceAdd, Nat.reduceMul, Nat.reduceSub, reduceCtorEq, Int.reduceToNat]) (by unfold coO; simp (disch := (first | omega | (simp only [vlen]; first | done | omega))) only [vke, ↓va0, ↓va1, ↓va2, ↓va3, vb0, vb1, vb2, vb3, vb4, vb5, vb6, vb7, vb8, vb9, vb10, vz0, vz1, vy0, vx0, ↓reduceIte, Nat.reduceBEq, Nat.reduceEqDiff, Nat.reduceLT, Nat.reduceLeDiff, Nat.reduceAdd, Nat.reduceMul, Nat.reduceSub, reduceCtorEq, Int.reduceToNat]) rfl (hLx.set (by rw [kv_neg]))
        · repeat' first | (refine Br.dec (fun h => ?_) (fun h => ?_) <;> try (exfalso; omega)) | (refine Br.eqi (fun h => ?_) (fun h => ?_) <;> try (exfalso; omega)) | (simp (disch := (first | omega | (simp only [vlen]; first | done | omega))) only [vke, ↓va0, ↓va1, ↓va2, ↓va3, vb0, vb1, vb2, vb3, vb4, vb5, vb6, vb7, vb8, vb9, vb10, vz0, vz1, vy0, vx0, ↓reduceIte, Nat.reduceBEq, Nat.reduceEqDiff, Nat.reduceLT, Nat.reduceLeDiff, Nat.reduceAdd, Nat.reduceMul, Nat.reduceSub, reduceCtorEq, Int.reduceToNat]) | (refine Br.mk (fun h => ?_) (fun h => ?_)) | (refine BrN.mk (fun h => ?_) ?_) | (refine AltVC.mk ?_ ?_)
          exact ctr_fin (L := Lx ++ [⟨-1, x, i, j, cp (trees g w x i j)⟩]) (by simp (disch := (first | omega | (simp only [vlen]; first | done | omega))) only [vke, ↓va0, ↓va1, ↓va2, ↓va3, vb0, vb1, vb2, vb3, vb4, vb5, vb6, vb7, vb8, vb9, vb10, vz0, vz1, vy0, vx0, ↓reduceIte, Nat.reduceBEq, Nat.reduceEqDiff, Nat.reduceLT, Nat.reduceLeDiff, Nat.reduceAdd, Nat.reduceMul, Nat.reduceSub, reduceCtorEq, Int.reduceToNat]) (by unfold coO; simp (disch := (first | omega | (simp only [vlen]; first | done | omega))) only [vke, ↓va0, ↓va1, ↓va2, ↓va3, vb0, vb1, vb2, vb3, vb4, vb5, vb6, vb7, vb8, vb9, vb10, vz0, vz1, vy0, vx0, ↓reduceIte, Nat.reduceBEq, Nat.reduceEqDiff, Nat.reduceLT, Nat.reduceLeDiff, Nat.reduceAdd, Nat.reduceMul, Nat.reduceSub, reduceCtorEq, Int.reduceToNat]) rfl (hLx.add (by rw [kv_neg]))
theorem counter_all (g : Grammar) (w : List Int) (hc : CC g w) : ∀ n, (∀ x i j, 0 ≤ x → x < g.k + g.n → i ≤ j → j ≤ w.length → j - i < n → sgP g w x i j) ∧ (∀ q f i j, q < g.rules.length → f < (g.rules.getD q default).right.length → i ≤ j → j ≤ w.length → j - i < n → rwP g w q f i j) := by
  intro n
  induction n with
  | zero => exact ⟨fun _ _ _ _ _ _ _ h => absurd h (Nat.not_lt_zero _), fun _ _ _ _ _ _ _ _ h => absurd h (Nat.not_lt_zero _)⟩
  | succ n ih =>
    have hR0 : ∀ i j, i ≤ j → j ≤ w.length → j - i < n + 1 → ∀ q, q < g.rules.length → rwP g w q 0 i j := fun i j hij hj hn q hq L hL => by
      have hp := hc.p _ (getD_mem' (l := g.rules) (i := q) hq)
      refine row_spec g w hc n ih.1 ih.2 q 0 i j hq (List.length_pos_iff.mpr hp.1) hij hj (by omega) (fun h1 L hL => ?_) L hL
      have hs : (g.rules.getD q default).right = [(g.rules.getD q default).right.getD 0 0] := by
        match hl : (g.rules.getD q default).right, h1 with
        | [s], _ => rfl
      have h0 := hc.v.right _ (getD_mem' (l := g.rules) (i := q) hq) _ (by rw [hs]; simp : (g.rules.getD q default).right.getD 0 0 ∈ (g.rules.getD q default).right)
      exact sgnS_spec g w hc _ i j (hp.2 _ hs) h0.1 hij hj L hL
    have hS : ∀ x i j, 0 ≤ x → x < g.k + g.n → i ≤ j → j ≤ w.length → j - i < n + 1 → sgP g w x i j := fun x i j h0 h1 hij hj hn L hL => by
      by_cases hx : x < g.k
      · exact sgnS_spec g w hc x i j hx h0 hij hj L hL
      · exact sgnN_spec g w hc x i j hx h1 hij hj (hR0 i j hij hj hn) L hL
    refine ⟨hS, fun q f i j hq hf hij hj hn L hL => row_spec g w hc n ih.1 ih.2 q f i j hq hf hij hj (by omega) (fun h1 => ?_) L hL⟩
    have h0 := hc.v.right _ (getD_mem' (l := g.rules) (i := q) hq) _ (getD_mem' (l := (g.rules.getD q default).right) (i := f) hf)
    exact hS _ i j h0.1 h0.2 hij hj hn
theorem sign_spec (g : Grammar) (w : List Int) (hc : CC g w) (x : Int) (i j : Nat) (h0 : 0 ≤ x) (h1 : x < g.k + g.n) (hij : i ≤ j) (hj : j ≤ w.length) : sgP g w x i j := (counter_all g w hc (j - i + 1)).1 x i j h0 h1 hij hj (Nat.lt_succ_self _)
theorem rowC_spec (g : Grammar) (w : List Int) (hc : CC g w) (q f i j : Nat) (hq : q < g.rules.length) (hf : f < (g.rules.getD q default).right.length) (hij : i ≤ j) (hj : j ≤ w.length) : rwP g w q f i j := (counter_all g w hc (j - i + 1)).2 q f i j hq hf hij hj (Nat.lt_succ_self _)
end Go.Proofs.Ythjpahmcgpnogaa
