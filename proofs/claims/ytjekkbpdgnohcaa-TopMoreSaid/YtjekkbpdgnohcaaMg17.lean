/-
 Texts of this claim, one behind another.
-/
import Derived.Test.YtjekkbpdgnohcaaMg16
import Derived.Test.YtjekkbpdgnohcaaMg13
import Derived.Test.YtjekkbpdgnohcaaMg11
namespace Go.Proofs.Ytjekkbpdgnohcaa
open Go.Dm
set_option linter.unusedSimpArgs false
set_option linter.unnecessarySimpa false
set_option linter.unusedVariables false
set_option linter.defProp false
def kw (w : List Int) : List D := (w ++ List.replicate (12 - w.length) 0).map (iv .i64)
theorem kw_len {w : List Int} (h : w.length ≤ 12) : (kw w).length = 12 := by simp [kw]; omega
theorem kw_take {w : List Int} {r : List D} (h : w.length ≤ 12) : (kw w ++ r).take 12 = kw w := by
  rw [List.take_append_of_le_length (by rw [kw_len h]; exact Nat.le_refl _), List.take_of_length_le (by rw [kw_len h]; exact Nat.le_refl _)]
theorem kw_take' {w : List Int} (h : w.length ≤ 12) : (kw w).take 12 = kw w := List.take_of_length_le (by rw [kw_len h]; exact Nat.le_refl _)
theorem kw_drop {w : List Int} {r : List D} (h : w.length ≤ 12) : (kw w ++ r).drop 12 = r := by
  rw [List.drop_append_of_le_length (by rw [kw_len h]; exact Nat.le_refl _), List.drop_of_length_le (by rw [kw_len h]; exact Nat.le_refl _)]; rfl
theorem kw_cpy {w : List Int} {x : D} (h : w.length ≤ 12) : cpyD 12 (i64s w) ++ List.drop (1 + (cpyD 12 (i64s w)).length) [x, D.v (.int .i64 0), D.v (.int .i64 0), D.v (.int .i64 0), D.v (.int .i64 0), D.v (.int .i64 0), D.v (.int .i64 0), D.v (.int .i64 0), D.v (.int .i64 0), D.v (.int .i64 0), D.v (.int .i64 0), D.v (.int .i64 0), D.v (.int .i64 0)] = kw w := by
  have e : cpyD 12 (i64s w) = w.map (iv .i64) := by
    unfold cpyD i64s
    rw [List.take_of_length_le (by simpa using h), List.map_map]
    rfl
  rw [e, List.length_map]
  have e2 : ([x, D.v (.int .i64 0), D.v (.int .i64 0), D.v (.int .i64 0), D.v (.int .i64 0), D.v (.int .i64 0), D.v (.int .i64 0), D.v (.int .i64 0), D.v (.int .i64 0), D.v (.int .i64 0), D.v (.int .i64 0), D.v (.int .i64 0), D.v (.int .i64 0)] : List D) = x :: List.replicate 12 (iv .i64 0) := rfl
  rw [e2, Nat.add_comm, List.drop_succ_cons, List.drop_replicate]
  simp [kw]
abbrev akK : Kd := .map [.i64, .i64, .i64, .i64, .i64, .i64, .i64, .i64, .i64, .i64, .i64, .i64, .i64] true true
theorem keyP_ints : ∀ {l : List Int}, (∀ x, x ∈ l → ok64 x) → keyP (List.replicate l.length .i64) (l.map (iv .i64))
  | [], _ => trivial
  | x :: l, h => by
    rw [List.length_cons, List.replicate_succ, List.map_cons]
    show keyP (.i64 :: _) (D.v (.int .i64 x) :: _)
    rw [keyP_i64]
    exact ⟨h x (by simp), keyP_ints fun y hy => h y (by simp [hy])⟩
theorem keyP_kw {w : List Int} (h : w.length ≤ 12 ∧ ∀ x, x ∈ w → ok64 x) : keyP [.i64, .i64, .i64, .i64, .i64, .i64, .i64, .i64, .i64, .i64, .i64, .i64] (kw w) = True := by
  have hl : (w ++ List.replicate (12 - w.length) (0 : Int)).length = 12 := by simp; omega
  have := keyP_ints (l := w ++ List.replicate (12 - w.length) 0) (fun x hx => by
    rcases List.mem_append.1 hx with hx | hx
    · exact h.2 x hx
    · rw [List.eq_of_mem_replicate hx]; exact ⟨by decide, by decide⟩)
  rw [hl] at this
  exact eq_true this
theorem Agr_ints : ∀ {a b : List Int}, a.length = b.length → Agr (a.map (iv .i64)) (b.map (iv .i64)) → a = b
  | [], [], _, _ => rfl
  | [], _ :: _, h, _ => by simp at h
  | _ :: _, [], h, _ => by simp at h
  | x :: a, y :: b, h, he => by
    rw [List.map_cons, List.map_cons] at he
    have he : iv .i64 x = iv .i64 y ∧ Agr (a.map (iv .i64)) (b.map (iv .i64)) := he
    have e : x = y := by have := he.1; simpa [iv] using this
    rw [e, Agr_ints (by simpa using h) he.2]
structure AK where
  w : List Int
  n : Int
  c : Int
instance : Inhabited AK := ⟨⟨[], 0, 0⟩⟩
def akD (e : AK) : List D := iv .i64 e.w.length :: (kw e.w ++ [iv .i64 e.n, iv .i64 e.c])
def akN (g : Grammar) (w : List Int) : Int := if trC g w = 0 then (trN g w : Int) else 0
def MA (g : Grammar) (L : List AK) : Prop := ∀ e, e ∈ L → e.w.length ≤ 12 ∧ e.n = akN g e.w ∧ e.c = trC g e.w
theorem MA.nil {g : Grammar} : MA g [] := fun e h => by cases h
theorem MA.add {g : Grammar} {L : List AK} (h : MA g L) {w : List Int} (hw : w.length ≤ 12) : MA g (L ++ [⟨w, akN g w, trC g w⟩]) := fun x hx => by
  rcases List.mem_append.1 hx with hx | hx
  · exact h x hx
  · rw [List.mem_singleton.1 hx]; exact ⟨hw, rfl, rfl⟩
theorem MA.set {g : Grammar} {L : List AK} (h : MA g L) {w : List Int} {r : Nat} (hw : w.length ≤ 12) : MA g (L.set r ⟨w, akN g w, trC g w⟩) := fun x hx => by
  rcases List.mem_or_eq_of_mem_set hx with hx | hx
  · exact h x hx
  · rw [hx]; exact ⟨hw, rfl, rfl⟩
theorem ak_in {g : Grammar} {L : List AK} (h : MA g L) {r : Nat} {w : List Int} (hw : w.length ≤ 12) (hr : r < (tbl akD L).length) (he : Agr (((tbl akD L).getD r []).take 13) (iv .i64 w.length :: kw w)) : ((tbl akD L).getD r []).drop 13 = [iv .i64 (akN g w), iv .i64 (trC g w)] := by
  have hr' : r < L.length := by simpa [tbl] using hr
  have e : (tbl akD L).getD r [] = akD (L.getD r default) := by simp [tbl, List.getD_eq_getElem?_getD, hr']
  obtain ⟨h1, h2, h3⟩ := h _ (getD_mem' (l := L) (i := r) hr')
  rw [e] at he ⊢
  generalize L.getD r default = x at *
  unfold akD at he ⊢
  rw [List.take_succ_cons, kw_take h1] at he
  have he : iv .i64 x.w.length = iv .i64 w.length ∧ Agr (kw x.w) (kw w) := he
  have hl : x.w.length = w.length := by have := he.1; simp [iv] at this; omega
  have hk := Agr_ints (by simp [hl]) he.2
  have hxw : x.w = w := (List.append_inj hk hl).1
  rw [List.drop_succ_cons, kw_drop h1, h2, h3, hxw]
theorem ak_app {L : List AK} {w : List Int} {n c : Int} : tbl akD L ++ [iv .i64 w.length :: (kw w ++ [D.v (.int .i64 n), D.v (.int .i64 c)])] = tbl akD (L ++ [⟨w, n, c⟩]) := by rw [tbl_app]; rfl
theorem ak_set {L : List AK} {w : List Int} {n c : Int} {r : Nat} : (tbl akD L).set r (iv .i64 w.length :: (kw w ++ [D.v (.int .i64 n), D.v (.int .i64 c)])) = tbl akD (L.set r ⟨w, n, c⟩) := by rw [← tbl_set]; rfl
def stB (g : Grammar) (L : List AK) : Ob := ⟨5, [[iv .i64 g.k, iv .i64 g.n, iv .i64 g.start, .sl 2 (tbl rulD g.rules), .omp akK 15 (tbl akD L)]], true, true, .fix⟩
def vst := And.intro vmr <| And.intro @kw_len <| And.intro @kw_take <| And.intro @kw_take' <| And.intro @kw_drop <| And.intro @ak_app <| And.intro @ak_set @rulD_eq
set_option maxRecDepth 10000 in
set_option maxHeartbeats 4000000 in
theorem cloneB_rule (l : List Rule) (h : l.length ≤ 1000000) : Dm.SpecH Try.prog 40 [.sl 2 (tbl rulD l)] [] (fun d o => d = .ref 1 2 0 l.length ∧ o = [none, some ⟨2, tbl rulD l, true, false, .arr⟩]) := by
  refine specH_of_vc mixed Try.func40 c40 (by rw [show Try.f40.ntmps = _ from Try.ntmps40]; simp) ?_
  unfold m40 r40
  repeat' first | ((first | refine Br.dec ?_ ?_ | refine Br.eqi ?_ ?_) <;> intro h <;> try (exfalso; omega)) | (simp (disch := first | omega | (simp only [vlen]; first | done | omega)) only [↓vAq, vBq, ↓reduceIte, Nat.reduceBEq, Nat.reduceEqDiff, Nat.reduceLT, Nat.reduceLeDiff, Nat.reduceAdd, Nat.reduceMul, Nat.reduceSub, reduceCtorEq, Int.reduceToNat]) | (refine Br.mk ?_ ?_ <;> intro h) | (refine BrN.mk (fun h => ?_) ?_) | (refine AltVC.mk ?_ ?_)
  · have : l = [] := List.eq_nil_of_length_eq_zero (by assumption)
    subst this
    exact finH_mk [none, some ⟨2, [], true, false, .arr⟩] (by simp) (by simp (disch := first | omega | (simp only [vlen]; first | done | omega)) only [↓vAq, vBq, ↓reduceIte, Nat.reduceBEq, Nat.reduceEqDiff, Nat.reduceLT, Nat.reduceLeDiff, Nat.reduceAdd, Nat.reduceMul, Nat.reduceSub, reduceCtorEq, Int.reduceToNat]) (by simp (disch := first | omega | (simp only [vlen]; first | done | omega)) only [↓vAq, vBq, ↓reduceIte, Nat.reduceBEq, Nat.reduceEqDiff, Nat.reduceLT, Nat.reduceLeDiff, Nat.reduceAdd, Nat.reduceMul, Nat.reduceSub, reduceCtorEq, Int.reduceToNat]) ⟨by simp (disch := first | omega | (simp only [vlen]; first | done | omega)) only [↓vAq, vBq, ↓reduceIte, Nat.reduceBEq, Nat.reduceEqDiff, Nat.reduceLT, Nat.reduceLeDiff, Nat.reduceAdd, Nat.reduceMul, Nat.reduceSub, reduceCtorEq, Int.reduceToNat], rfl⟩
  · exact finH_mk [none, some ⟨2, tbl rulD l, true, false, .arr⟩] (by simp) (by simp (disch := first | omega | (simp only [vlen]; first | done | omega)) only [↓vAq, vBq, ↓reduceIte, Nat.reduceBEq, Nat.reduceEqDiff, Nat.reduceLT, Nat.reduceLeDiff, Nat.reduceAdd, Nat.reduceMul, Nat.reduceSub, reduceCtorEq, Int.reduceToNat]) (by simp (disch := first | omega | (simp only [vlen]; first | done | omega)) only [↓vAq, vBq, ↓reduceIte, Nat.reduceBEq, Nat.reduceEqDiff, Nat.reduceLT, Nat.reduceLeDiff, Nat.reduceAdd, Nat.reduceMul, Nat.reduceSub, reduceCtorEq, Int.reduceToNat]) ⟨by simp (disch := first | omega | (simp only [vlen]; first | done | omega)) only [↓vAq, vBq, ↓reduceIte, Nat.reduceBEq, Nat.reduceEqDiff, Nat.reduceLT, Nat.reduceLeDiff, Nat.reduceAdd, Nat.reduceMul, Nat.reduceSub, reduceCtorEq, Int.reduceToNat], rfl⟩
set_option maxRecDepth 10000 in
set_option maxHeartbeats 4000000 in
theorem cloneZ_int (l : List Int) (h : l.length * 8 ≤ 140737488351232) : Dm.Spec Try.prog 57 [.sl 1 (i64s l)] (· = .sl 1 (i64s l)) := by
  refine spec_of_vc mixed Try.func57 c57 (by rw [show Try.f57.ntmps = _ from Try.ntmps57]; simp) ?_
  unfold m57 r57
  repeat' first | ((first | refine Br.dec ?_ ?_ | refine Br.eqi ?_ ?_) <;> intro h <;> try (exfalso; omega)) | (simp (disch := first | omega | (simp only [vlen]; first | done | omega)) only [↓vAq, vBq, ↓reduceIte, Nat.reduceBEq, Nat.reduceEqDiff, Nat.reduceLT, Nat.reduceLeDiff, Nat.reduceAdd, Nat.reduceMul, Nat.reduceSub, reduceCtorEq, Int.reduceToNat]) | (refine Br.mk ?_ ?_ <;> intro h) | (refine BrN.mk (fun h => ?_) ?_) | (refine AltVC.mk ?_ ?_)
  · have : l = [] := List.eq_nil_of_length_eq_zero (by assumption)
    subst this
    exact fin_mk rfl
  · exact fin_mk rfl
set_option maxRecDepth 10000 in
set_option maxHeartbeats 4000000 in
theorem set0_spec (k n : Int) : Dm.SpecH Try.prog 21 [.ptr 0 5 0 0, .nl] [⟨5, [[iv .i64 k, iv .i64 n, iv .i64 0, .nl, .v (.map none)]], true, false, .fix⟩] (fun d o => d = .tu [] ∧ o = [some ⟨5, [[iv .i64 k, iv .i64 n, iv .i64 0, .nl, .omp akK 15 []]], true, true, .fix⟩]) := by
  refine specH_of_vc mixed Try.func21 c21 (by rw [show Try.f21.ntmps = _ from Try.ntmps21]; simp) ?_
  unfold m21 r21
  repeat' first | ((first | refine Br.dec ?_ ?_ | refine Br.eqi ?_ ?_) <;> intro h <;> try (exfalso; omega)) | (simp (disch := first | omega | (simp only [vlen]; first | done | omega)) only [vst, ↓vAq, vBq, ↓reduceIte, Nat.reduceBEq, Nat.reduceEqDiff, Nat.reduceLT, Nat.reduceLeDiff, Nat.reduceAdd, Nat.reduceMul, Nat.reduceSub, reduceCtorEq, Int.reduceToNat]) | (refine Br.mk ?_ ?_ <;> intro h) | (refine BrN.mk (fun h => ?_) ?_) | (refine AltVC.mk ?_ ?_)
  refine FinH.fold 1 0 0 4 true (by simp (disch := first | omega | (simp only [vlen]; first | done | omega)) only [vst, ↓vAq, vBq, ↓reduceIte, Nat.reduceBEq, Nat.reduceEqDiff, Nat.reduceLT, Nat.reduceLeDiff, Nat.reduceAdd, Nat.reduceMul, Nat.reduceSub, reduceCtorEq, Int.reduceToNat]) ?_
  repeat' first | ((first | refine Br.dec ?_ ?_ | refine Br.eqi ?_ ?_) <;> intro h <;> try (exfalso; omega)) | (simp (disch := first | omega | (simp only [vlen]; first | done | omega)) only [vst, ↓vAq, vBq, ↓reduceIte, Nat.reduceBEq, Nat.reduceEqDiff, Nat.reduceLT, Nat.reduceLeDiff, Nat.reduceAdd, Nat.reduceMul, Nat.reduceSub, reduceCtorEq, Int.reduceToNat]) | (refine Br.mk ?_ ?_ <;> intro h) | (refine BrN.mk (fun h => ?_) ?_) | (refine AltVC.mk ?_ ?_)
  exact finH_mk [some ⟨5, [[iv .i64 k, iv .i64 n, iv .i64 0, .nl, .omp akK 15 []]], true, true, .fix⟩] (by simp) (by simp (disch := first | omega | (simp only [vlen]; first | done | omega)) only [vst, ↓vAq, vBq, ↓reduceIte, Nat.reduceBEq, Nat.reduceEqDiff, Nat.reduceLT, Nat.reduceLeDiff, Nat.reduceAdd, Nat.reduceMul, Nat.reduceSub, reduceCtorEq, Int.reduceToNat]) (by simp (disch := first | omega | (simp only [vlen]; first | done | omega)) only [vst, ↓vAq, vBq, ↓reduceIte, Nat.reduceBEq, Nat.reduceEqDiff, Nat.reduceLT, Nat.reduceLeDiff, Nat.reduceAdd, Nat.reduceMul, Nat.reduceSub, reduceCtorEq, Int.reduceToNat]) ⟨by simp (disch := first | omega | (simp only [vlen]; first | done | omega)) only [vst, ↓vAq, vBq, ↓reduceIte, Nat.reduceBEq, Nat.reduceEqDiff, Nat.reduceLT, Nat.reduceLeDiff, Nat.reduceAdd, Nat.reduceMul, Nat.reduceSub, reduceCtorEq, Int.reduceToNat], rfl⟩
set_option maxRecDepth 10000 in
set_option maxHeartbeats 4000000 in
theorem set_spec (g : Grammar) (L : List AK) (rs : List Rule) : Dm.SpecH Try.prog 21 [.ptr 0 5 0 0, .sl 2 (tbl rulD rs)] [stB g L] (fun d o => d = .tu [] ∧ o = [some (stB ⟨g.k, g.n, g.start, rs⟩ [])]) := by
  refine specH_of_vc mixed Try.func21 c21 (by rw [show Try.f21.ntmps = _ from Try.ntmps21]; simp) ?_
  unfold m21 r21
  unfold stB
  repeat' first | ((first | refine Br.dec ?_ ?_ | refine Br.eqi ?_ ?_) <;> intro h <;> try (exfalso; omega)) | (simp (disch := first | omega | (simp only [vlen]; first | done | omega)) only [vst, ↓vAq, vBq, ↓reduceIte, Nat.reduceBEq, Nat.reduceEqDiff, Nat.reduceLT, Nat.reduceLeDiff, Nat.reduceAdd, Nat.reduceMul, Nat.reduceSub, reduceCtorEq, Int.reduceToNat]) | (refine Br.mk ?_ ?_ <;> intro h) | (refine BrN.mk (fun h => ?_) ?_) | (refine AltVC.mk ?_ ?_)
  refine FinH.fold 1 0 0 4 true (by simp (disch := first | omega | (simp only [vlen]; first | done | omega)) only [vst, ↓vAq, vBq, ↓reduceIte, Nat.reduceBEq, Nat.reduceEqDiff, Nat.reduceLT, Nat.reduceLeDiff, Nat.reduceAdd, Nat.reduceMul, Nat.reduceSub, reduceCtorEq, Int.reduceToNat]) ?_
  repeat' first | ((first | refine Br.dec ?_ ?_ | refine Br.eqi ?_ ?_) <;> intro h <;> try (exfalso; omega)) | (simp (disch := first | omega | (simp only [vlen]; first | done | omega)) only [vst, ↓vAq, vBq, ↓reduceIte, Nat.reduceBEq, Nat.reduceEqDiff, Nat.reduceLT, Nat.reduceLeDiff, Nat.reduceAdd, Nat.reduceMul, Nat.reduceSub, reduceCtorEq, Int.reduceToNat]) | (refine Br.mk ?_ ?_ <;> intro h) | (refine BrN.mk (fun h => ?_) ?_) | (refine AltVC.mk ?_ ?_)
  exact finH_mk [some (stB ⟨g.k, g.n, g.start, rs⟩ [])] (by simp) (by simp (disch := first | omega | (simp only [vlen]; first | done | omega)) only [vst, ↓vAq, vBq, ↓reduceIte, Nat.reduceBEq, Nat.reduceEqDiff, Nat.reduceLT, Nat.reduceLeDiff, Nat.reduceAdd, Nat.reduceMul, Nat.reduceSub, reduceCtorEq, Int.reduceToNat]) (by unfold stB; rw [tbl_nil]; simp (disch := first | omega | (simp only [vlen]; first | done | omega)) only [vst, ↓vAq, vBq, ↓reduceIte, Nat.reduceBEq, Nat.reduceEqDiff, Nat.reduceLT, Nat.reduceLeDiff, Nat.reduceAdd, Nat.reduceMul, Nat.reduceSub, reduceCtorEq, Int.reduceToNat]) ⟨by simp (disch := first | omega | (simp only [vlen]; first | done | omega)) only [vst, ↓vAq, vBq, ↓reduceIte, Nat.reduceBEq, Nat.reduceEqDiff, Nat.reduceLT, Nat.reduceLeDiff, Nat.reduceAdd, Nat.reduceMul, Nat.reduceSub, reduceCtorEq, Int.reduceToNat], rfl⟩
theorem wcode_long {k : Int} {w : List Int} (h : 12 < w.length) : wcode k w = 1 := by
  unfold wcode; rw [if_pos (by omega)]
theorem trC_long {g : Grammar} (hv : VG g) {w : List Int} (h : 12 < w.length) : trC g w = 1 := by
  unfold trC
  rw [hv.tcode, wcode_long h, if_neg (by decide)]
def trR (g : Grammar) (w : List Int) (d : D) (o : List (Option Ob)) : Prop := d = .ag [iv .i64 (trC g w), iv .i64 (akN g w), .nl] ∧ ∃ L', o = [some (stB g L')] ∧ MA g L'
set_option maxRecDepth 10000 in
set_option maxHeartbeats 4000000 in
theorem stTrees_spec (g : Grammar) (hv : VG g) (hg : g.ok) (w : List Int) (hw : okL ok64 w) (L : List AK) (hL : MA g L) : Dm.SpecH Try.prog 41 [.ptr 0 5 0 0, .sl 1 (i64s w)] [stB g L] (trR g w) := by
  refine specH_of_vc mixed Try.func41 c41 (by rw [show Try.f41.ntmps = _ from Try.ntmps41]; simp) ?_
  unfold m41 r41
  have hwl := maxLen_le hw.1
  by_cases h12 : 12 < w.length
  · have e1 := trC_long hv h12
    have e2 : akN g w = 0 := by unfold akN; rw [e1, if_neg (by decide)]
    unfold stB
    repeat' first | ((first | refine Br.dec ?_ ?_ | refine Br.eqi ?_ ?_) <;> intro h <;> try (exfalso; omega)) | (simp (disch := first | omega | (simp only [vlen]; first | done | omega)) only [vst, ↓vAq, vBq, ↓reduceIte, Nat.reduceBEq, Nat.reduceEqDiff, Nat.reduceLT, Nat.reduceLeDiff, Nat.reduceAdd, Nat.reduceMul, Nat.reduceSub, reduceCtorEq, Int.reduceToNat]) | (refine Br.mk ?_ ?_ <;> intro h) | (refine BrN.mk (fun h => ?_) ?_) | (refine AltVC.mk ?_ ?_)
    exact finH_mk [some (stB g L)] (by simp) (by simp (disch := first | omega | (simp only [vlen]; first | done | omega)) only [vst, ↓vAq, vBq, ↓reduceIte, Nat.reduceBEq, Nat.reduceEqDiff, Nat.reduceLT, Nat.reduceLeDiff, Nat.reduceAdd, Nat.reduceMul, Nat.reduceSub, reduceCtorEq, Int.reduceToNat]) (by unfold stB; simp (disch := first | omega | (simp only [vlen]; first | done | omega)) only [vst, ↓vAq, vBq, ↓reduceIte, Nat.reduceBEq, Nat.reduceEqDiff, Nat.reduceLT, Nat.reduceLeDiff, Nat.reduceAdd, Nat.reduceMul, Nat.reduceSub, reduceCtorEq, Int.reduceToNat]) ⟨by rw [e1, e2]; simp (disch := first | omega | (simp only [vlen]; first | done | omega)) only [vst, ↓vAq, vBq, ↓reduceIte, Nat.reduceBEq, Nat.reduceEqDiff, Nat.reduceLT, Nat.reduceLeDiff, Nat.reduceAdd, Nat.reduceMul, Nat.reduceSub, reduceCtorEq, Int.reduceToNat], L, rfl, hL⟩
  · have hk := keyP_kw (w := w) ⟨by omega, hw.2⟩
    unfold stB
    repeat' first | ((first | refine Br.dec ?_ ?_ | refine Br.eqi ?_ ?_) <;> intro h <;> try (exfalso; omega)) | (simp (disch := first | omega | (simp only [vlen]; first | done | omega)) only [vst, kw_cpy, hk, ↓vAq, vBq, ↓reduceIte, Nat.reduceBEq, Nat.reduceEqDiff, Nat.reduceLT, Nat.reduceLeDiff, Nat.reduceAdd, Nat.reduceMul, Nat.reduceSub, reduceCtorEq, Int.reduceToNat]) | (refine Br.mk ?_ ?_ <;> intro h) | (refine BrN.mk (fun h => ?_) ?_) | (refine AltVC.mk ?_ ?_)
    refine BrK.mk (fun r hr he => ?_) (fun hnn => ?_)
    · have hR := ak_in hL (by omega) hr he
      repeat' first | ((first | refine Br.dec ?_ ?_ | refine Br.eqi ?_ ?_) <;> intro h <;> try (exfalso; omega)) | (simp (disch := first | omega | (simp only [vlen]; first | done | omega)) only [vst, hR, ↓vAq, vBq, ↓reduceIte, Nat.reduceBEq, Nat.reduceEqDiff, Nat.reduceLT, Nat.reduceLeDiff, Nat.reduceAdd, Nat.reduceMul, Nat.reduceSub, reduceCtorEq, Int.reduceToNat]) | (refine Br.mk ?_ ?_ <;> intro h) | (refine BrN.mk (fun h => ?_) ?_) | (refine AltVC.mk ?_ ?_)
      refine FinH.fold 3 0 0 4 true (by simp (disch := first | omega | (simp only [vlen]; first | done | omega)) only [vst, ↓vAq, vBq, ↓reduceIte, Nat.reduceBEq, Nat.reduceEqDiff, Nat.reduceLT, Nat.reduceLeDiff, Nat.reduceAdd, Nat.reduceMul, Nat.reduceSub, reduceCtorEq, Int.reduceToNat]) ?_
      repeat' first | ((first | refine Br.dec ?_ ?_ | refine Br.eqi ?_ ?_) <;> intro h <;> try (exfalso; omega)) | (simp (disch := first | omega | (simp only [vlen]; first | done | omega)) only [vst, ↓vAq, vBq, ↓reduceIte, Nat.reduceBEq, Nat.reduceEqDiff, Nat.reduceLT, Nat.reduceLeDiff, Nat.reduceAdd, Nat.reduceMul, Nat.reduceSub, reduceCtorEq, Int.reduceToNat]) | (refine Br.mk ?_ ?_ <;> intro h) | (refine BrN.mk (fun h => ?_) ?_) | (refine AltVC.mk ?_ ?_)
      exact finH_mk [some (stB g L)] (by simp) (by simp (disch := first | omega | (simp only [vlen]; first | done | omega)) only [vst, ↓vAq, vBq, ↓reduceIte, Nat.reduceBEq, Nat.reduceEqDiff, Nat.reduceLT, Nat.reduceLeDiff, Nat.reduceAdd, Nat.reduceMul, Nat.reduceSub, reduceCtorEq, Int.reduceToNat]) (by unfold stB; simp (disch := first | omega | (simp only [vlen]; first | done | omega)) only [vst, ↓vAq, vBq, ↓reduceIte, Nat.reduceBEq, Nat.reduceEqDiff, Nat.reduceLT, Nat.reduceLeDiff, Nat.reduceAdd, Nat.reduceMul, Nat.reduceSub, reduceCtorEq, Int.reduceToNat]) ⟨by simp (disch := first | omega | (simp only [vlen]; first | done | omega)) only [vst, ↓vAq, vBq, ↓reduceIte, Nat.reduceBEq, Nat.reduceEqDiff, Nat.reduceLT, Nat.reduceLeDiff, Nat.reduceAdd, Nat.reduceMul, Nat.reduceSub, reduceCtorEq, Int.reduceToNat], L, rfl, hL⟩
    · have htr : Dm.Spec Try.prog 58 [.ag (graD g), .sl 1 (i64s w)] (· = .tu [iv .i64 (akN g w), iv .i64 (trC g w)]) := trees_spec g hg w hwl
      repeat' first | ((first | refine Br.dec ?_ ?_ | refine Br.eqi ?_ ?_) <;> intro h <;> try (exfalso; omega)) | (simp (disch := first | omega | (simp only [vlen]; first | done | omega)) only [vst, ↓vAq, vBq, ↓reduceIte, Nat.reduceBEq, Nat.reduceEqDiff, Nat.reduceLT, Nat.reduceLeDiff, Nat.reduceAdd, Nat.reduceMul, Nat.reduceSub, reduceCtorEq, Int.reduceToNat]) | (refine Br.mk ?_ ?_ <;> intro h) | (refine BrN.mk (fun h => ?_) ?_) | (refine AltVC.mk ?_ ?_)
      refine GhoV.go ?_
      repeat' first | ((first | refine Br.dec ?_ ?_ | refine Br.eqi ?_ ?_) <;> intro h <;> try (exfalso; omega)) | (simp (disch := first | omega | (simp only [vlen]; first | done | omega)) only [vst, ↓vAq, vBq, ↓reduceIte, Nat.reduceBEq, Nat.reduceEqDiff, Nat.reduceLT, Nat.reduceLeDiff, Nat.reduceAdd, Nat.reduceMul, Nat.reduceSub, reduceCtorEq, Int.reduceToNat]) | (refine Br.mk ?_ ?_ <;> intro h) | (refine BrN.mk (fun h => ?_) ?_) | (refine AltVC.mk ?_ ?_)
      refine CallVC.eq htr ?_
      repeat' first | ((first | refine Br.dec ?_ ?_ | refine Br.eqi ?_ ?_) <;> intro h <;> try (exfalso; omega)) | (simp (disch := first | omega | (simp only [vlen]; first | done | omega)) only [vst, hk, ↓vAq, vBq, ↓reduceIte, Nat.reduceBEq, Nat.reduceEqDiff, Nat.reduceLT, Nat.reduceLeDiff, Nat.reduceAdd, Nat.reduceMul, Nat.reduceSub, reduceCtorEq, Int.reduceToNat]) | (refine Br.mk ?_ ?_ <;> intro h) | (refine BrN.mk (fun h => ?_) ?_) | (refine AltVC.mk ?_ ?_)
      refine BrK.mk (fun r hr he => ?_) (fun hnn2 => ?_)
      · repeat' first | ((first | refine Br.dec ?_ ?_ | refine Br.eqi ?_ ?_) <;> intro h <;> try (exfalso; omega)) | (simp (disch := first | omega | (simp only [vlen]; first | done | omega)) only [vst, ↓vAq, vBq, ↓reduceIte, Nat.reduceBEq, Nat.reduceEqDiff, Nat.reduceLT, Nat.reduceLeDiff, Nat.reduceAdd, Nat.reduceMul, Nat.reduceSub, reduceCtorEq, Int.reduceToNat]) | (refine Br.mk ?_ ?_ <;> intro h) | (refine BrN.mk (fun h => ?_) ?_) | (refine AltVC.mk ?_ ?_)
        refine FinH.fold 3 0 0 4 true (by simp (disch := first | omega | (simp only [vlen]; first | done | omega)) only [vst, ↓vAq, vBq, ↓reduceIte, Nat.reduceBEq, Nat.reduceEqDiff, Nat.reduceLT, Nat.reduceLeDiff, Nat.reduceAdd, Nat.reduceMul, Nat.reduceSub, reduceCtorEq, Int.reduceToNat]) ?_
        repeat' first | ((first | refine Br.dec ?_ ?_ | refine Br.eqi ?_ ?_) <;> intro h <;> try (exfalso; omega)) | (simp (disch := first | omega | (simp only [vlen]; first | done | omega)) only [vst, ↓vAq, vBq, ↓reduceIte, Nat.reduceBEq, Nat.reduceEqDiff, Nat.reduceLT, Nat.reduceLeDiff, Nat.reduceAdd, Nat.reduceMul, Nat.reduceSub, reduceCtorEq, Int.reduceToNat]) | (refine Br.mk ?_ ?_ <;> intro h) | (refine BrN.mk (fun h => ?_) ?_) | (refine AltVC.mk ?_ ?_)
        exact finH_mk [some (stB g (L.set r ⟨w, akN g w, trC g w⟩))] (by simp) (by simp (disch := first | omega | (simp only [vlen]; first | done | omega)) only [vst, ↓vAq, vBq, ↓reduceIte, Nat.reduceBEq, Nat.reduceEqDiff, Nat.reduceLT, Nat.reduceLeDiff, Nat.reduceAdd, Nat.reduceMul, Nat.reduceSub, reduceCtorEq, Int.reduceToNat]) (by unfold stB; simp (disch := first | omega | (simp only [vlen]; first | done | omega)) only [vst, ↓vAq, vBq, ↓reduceIte, Nat.reduceBEq, Nat.reduceEqDiff, Nat.reduceLT, Nat.reduceLeDiff, Nat.reduceAdd, Nat.reduceMul, Nat.reduceSub, reduceCtorEq, Int.reduceToNat]) ⟨by simp (disch := first | omega | (simp only [vlen]; first | done | omega)) only [vst, ↓vAq, vBq, ↓reduceIte, Nat.reduceBEq, Nat.reduceEqDiff, Nat.reduceLT, Nat.reduceLeDiff, Nat.reduceAdd, Nat.reduceMul, Nat.reduceSub, reduceCtorEq, Int.reduceToNat], _, rfl, hL.set (by omega)⟩
      · repeat' first | ((first | refine Br.dec ?_ ?_ | refine Br.eqi ?_ ?_) <;> intro h <;> try (exfalso; omega)) | (simp (disch := first | omega | (simp only [vlen]; first | done | omega)) only [vst, ↓vAq, vBq, ↓reduceIte, Nat.reduceBEq, Nat.reduceEqDiff, Nat.reduceLT, Nat.reduceLeDiff, Nat.reduceAdd, Nat.reduceMul, Nat.reduceSub, reduceCtorEq, Int.reduceToNat]) | (refine Br.mk ?_ ?_ <;> intro h) | (refine BrN.mk (fun h => ?_) ?_) | (refine AltVC.mk ?_ ?_)
        refine FinH.fold 3 0 0 4 true (by simp (disch := first | omega | (simp only [vlen]; first | done | omega)) only [vst, ↓vAq, vBq, ↓reduceIte, Nat.reduceBEq, Nat.reduceEqDiff, Nat.reduceLT, Nat.reduceLeDiff, Nat.reduceAdd, Nat.reduceMul, Nat.reduceSub, reduceCtorEq, Int.reduceToNat]) ?_
        repeat' first | ((first | refine Br.dec ?_ ?_ | refine Br.eqi ?_ ?_) <;> intro h <;> try (exfalso; omega)) | (simp (disch := first | omega | (simp only [vlen]; first | done | omega)) only [vst, ↓vAq, vBq, ↓reduceIte, Nat.reduceBEq, Nat.reduceEqDiff, Nat.reduceLT, Nat.reduceLeDiff, Nat.reduceAdd, Nat.reduceMul, Nat.reduceSub, reduceCtorEq, Int.reduceToNat]) | (refine Br.mk ?_ ?_ <;> intro h) | (refine BrN.mk (fun h => ?_) ?_) | (refine AltVC.mk ?_ ?_)
        exact finH_mk [some (stB g (L ++ [⟨w, akN g w, trC g w⟩]))] (by simp) (by simp (disch := first | omega | (simp only [vlen]; first | done | omega)) only [vst, ↓vAq, vBq, ↓reduceIte, Nat.reduceBEq, Nat.reduceEqDiff, Nat.reduceLT, Nat.reduceLeDiff, Nat.reduceAdd, Nat.reduceMul, Nat.reduceSub, reduceCtorEq, Int.reduceToNat]) (by unfold stB; simp (disch := first | omega | (simp only [vlen]; first | done | omega)) only [vst, ↓vAq, vBq, ↓reduceIte, Nat.reduceBEq, Nat.reduceEqDiff, Nat.reduceLT, Nat.reduceLeDiff, Nat.reduceAdd, Nat.reduceMul, Nat.reduceSub, reduceCtorEq, Int.reduceToNat]) ⟨by simp (disch := first | omega | (simp only [vlen]; first | done | omega)) only [vst, ↓vAq, vBq, ↓reduceIte, Nat.reduceBEq, Nat.reduceEqDiff, Nat.reduceLT, Nat.reduceLeDiff, Nat.reduceAdd, Nat.reduceMul, Nat.reduceSub, reduceCtorEq, Int.reduceToNat], _, rfl, hL.add (by omega)⟩
structure Tl where
  c : Int
  n : Int
  st : List Int
  z : Bool
instance : Inhabited Tl := ⟨⟨0, 0, [], true⟩⟩
def stnD (t : Tl) : D := if t.z = true then .nl else .sl 1 (i64s t.st)
def tlD (t : Tl) : List D := [iv .i64 t.c, iv .i64 t.n, stnD t]
def TR (g : Grammar) (d : Deed) (t : Tl) : Prop := TO g d t.c t.n t.st ∧ (t.z = true → t.st = [])
def rule2G (g : Grammar) (r : Rule) : Grammar := if rcode g r = 0 then addR g r else g
def ruR (g : Grammar) (r : Rule) (d : D) (o : List (Option Ob)) : Prop := d = .ag [iv .i64 (rcode g r), iv .i64 (if rcode g r = 0 then (g.rules.length : Int) else 0), .nl] ∧ ∃ L', o = [some (stB (rule2G g r) L')] ∧ MA (rule2G g r) L'
theorem rul_snoc {l : List Rule} {r : Rule} : tbl rulD l ++ [[D.v (.int .i64 r.left), D.sl 1 (i64s r.right)]] = tbl rulD (l ++ [r]) := by rw [tbl_app]; rfl
def vsu := And.intro vst @rul_snoc
set_option maxRecDepth 10000 in
set_option maxHeartbeats 4000000 in
theorem rule_spec (g : Grammar) (hv : VG g) (hg : g.ok) (r : Rule) (hr : okR r) (L : List AK) (hL : MA g L) : Dm.SpecH Try.prog 39 [.ptr 0 5 0 0, .ag (rulD r)] [stB g L] (ruR g r) := by
  refine specH_of_vc mixed Try.func39 c39 (by rw [show Try.f39.ntmps = _ from Try.ntmps39]; simp) ?_
  unfold m39 r39
  have hlen := (valid_of hv.1).len
  have hr2 := hr.2
  have hok := ok_add hv hg hr.1
  have hck := gCheck_spec (addR g r) hok
  unfold stB
  repeat' first | ((first | refine Br.dec ?_ ?_ | refine Br.eqi ?_ ?_) <;> intro h <;> try (exfalso; omega)) | (simp (disch := first | omega | (simp only [vlen]; first | done | omega)) only [vsu, ↓vAq, vBq, ↓reduceIte, Nat.reduceBEq, Nat.reduceEqDiff, Nat.reduceLT, Nat.reduceLeDiff, Nat.reduceAdd, Nat.reduceMul, Nat.reduceSub, reduceCtorEq, Int.reduceToNat]) | (refine Br.mk ?_ ?_ <;> intro h) | (refine BrN.mk (fun h => ?_) ?_) | (refine AltVC.mk ?_ ?_)
  refine GhoV.go ?_
  repeat' first | ((first | refine Br.dec ?_ ?_ | refine Br.eqi ?_ ?_) <;> intro h <;> try (exfalso; omega)) | (simp (disch := first | omega | (simp only [vlen]; first | done | omega)) only [vsu, ↓vAq, vBq, ↓reduceIte, Nat.reduceBEq, Nat.reduceEqDiff, Nat.reduceLT, Nat.reduceLeDiff, Nat.reduceAdd, Nat.reduceMul, Nat.reduceSub, reduceCtorEq, Int.reduceToNat]) | (refine Br.mk ?_ ?_ <;> intro h) | (refine BrN.mk (fun h => ?_) ?_) | (refine AltVC.mk ?_ ?_)
  refine CallP.lend [.sl 2 (tbl rulD g.rules)] (cloneB_rule g.rules (by omega)) (by simp (disch := first | omega | (simp only [vlen]; first | done | omega)) only [vsu, ↓vAq, vBq, ↓reduceIte, Nat.reduceBEq, Nat.reduceEqDiff, Nat.reduceLT, Nat.reduceLeDiff, Nat.reduceAdd, Nat.reduceMul, Nat.reduceSub, reduceCtorEq, Int.reduceToNat]) ?_
  rintro _ _ ⟨rfl, rfl⟩
  repeat' first | ((first | refine Br.dec ?_ ?_ | refine Br.eqi ?_ ?_) <;> intro h <;> try (exfalso; omega)) | (simp (disch := first | omega | (simp only [vlen]; first | done | omega)) only [vsu, ↓vAq, vBq, ↓reduceIte, Nat.reduceBEq, Nat.reduceEqDiff, Nat.reduceLT, Nat.reduceLeDiff, Nat.reduceAdd, Nat.reduceMul, Nat.reduceSub, reduceCtorEq, Int.reduceToNat]) | (refine Br.mk ?_ ?_ <;> intro h) | (refine BrN.mk (fun h => ?_) ?_) | (refine AltVC.mk ?_ ?_)
  refine CallP.eq (cloneZ_int r.right hr2) (by simp) ?_
  repeat' first | ((first | refine Br.dec ?_ ?_ | refine Br.eqi ?_ ?_) <;> intro h <;> try (exfalso; omega)) | (simp (disch := first | omega | (simp only [vlen]; first | done | omega)) only [vsu, ↓vAq, vBq, ↓reduceIte, Nat.reduceBEq, Nat.reduceEqDiff, Nat.reduceLT, Nat.reduceLeDiff, Nat.reduceAdd, Nat.reduceMul, Nat.reduceSub, reduceCtorEq, Int.reduceToNat]) | (refine Br.mk ?_ ?_ <;> intro h) | (refine BrN.mk (fun h => ?_) ?_) | (refine AltVC.mk ?_ ?_)
  refine CallVC.eqo hck (by simp (disch := first | omega | (simp only [vlen]; first | done | omega)) only [graD_eq, vsu, ↓vAq, vBq, ↓reduceIte, Nat.reduceBEq, Nat.reduceEqDiff, Nat.reduceLT, Nat.reduceLeDiff, Nat.reduceAdd, Nat.reduceMul, Nat.reduceSub, reduceCtorEq, Int.reduceToNat]) ?_
  by_cases h0 : gcode (addR g r) = 0
  · have hva := valid_of h0
    have hp := proper_spec (addR g r) (maxLen_le hok.2.2.2.1) (fun x hx => by have := hva.long x hx; omega)
    have hla : (addR g r).rules.length = g.rules.length + 1 := by simp [addR]
    cases hb : isProper (addR g r) with
    | true =>
      rw [hb] at hp
      have e : rcode g r = 0 := by unfold rcode; rw [if_pos h0, if_pos hb]
      have eg : rule2G g r = addR g r := if_pos e
      repeat' first | ((first | refine Br.dec ?_ ?_ | refine Br.eqi ?_ ?_) <;> intro h <;> try (exfalso; omega)) | (simp (disch := first | omega | (simp only [vlen]; first | done | omega)) only [vsu, ↓vAq, vBq, ↓reduceIte, Nat.reduceBEq, Nat.reduceEqDiff, Nat.reduceLT, Nat.reduceLeDiff, Nat.reduceAdd, Nat.reduceMul, Nat.reduceSub, reduceCtorEq, Int.reduceToNat]) | (refine Br.mk ?_ ?_ <;> intro h) | (refine BrN.mk (fun h => ?_) ?_) | (refine AltVC.mk ?_ ?_)
      refine CallVC.eqo hp (by simp (disch := first | omega | (simp only [vlen]; first | done | omega)) only [graD_eq, vsu, ↓vAq, vBq, ↓reduceIte, Nat.reduceBEq, Nat.reduceEqDiff, Nat.reduceLT, Nat.reduceLeDiff, Nat.reduceAdd, Nat.reduceMul, Nat.reduceSub, reduceCtorEq, Int.reduceToNat]) ?_
      repeat' first | ((first | refine Br.dec ?_ ?_ | refine Br.eqi ?_ ?_) <;> intro h <;> try (exfalso; omega)) | (simp (disch := first | omega | (simp only [vlen]; first | done | omega)) only [vsu, ↓vAq, vBq, ↓reduceIte, Nat.reduceBEq, Nat.reduceEqDiff, Nat.reduceLT, Nat.reduceLeDiff, Nat.reduceAdd, Nat.reduceMul, Nat.reduceSub, reduceCtorEq, Int.reduceToNat]) | (refine Br.mk ?_ ?_ <;> intro h) | (refine BrN.mk (fun h => ?_) ?_) | (refine AltVC.mk ?_ ?_)
      refine CallVC.frz 5 ?_
      repeat' first | ((first | refine Br.dec ?_ ?_ | refine Br.eqi ?_ ?_) <;> intro h <;> try (exfalso; omega)) | (simp (disch := first | omega | (simp only [vlen]; first | done | omega)) only [vsu, ↓vAq, vBq, ↓reduceIte, Nat.reduceBEq, Nat.reduceEqDiff, Nat.reduceLT, Nat.reduceLeDiff, Nat.reduceAdd, Nat.reduceMul, Nat.reduceSub, reduceCtorEq, Int.reduceToNat]) | (refine Br.mk ?_ ?_ <;> intro h) | (refine BrN.mk (fun h => ?_) ?_) | (refine AltVC.mk ?_ ?_)
      refine CallVC.lendE [0] [.ptr 0 5 0 0, .sl 2 (tbl rulD (g.rules ++ [r]))] [stB g L] (set_spec g L (g.rules ++ [r])) (by simp) (by rfl) (by unfold stB; (simp (disch := first | omega | (simp only [vlen]; first | done | omega)) only [vle0, ↓vAq, vBq, ↓reduceIte, Nat.reduceBEq, Nat.reduceEqDiff, Nat.reduceLT, Nat.reduceLeDiff, Nat.reduceAdd, Nat.reduceMul, Nat.reduceSub, reduceCtorEq, Int.reduceToNat] <;> (repeat' first | rfl | apply And.intro))) ?_
      rintro _ _ ⟨rfl, rfl⟩
      have hl2 : ((g.rules ++ [r]).length : Int) - 1 = g.rules.length := by simp
      unfold stB
      repeat' first | ((first | refine Br.dec ?_ ?_ | refine Br.eqi ?_ ?_) <;> intro h <;> try (exfalso; omega)) | (simp (disch := first | omega | (simp only [vlen]; first | done | omega)) only [vsu, ↓vAq, vBq, ↓reduceIte, Nat.reduceBEq, Nat.reduceEqDiff, Nat.reduceLT, Nat.reduceLeDiff, Nat.reduceAdd, Nat.reduceMul, Nat.reduceSub, reduceCtorEq, Int.reduceToNat]) | (refine Br.mk ?_ ?_ <;> intro h) | (refine BrN.mk (fun h => ?_) ?_) | (refine AltVC.mk ?_ ?_)
      rw [hl2]
      exact finH_mk [some (stB (addR g r) [])] (by simp) (by simp (disch := first | omega | (simp only [vlen]; first | done | omega)) only [vsu, ↓vAq, vBq, ↓reduceIte, Nat.reduceBEq, Nat.reduceEqDiff, Nat.reduceLT, Nat.reduceLeDiff, Nat.reduceAdd, Nat.reduceMul, Nat.reduceSub, reduceCtorEq, Int.reduceToNat]) (by unfold stB addR; simp (disch := first | omega | (simp only [vlen]; first | done | omega)) only [vsu, ↓vAq, vBq, ↓reduceIte, Nat.reduceBEq, Nat.reduceEqDiff, Nat.reduceLT, Nat.reduceLeDiff, Nat.reduceAdd, Nat.reduceMul, Nat.reduceSub, reduceCtorEq, Int.reduceToNat]) ⟨by rw [e, if_pos rfl]; simp (disch := first | omega | (simp only [vlen]; first | done | omega)) only [vsu, ↓vAq, vBq, ↓reduceIte, Nat.reduceBEq, Nat.reduceEqDiff, Nat.reduceLT, Nat.reduceLeDiff, Nat.reduceAdd, Nat.reduceMul, Nat.reduceSub, reduceCtorEq, Int.reduceToNat], [], by rw [eg], MA.nil⟩
    | false =>
      rw [hb] at hp
      have e : rcode g r = 3 := by unfold rcode; rw [if_pos h0, if_neg (by rw [hb]; simp)]
      have eg : rule2G g r = g := if_neg (by rw [e]; decide)
      repeat' first | ((first | refine Br.dec ?_ ?_ | refine Br.eqi ?_ ?_) <;> intro h <;> try (exfalso; omega)) | (simp (disch := first | omega | (simp only [vlen]; first | done | omega)) only [vsu, ↓vAq, vBq, ↓reduceIte, Nat.reduceBEq, Nat.reduceEqDiff, Nat.reduceLT, Nat.reduceLeDiff, Nat.reduceAdd, Nat.reduceMul, Nat.reduceSub, reduceCtorEq, Int.reduceToNat]) | (refine Br.mk ?_ ?_ <;> intro h) | (refine BrN.mk (fun h => ?_) ?_) | (refine AltVC.mk ?_ ?_)
      refine CallVC.eqo hp (by simp (disch := first | omega | (simp only [vlen]; first | done | omega)) only [graD_eq, vsu, ↓vAq, vBq, ↓reduceIte, Nat.reduceBEq, Nat.reduceEqDiff, Nat.reduceLT, Nat.reduceLeDiff, Nat.reduceAdd, Nat.reduceMul, Nat.reduceSub, reduceCtorEq, Int.reduceToNat]) ?_
      repeat' first | ((first | refine Br.dec ?_ ?_ | refine Br.eqi ?_ ?_) <;> intro h <;> try (exfalso; omega)) | (simp (disch := first | omega | (simp only [vlen]; first | done | omega)) only [vsu, ↓vAq, vBq, ↓reduceIte, Nat.reduceBEq, Nat.reduceEqDiff, Nat.reduceLT, Nat.reduceLeDiff, Nat.reduceAdd, Nat.reduceMul, Nat.reduceSub, reduceCtorEq, Int.reduceToNat]) | (refine Br.mk ?_ ?_ <;> intro h) | (refine BrN.mk (fun h => ?_) ?_) | (refine AltVC.mk ?_ ?_)
      exact finH_mk [some (stB g L)] (by simp) (by simp (disch := first | omega | (simp only [vlen]; first | done | omega)) only [vsu, ↓vAq, vBq, ↓reduceIte, Nat.reduceBEq, Nat.reduceEqDiff, Nat.reduceLT, Nat.reduceLeDiff, Nat.reduceAdd, Nat.reduceMul, Nat.reduceSub, reduceCtorEq, Int.reduceToNat]) (by unfold stB; simp (disch := first | omega | (simp only [vlen]; first | done | omega)) only [vsu, ↓vAq, vBq, ↓reduceIte, Nat.reduceBEq, Nat.reduceEqDiff, Nat.reduceLT, Nat.reduceLeDiff, Nat.reduceAdd, Nat.reduceMul, Nat.reduceSub, reduceCtorEq, Int.reduceToNat]) ⟨by rw [e, if_neg (by decide)]; simp (disch := first | omega | (simp only [vlen]; first | done | omega)) only [vsu, ↓vAq, vBq, ↓reduceIte, Nat.reduceBEq, Nat.reduceEqDiff, Nat.reduceLT, Nat.reduceLeDiff, Nat.reduceAdd, Nat.reduceMul, Nat.reduceSub, reduceCtorEq, Int.reduceToNat], L, by rw [eg], by rw [eg]; exact hL⟩
  · have e : rcode g r = gcode (addR g r) := by unfold rcode; rw [if_neg h0]
    have eg : rule2G g r = g := if_neg (by rw [e]; exact h0)
    repeat' first | ((first | refine Br.dec ?_ ?_ | refine Br.eqi ?_ ?_) <;> intro h <;> try (exfalso; omega)) | (simp (disch := first | omega | (simp only [vlen]; first | done | omega)) only [vsu, ↓vAq, vBq, ↓reduceIte, Nat.reduceBEq, Nat.reduceEqDiff, Nat.reduceLT, Nat.reduceLeDiff, Nat.reduceAdd, Nat.reduceMul, Nat.reduceSub, reduceCtorEq, Int.reduceToNat]) | (refine Br.mk ?_ ?_ <;> intro h) | (refine BrN.mk (fun h => ?_) ?_) | (refine AltVC.mk ?_ ?_)
    exact finH_mk [some (stB g L)] (by simp) (by simp (disch := first | omega | (simp only [vlen]; first | done | omega)) only [vsu, ↓vAq, vBq, ↓reduceIte, Nat.reduceBEq, Nat.reduceEqDiff, Nat.reduceLT, Nat.reduceLeDiff, Nat.reduceAdd, Nat.reduceMul, Nat.reduceSub, reduceCtorEq, Int.reduceToNat]) (by unfold stB; simp (disch := first | omega | (simp only [vlen]; first | done | omega)) only [vsu, ↓vAq, vBq, ↓reduceIte, Nat.reduceBEq, Nat.reduceEqDiff, Nat.reduceLT, Nat.reduceLeDiff, Nat.reduceAdd, Nat.reduceMul, Nat.reduceSub, reduceCtorEq, Int.reduceToNat]) ⟨by rw [e, if_neg h0]; simp (disch := first | omega | (simp only [vlen]; first | done | omega)) only [vsu, ↓vAq, vBq, ↓reduceIte, Nat.reduceBEq, Nat.reduceEqDiff, Nat.reduceLT, Nat.reduceLeDiff, Nat.reduceAdd, Nat.reduceMul, Nat.reduceSub, reduceCtorEq, Int.reduceToNat], L, by rw [eg], by rw [eg]; exact hL⟩
end Go.Proofs.Ytjekkbpdgnohcaa

namespace Go.Proofs.Ytjekkbpdgnohcaa
open Go.Dm
set_option linter.unusedSimpArgs false
set_option linter.unnecessarySimpa false
set_option linter.unusedVariables false
set_option linter.defProp false
inductive Gr (g : Grammar) : List Int → List Int → List (List D) → List Int → List Int → Prop
  | nil {st : List Int} : Gr g [] st [] [] st
  | sym {x : Int} {s st w r : List Int} {ks : List (List D)} (hx : x < g.k) (h : Gr g s st ks w r) : Gr g (x :: s) st ([iv .i64 (-1), .nl, .sl 1 (i64s [x])] :: ks) (x :: w) r
  | name {x : Int} {q : Nat} {s st m w1 w2 r : List Int} {k1 k2 : List (List D)} (hx : ¬ x < g.k) (hq : RuleAt g x q) (h1 : Gr g (g.rules.getD q default).right st k1 w1 m) (h2 : Gr g s m k2 w2 r) : Gr g (x :: s) ((q : Int) :: st) ([iv .i64 q, .sl 3 k1, .sl 1 (i64s w1)] :: k2) (w1 ++ w2) r
theorem Gr.det {g : Grammar} {s st w r : List Int} {ks : List (List D)} (h : Gr g s st ks w r) : ∀ {ks' : List (List D)} {w' r' : List Int}, Gr g s st ks' w' r' → ks = ks' ∧ w = w' ∧ r = r' := by
  induction h with
  | nil => intro ks' w' r' h'; cases h'; exact ⟨rfl, rfl, rfl⟩
  | sym hx h ih =>
    intro ks' w' r' h'
    cases h' with
    | sym _ h2 => obtain ⟨e1, e2, e3⟩ := ih h2; exact ⟨by rw [e1], by rw [e2], e3⟩
    | name hn => exact absurd hx hn
  | @name x q s st m w1 w2 r k1 k2 hx hq h1 h2 ih1 ih2 =>
    intro ks' w' r' h'
    generalize hS : (q : Int) :: st = S at h'
    cases h' with
    | sym hn => exact absurd hn hx
    | @name _ q' _ st' m' w1' w2' _ k1' k2' _ hq' h1' h2' =>
      simp only [List.cons.injEq, Int.natCast_inj] at hS
      obtain ⟨rfl, rfl⟩ := hS
      obtain ⟨e1, e2, e3⟩ := ih1 h1'
      subst e3
      obtain ⟨f1, f2, f3⟩ := ih2 h2'
      exact ⟨by rw [e1, e2, f1], by rw [e2, f2], f3⟩
theorem Gr.len {g : Grammar} {s st w r : List Int} {ks : List (List D)} (h : Gr g s st ks w r) : ks.length = s.length := by
  induction h with
  | nil => rfl
  | sym _ _ ih => simp [ih]
  | name _ _ _ _ _ ih2 => simp [ih2]
theorem Gr.app {g : Grammar} {s st w m : List Int} {ks : List (List D)} (h : Gr g s st ks w m) : ∀ {s2 k2 w2 r}, Gr g s2 m k2 w2 r → Gr g (s ++ s2) st (ks ++ k2) (w ++ w2) r := by
  induction h with
  | nil => intro _ _ _ _ h2; exact h2
  | sym hx h ih => intro _ _ _ _ h2; exact .sym hx (ih h2)
  | name hx hq h1 h2 ih1 ih2 =>
    intro _ _ _ _ h3
    rw [List.append_assoc]
    exact .name hx hq h1 (ih2 h3)
theorem Gr.short {g : Grammar} {s st w r : List Int} {ks : List (List D)} (h : Gr g s st ks w r) : r.length ≤ st.length := by
  induction h with
  | nil => exact Nat.le_refl _
  | sym _ _ ih => exact ih
  | name _ _ _ _ ih1 ih2 => rw [List.length_cons]; omega
theorem Gr.wlen {g : Grammar} (hl : ∀ q, q < g.rules.length → (g.rules.getD q default).right.length ≤ 4) {s st w r : List Int} {ks : List (List D)} (h : Gr g s st ks w r) : w.length + 4 * r.length ≤ s.length + 4 * st.length := by
  induction h with
  | nil => simp
  | sym _ _ ih => simp only [List.length_cons]; omega
  | name _ hq _ _ ih1 ih2 =>
    have := hl _ (rule_lt hq)
    simp only [List.length_cons, List.length_append]; omega
inductive Tg (g : Grammar) (w : List Int) : List Int → Nat → List Nat → List Int → Nat → List (List D) → Prop
  | nil (i : Nat) : Tg g w [] i [] [] 0 []
  | sym {x : Int} {l : List Int} {i : Nat} {es : List Nat} {st : List Int} {K : Nat} {ks : List (List D)} (hx : x < g.k) (hw : w.getD i 0 = x) (h : Tg g w l (i + 1) es st K ks) : Tg g w (x :: l) i ((i + 1) :: es) st K ([iv .i64 (-1), .nl, .sl 1 (i64s [x])] :: ks)
  | name {x : Int} {l : List Int} {i e : Nat} {es : List Nat} {q c : Nat} {s1 s2 w1 : List Int} {K1 K2 : Nat} {k1 k2 : List (List D)} (hx : ¬ x < g.k) (hq : RuleAt g x q) (hc : c < (cutN ((g.rules.getD q default).right.length - 1) i e).length) (hw : i + w1.length = e)
      (h1 : Tg g w (g.rules.getD q default).right i ((cutN ((g.rules.getD q default).right.length - 1) i e).getD c []) s1 K1 k1) (h2 : Tg g w l e es s2 K2 k2) :
      Tg g w (x :: l) i (e :: es) ((q : Int) :: s1 ++ s2) ((rlB g w x i e q + sumL (prT g w (g.rules.getD q default).right i) ((cutN ((g.rules.getD q default).right.length - 1) i e).take c) + K1) * prT g w l e es + K2) ([iv .i64 q, .sl 3 k1, .sl 1 (i64s w1)] :: k2)
theorem Tg.tk {g : Grammar} {w : List Int} {l : List Int} {i : Nat} {es : List Nat} {st : List Int} {K : Nat} {ks : List (List D)} (h : Tg g w l i es st K ks) : Tk g w l i es st K := by
  induction h with
  | nil => exact .nil _
  | sym hx hw _ ih => exact .sym hx hw ih
  | name hx hq hc _ _ _ ih1 ih2 => exact .name hx hq hc ih1 ih2
theorem Tg.len {g : Grammar} {w : List Int} {l : List Int} {i : Nat} {es : List Nat} {st : List Int} {K : Nat} {ks : List (List D)} (h : Tg g w l i es st K ks) : es.length = l.length ∧ ks.length = l.length := by
  induction h with
  | nil => exact ⟨rfl, rfl⟩
  | sym _ _ _ ih => exact ⟨by simp [ih.1], by simp [ih.2]⟩
  | name _ _ _ _ _ _ _ ih => exact ⟨by simp [ih.1], by simp [ih.2]⟩
def SI : Nat → List Nat → Prop
  | _, [] => True
  | i, e :: es => i < e ∧ SI e es
theorem SI.le : ∀ {es : List Nat} {i : Nat}, SI i es → i + es.length ≤ stA i es es.length
  | [], i, _ => by simp [stA]
  | e :: es, i, h => by
    have := h.2.le
    rw [List.length_cons, stA_cons]
    have := h.1
    omega
theorem cutN_mem : ∀ {n i j : Nat} {es : List Nat}, es.length = n + 1 → SI i es → stA i es es.length = j → es ∈ cutN n i j
  | 0, i, j, [e], _, _, h => by
    have : e = j := h
    subst this
    simp [cutN]
  | n + 1, i, j, e :: es, hl, hs, h => by
    rw [List.length_cons, stA_cons] at h
    have h1 := hs.2.le
    have hl' : es.length = n + 1 := by simpa using hl
    have h2 := hs.1
    simp only [cutN, List.mem_flatMap, List.mem_map, List.mem_range]
    exact ⟨e - (i + 1), by omega, es, by rw [show i + 1 + (e - (i + 1)) = e by omega]; exact cutN_mem hl' hs.2 h, by rw [show i + 1 + (e - (i + 1)) = e by omega]⟩
  | 0, _, _, [], hl, _, _ => by simp at hl
  | 0, _, _, _ :: _ :: _, hl, _, _ => by simp at hl
  | n + 1, _, _, [], hl, _, _ => by simp at hl
theorem sl_app {w a b : List Int} {i : Nat} (h : (w.drop i).take (a ++ b).length = a ++ b) : (w.drop i).take a.length = a ∧ (w.drop (i + a.length)).take b.length = b := by
  rw [List.length_append] at h
  have h2 : w.drop i = a ++ (b ++ (w.drop i).drop (a.length + b.length)) := by
    conv => lhs; rw [← List.take_append_drop (a.length + b.length) (w.drop i), h]
    rw [List.append_assoc]
  constructor
  · rw [h2, List.take_left]
  · rw [← List.drop_drop, h2, List.drop_left, List.take_left]
theorem Gr.tg {g : Grammar} {w : List Int} (hp : Proper g) {l st wd r : List Int} {ks : List (List D)} (h : Gr g l st ks wd r) : ∀ i, (w.drop i).take wd.length = wd → ∃ es st1 K, st = st1 ++ r ∧ Tg g w l i es st1 K ks ∧ stA i es es.length = i + wd.length ∧ SI i es := by
  induction h with
  | nil => intro i _; exact ⟨[], [], 0, rfl, .nil i, rfl, trivial⟩
  | @sym x s st wd r ks hx h ih =>
    intro i hw
    obtain ⟨h1, h2⟩ := sl_app (a := [x]) (b := wd) (i := i) hw
    obtain ⟨es, st1, K, e1, e2, e3, e4⟩ := ih (i + 1) h2
    have hwi : w.getD i 0 = x := by
      have := congrArg (fun l : List Int => l.getD 0 0) h1
      simp only [List.length_singleton, List.getD_cons_zero] at this
      rw [← this]
      simp [List.getD]
    refine ⟨(i + 1) :: es, st1, K, e1, .sym hx hwi e2, ?_, by omega, e4⟩
    rw [List.length_cons, stA_cons, e3, List.length_cons]; omega
  | @name x q s st m w1 w2 r k1 k2 hx hq h1 h2 ih1 ih2 =>
    intro i hw
    obtain ⟨a1, a2⟩ := sl_app hw
    obtain ⟨es1, s1, K1, b1, b2, b3, b4⟩ := ih1 i a1
    obtain ⟨es2, s2, K2, c1, c2, c3, c4⟩ := ih2 _ a2
    have hl := b2.len.1
    have hne := List.length_pos_iff.2 (right_ne hp (rule_lt hq))
    have hm := cutN_mem (n := (g.rules.getD q default).right.length - 1) (by omega) b4 b3
    obtain ⟨c, hc, he⟩ := List.getElem_of_mem hm
    have he2 : (cutN ((g.rules.getD q default).right.length - 1) i (i + w1.length)).getD c [] = es1 := by rw [← he]; exact getD_idx hc
    refine ⟨(i + w1.length) :: es2, (q : Int) :: s1 ++ s2, _, by rw [b1, c1]; simp, .name hx hq hc rfl (by rw [he2]; exact b2) c2, ?_, ?_, c4⟩
    · rw [List.length_cons, stA_cons, c3, List.length_append]; omega
    · have := b4.le
      rw [b3] at this
      omega
theorem Tk.gr {g : Grammar} {w : List Int} {l : List Int} {i : Nat} {es : List Nat} {st : List Int} {K : Nat} (h : Tk g w l i es st K) : stA i es es.length ≤ w.length → i ≤ stA i es es.length ∧ ∀ r, ∃ ks, Gr g l (st ++ r) ks ((w.drop i).take (stA i es es.length - i)) r := by
  induction h with
  | nil i => intro _; exact ⟨Nat.le_refl _, fun r => ⟨[], by simp [stA]; exact .nil⟩⟩
  | @sym x l i es st K hx hw h ih =>
    intro hle
    rw [List.length_cons, stA_cons] at hle ⊢
    obtain ⟨h1, h2⟩ := ih hle
    refine ⟨by omega, fun r => ?_⟩
    obtain ⟨ks, hk⟩ := h2 r
    refine ⟨[iv .i64 (-1), .nl, .sl 1 (i64s [x])] :: ks, ?_⟩
    have e : (w.drop i).take (stA (i + 1) es es.length - i) = x :: (w.drop (i + 1)).take (stA (i + 1) es es.length - (i + 1)) := by
      rw [dropC (d := 0) (show i < w.length by omega), hw, show stA (i + 1) es es.length - i = (stA (i + 1) es es.length - (i + 1)) + 1 by omega, List.take_succ_cons]
    rw [e]
    exact .sym hx hk
  | @name x l i e es q c s1 s2 K1 K2 hx hq hc h1 h2 ih1 ih2 =>
    intro hle
    rw [List.length_cons, stA_cons] at hle ⊢
    obtain ⟨a1, a2⟩ := ih2 hle
    rw [last_stA (cutN_last (getD_cut hc))] at ih1
    obtain ⟨b1, b2⟩ := ih1 (by omega)
    refine ⟨by omega, fun r => ?_⟩
    obtain ⟨k2, hk2⟩ := a2 r
    obtain ⟨k1, hk1⟩ := b2 (s2 ++ r)
    refine ⟨[iv .i64 q, .sl 3 k1, .sl 1 (i64s ((w.drop i).take (e - i)))] :: k2, ?_⟩
    have ew : (w.drop i).take (stA e es es.length - i) = (w.drop i).take (e - i) ++ (w.drop e).take (stA e es es.length - e) := by
      rw [show stA e es es.length - i = (e - i) + (stA e es es.length - e) by omega, List.take_add, List.drop_drop, show i + (e - i) = e by omega]
    rw [ew, List.cons_append, List.cons_append, List.append_assoc]
    exact .name hx hq hk1 hk2
theorem tg_uncons {g : Grammar} {w : List Int} {x : Int} {l : List Int} {i : Nat} {es : List Nat} {st : List Int} {K : Nat} {ks : List (List D)} (h : Tg g w (x :: l) i es st K ks) : ∃ e es' s1 s2 n K2 k1 k2, es = e :: es' ∧ st = s1 ++ s2 ∧ ks = k1 :: k2 ∧ K = n * prT g w l e es' + K2 ∧ Tg g w [x] i [e] s1 n [k1] ∧ Tg g w l e es' s2 K2 k2 := by
  cases h with
  | @sym _ _ _ es st _ ks hx hw h => exact ⟨_, _, [], st, 0, K, _, _, rfl, rfl, rfl, by omega, .sym hx hw (.nil _), h⟩
  | @name _ _ _ e es q c s1 s2 w1 K1 K2 k1 k2 hx hq hc hw h1 h2 =>
    exact ⟨_, _, _, s2, _, K2, _, _, rfl, rfl, rfl, rfl, by have := Tg.name hx hq hc hw h1 (.nil e); rwa [List.append_nil, prT_nil, Nat.mul_one, Nat.add_zero] at this, h2⟩
theorem tg_row {g : Grammar} {w : List Int} {x : Int} {i e : Nat} {st : List Int} {K : Nat} {row : List D} (h : Tg g w [x] i [e] st K [row]) : ∃ q kk wd, row = [iv .i64 q, kk, .sl 1 (i64s wd)] ∧ i + wd.length = e ∧ (kk = .nl ∨ ∃ es, kk = .sl 3 es) := by
  cases h with
  | sym hx hw h => exact ⟨-1, .nl, [x], rfl, rfl, .inl rfl⟩
  | @name _ _ _ _ _ q c s1 s2 w1 K1 K2 k1 k2 hx hq hc hw h1 h2 => exact ⟨q, _, w1, rfl, hw, .inr ⟨_, rfl⟩⟩
theorem tg_at {g : Grammar} {w : List Int} : ∀ {l : List Int} {i : Nat} {es : List Nat} {st : List Int} {K : Nat} {ks : List (List D)}, Tg g w l i es st K ks → ∀ m, m < l.length → ∃ s1 n, Tg g w [l.getD m 0] (stA i es m) [es.getD m 0] s1 n [ks.getD m []]
  | [], _, _, _, _, _, _, m, hm => absurd hm (Nat.not_lt_zero _)
  | x :: l, i, es, st, K, ks, h, m, hm => by
    obtain ⟨e, es', s1, s2, n, K2, k1, k2, rfl, rfl, rfl, _, h1, h2⟩ := tg_uncons h
    cases m with
    | zero => exact ⟨s1, n, h1⟩
    | succ m => rw [stA_cons]; exact tg_at h2 m (by simpa using hm)
theorem Gr.split {g : Grammar} : ∀ {s1 s2 st w r : List Int} {ks : List (List D)}, Gr g (s1 ++ s2) st ks w r → ∃ k1 w1 m k2 w2, Gr g s1 st k1 w1 m ∧ Gr g s2 m k2 w2 r
  | [], s2, st, w, r, ks, h => ⟨[], [], st, ks, w, .nil, h⟩
  | x :: s1, s2, st, w, r, ks, h => by
    cases h with
    | sym hx h => obtain ⟨k1, w1, m, k2, w2, h1, h2⟩ := Gr.split h; exact ⟨_, _, m, k2, w2, .sym hx h1, h2⟩
    | name hx hq h0 h => obtain ⟨k1, w1, m, k2, w2, h1, h2⟩ := Gr.split h; exact ⟨_, _, m, k2, w2, .name hx hq h0 h1, h2⟩
theorem gr_sub {g : Grammar} {c : List Int} {i : Nat} {st w r w1 m : List Int} {k1 ks : List (List D)} (hi : i < c.length) (h1 : Gr g (c.take i) st k1 w1 m) (h : Gr g c st ks w r) : ∃ k2 w2 r2, Gr g [c.getD i 0] m k2 w2 r2 := by
  rw [← List.take_append_drop i c] at h
  obtain ⟨_, _, _, _, _, a1, a2⟩ := h.split
  obtain ⟨_, _, rfl⟩ := h1.det a1
  rw [dropC (d := 0) hi] at a2
  obtain ⟨k, w', r', _, _, b1, _⟩ := Gr.split (s1 := [c.getD i 0]) a2
  exact ⟨k, w', r', b1⟩
abbrev trZ : List D := [iv .i64 0, .nl, .nl]
def gwO (g : Grammar) (q : Int) (ks : List (List D)) (w : List Int) : List (Nat × Ob) := [(0, ⟨4, [graD g], true, false, .fix⟩), (1, ⟨3, [trZ], true, false, .fix⟩), (3, ⟨3, [[iv .i64 q, .own false 3 ks, .own false 1 (i64s w)]], true, true, .fix⟩)]
set_option maxRecDepth 10000 in
set_option maxHeartbeats 4000000 in
theorem grow_spec (g : Grammar) (hg : Valid g) (x : Int) (hx : 0 ≤ x ∧ x < g.k + g.n) (st : List Int) (hs : st.length ≤ 60) : Dm.Spec Try.prog 30 [.ag (graD g), iv .i64 x, .sl 1 (i64s st)] (fun d => (∃ q K w r, d = .tu [.ag [iv .i64 q, K, .sl 1 (i64s w)], .sl 1 (i64s r), .v (.bool true)] ∧ (K = .nl ∨ ∃ es, K = .sl 3 es) ∧ Gr g [x] st [[iv .i64 q, K, .sl 1 (i64s w)]] w r) ∨ (d = .tu [.ag trZ, .sl 1 [], .v (.bool false)] ∧ ∀ ks w r, ¬ Gr g [x] st ks w r)) := by
  refine spec_of_vc mixed Try.func30 c30 (by rw [show Try.f30.ntmps = _ from Try.ntmps30]; simp) ?_
  unfold m30 r30
  have hk := hg.k
  have hn := hg.n
  have hlen := hg.len
  by_cases hxk : x < g.k
  · repeat' first | ((first | refine Br.dec ?_ ?_ | refine Br.eqi ?_ ?_) <;> intro h <;> try (exfalso; omega)) | (simp (disch := first | omega | (simp only [vlen]; first | done | omega)) only [↓vAq, vBq, ↓reduceIte, Nat.reduceBEq, Nat.reduceEqDiff, Nat.reduceLT, Nat.reduceLeDiff, Nat.reduceAdd, Nat.reduceMul, Nat.reduceSub, reduceCtorEq, Int.reduceToNat]) | (refine Br.mk ?_ ?_ <;> intro h) | (refine BrN.mk (fun h => ?_) ?_) | (refine AltVC.mk ?_ ?_)
    exact fin_mk (.inl ⟨-1, .nl, [x], st, rfl, .inl rfl, .sym hxk .nil⟩)
  · cases hst : st with
    | nil =>
      repeat' first | ((first | refine Br.dec ?_ ?_ | refine Br.eqi ?_ ?_) <;> intro h <;> try (exfalso; omega)) | (simp (disch := first | omega | (simp only [vlen]; first | done | omega)) only [↓vAq, vBq, ↓reduceIte, Nat.reduceBEq, Nat.reduceEqDiff, Nat.reduceLT, Nat.reduceLeDiff, Nat.reduceAdd, Nat.reduceMul, Nat.reduceSub, reduceCtorEq, Int.reduceToNat]) | (refine Br.mk ?_ ?_ <;> intro h) | (refine BrN.mk (fun h => ?_) ?_) | (refine AltVC.mk ?_ ?_)
      exact fin_mk (.inr ⟨rfl, fun ks w r h => by cases h with | sym h1 _ => exact hxk h1⟩)
    | cons q st' =>
      have hst2 : st.length = st'.length + 1 := by rw [hst]; rfl
      rw [hst, List.length_cons] at hs
      have hq0 : (i64s (q :: st')).getD 0 [] = [iv .i64 q] := rfl
      have hno : ¬ RuleAt g x q → ∀ ks w r, ¬ Gr g [x] (q :: st') ks w r := fun h ks w r hp => by
        cases hp with
        | sym h1 _ => exact hxk h1
        | name _ h1 _ => exact h h1
      have hl : (q :: st').length = st'.length + 1 := rfl
      by_cases hq1 : q < 0
      · repeat' first | ((first | refine Br.dec ?_ ?_ | refine Br.eqi ?_ ?_) <;> intro h <;> try (exfalso; omega)) | (simp (disch := first | omega | (simp only [vlen]; first | done | omega)) only [hl, ↓vAq, vBq, ↓reduceIte, Nat.reduceBEq, Nat.reduceEqDiff, Nat.reduceLT, Nat.reduceLeDiff, Nat.reduceAdd, Nat.reduceMul, Nat.reduceSub, reduceCtorEq, Int.reduceToNat]) | (refine Br.mk ?_ ?_ <;> intro h) | (refine BrN.mk (fun h => ?_) ?_) | (refine AltVC.mk ?_ ?_)
        exact fin_mk (.inr ⟨rfl, hno fun h => by have := h.1; omega⟩)
      · by_cases hq2 : (g.rules.length : Int) ≤ q
        · repeat' first | ((first | refine Br.dec ?_ ?_ | refine Br.eqi ?_ ?_) <;> intro h <;> try (exfalso; omega)) | (simp (disch := first | omega | (simp only [vlen]; first | done | omega)) only [hl, ↓vAq, vBq, ↓reduceIte, Nat.reduceBEq, Nat.reduceEqDiff, Nat.reduceLT, Nat.reduceLeDiff, Nat.reduceAdd, Nat.reduceMul, Nat.reduceSub, reduceCtorEq, Int.reduceToNat]) | (refine Br.mk ?_ ?_ <;> intro h) | (refine BrN.mk (fun h => ?_) ?_) | (refine AltVC.mk ?_ ?_)
          exact fin_mk (.inr ⟨rfl, hno fun h => by have := h.2.1; omega⟩)
        · obtain ⟨p, rfl⟩ : ∃ p : Nat, q = p := ⟨q.toNat, by omega⟩
          have hm : g.rules.getD p default ∈ g.rules := getD_mem' (by omega)
          have hleft := hg.left _ hm
          have hlong := hg.long _ hm
          have hright := hg.right _ hm
          by_cases hq3 : (g.rules.getD p default).left = x - g.k
          · have hR : RuleAt g x p := ⟨by omega, by omega, by rw [Int.toNat_natCast]; exact hq3⟩
            have hlenw := fun {s0 t0 w0 r0 : List Int} {k0 : List (List D)} (h : Gr g s0 t0 k0 w0 r0) => And.intro (Gr.wlen (fun q hq => hg.long _ (getD_mem' (l := g.rules) (i := q) hq)) h) h.short
            repeat' first | ((first | refine Br.dec ?_ ?_ | refine Br.eqi ?_ ?_) <;> intro h <;> try (exfalso; omega)) | (simp (disch := first | omega | (simp only [vlen]; first | done | omega)) only [hl, ↓vAq, vBq, ↓reduceIte, Nat.reduceBEq, Nat.reduceEqDiff, Nat.reduceLT, Nat.reduceLeDiff, Nat.reduceAdd, Nat.reduceMul, Nat.reduceSub, reduceCtorEq, Int.reduceToNat]) | (refine Br.mk ?_ ?_ <;> intro h) | (refine BrN.mk (fun h => ?_) ?_) | (refine AltVC.mk ?_ ?_)
            refine LoopVC.nlo 3 0 1 3 ?_
            repeat' first | ((first | refine Br.dec ?_ ?_ | refine Br.eqi ?_ ?_) <;> intro h <;> try (exfalso; omega)) | (simp (disch := first | omega | (simp only [vlen]; first | done | omega)) only [hl, ↓vAq, vBq, ↓reduceIte, Nat.reduceBEq, Nat.reduceEqDiff, Nat.reduceLT, Nat.reduceLeDiff, Nat.reduceAdd, Nat.reduceMul, Nat.reduceSub, reduceCtorEq, Int.reduceToNat]) | (refine Br.mk ?_ ?_ <;> intro h) | (refine BrN.mk (fun h => ?_) ?_) | (refine AltVC.mk ?_ ?_)
            refine LoopVC.nlo 3 0 2 1 ?_
            repeat' first | ((first | refine Br.dec ?_ ?_ | refine Br.eqi ?_ ?_) <;> intro h <;> try (exfalso; omega)) | (simp (disch := first | omega | (simp only [vlen]; first | done | omega)) only [hl, ↓vAq, vBq, ↓reduceIte, Nat.reduceBEq, Nat.reduceEqDiff, Nat.reduceLT, Nat.reduceLeDiff, Nat.reduceAdd, Nat.reduceMul, Nat.reduceSub, reduceCtorEq, Int.reduceToNat]) | (refine Br.mk ?_ ?_ <;> intro h) | (refine BrN.mk (fun h => ?_) ?_) | (refine AltVC.mk ?_ ?_)
            refine LoopVC.mk (X := Nat × List Int × List (List D) × List Int) (fun y => [(2, .sl 1 (i64s y.2.1)), (71, iv .i64 y.1)]) (fun y => gwO g p y.2.2.1 y.2.2.2) (fun y => (g.rules.getD p default).right.length - y.1) (fun y => y.1 ≤ (g.rules.getD p default).right.length ∧ Gr g ((g.rules.getD p default).right.take y.1) st' y.2.2.1 y.2.2.2 y.2.1 ∧ (y.2.2.1.all fun e => e.all D.clo') = true ∧ y.2.2.1.length = y.1) (0, st', [], []) ⟨Nat.zero_le _, .nil, rfl, rfl⟩ ?_ ?_
            · unfold gwO
              (simp (disch := first | omega | (simp only [vlen]; first | done | omega)) only [Fits_u, Fits_m, Fits_nil, List.length_append, ↓vAq, vBq, ↓reduceIte, Nat.reduceBEq, Nat.reduceEqDiff, Nat.reduceLT, Nat.reduceLeDiff, Nat.reduceAdd, Nat.reduceMul, Nat.reduceSub, reduceCtorEq, Int.reduceToNat] <;> (repeat' first | rfl | apply And.intro))
              all_goals trace_state
            · rintro ⟨i, rest, ks, w⟩ ⟨h1, h2, h3, h4⟩
              unfold gwO
              simp only at h1 h2 h3 h4 ⊢
              by_cases hi : i < (g.rules.getD p default).right.length
              · have hxi := hright _ (getD_mem' (l := (g.rules.getD p default).right) (i := i) hi)
                have hl2 := hlenw h2
                rw [List.length_take] at hl2
                have hrec := grow_spec g hg ((g.rules.getD p default).right.getD i default) hxi rest (by omega)
                repeat' first | ((first | refine Br.dec ?_ ?_ | refine Br.eqi ?_ ?_) <;> intro h <;> try (exfalso; omega)) | (simp (disch := first | omega | (simp only [vlen]; first | done | omega)) only [hl, ↓vAq, vBq, ↓reduceIte, Nat.reduceBEq, Nat.reduceEqDiff, Nat.reduceLT, Nat.reduceLeDiff, Nat.reduceAdd, Nat.reduceMul, Nat.reduceSub, reduceCtorEq, Int.reduceToNat]) | (refine Br.mk ?_ ?_ <;> intro h) | (refine BrN.mk (fun h => ?_) ?_) | (refine AltVC.mk ?_ ?_)
                refine CallVC.mk hrec ?_
                rintro _ (⟨q', K, w', r', rfl, hK, hp⟩ | ⟨rfl, hn'⟩)
                · have hl3 := hlenw hp
                  rw [List.length_singleton] at hl3
                  have hnext : ((ks ++ [[iv .i64 q', K, .sl 1 (i64s w')]]).all fun e => e.all D.clo') = true → (ks ++ [[iv .i64 q', K, .sl 1 (i64s w')]]).length = i + 1 → i + 1 ≤ (g.rules.getD p default).right.length ∧ Gr g ((g.rules.getD p default).right.take (i + 1)) st' (ks ++ [[iv .i64 q', K, .sl 1 (i64s w')]]) (w ++ w') r' ∧ ((ks ++ [[iv .i64 q', K, .sl 1 (i64s w')]]).all fun e => e.all D.clo') = true ∧ (ks ++ [[iv .i64 q', K, .sl 1 (i64s w')]]).length = i + 1 := fun a1 a2 => ⟨by omega, by rw [take_succ_getD hi default]; exact h2.app hp, a1, a2⟩
                  rcases hK with rfl | ⟨es, rfl⟩
                  · have hks : ((ks ++ [[iv .i64 q', .nl, .sl 1 (i64s w')]]).all fun e => e.all D.clo') = true := by rw [List.all_append, h3]; simp [clo'_v, clo'_nl, clo'_sl]
                    repeat' first | ((first | refine Br.dec ?_ ?_ | refine Br.eqi ?_ ?_) <;> intro h <;> try (exfalso; omega)) | (simp (disch := first | omega | (simp only [vlen]; first | done | omega)) only [hl, ↓vAq, vBq, ↓reduceIte, Nat.reduceBEq, Nat.reduceEqDiff, Nat.reduceLT, Nat.reduceLeDiff, Nat.reduceAdd, Nat.reduceMul, Nat.reduceSub, reduceCtorEq, Int.reduceToNat]) | (refine Br.mk ?_ ?_ <;> intro h) | (refine BrN.mk (fun h => ?_) ?_) | (refine AltVC.mk ?_ ?_)
                    refine loopK.fold 5 3 0 1 false ?_
                    repeat' first | ((first | refine Br.dec ?_ ?_ | refine Br.eqi ?_ ?_) <;> intro h <;> try (exfalso; omega)) | (simp (disch := first | omega | (simp only [vlen]; first | done | omega)) only [hl, hks, ↓vAq, vBq, ↓reduceIte, Nat.reduceBEq, Nat.reduceEqDiff, Nat.reduceLT, Nat.reduceLeDiff, Nat.reduceAdd, Nat.reduceMul, Nat.reduceSub, reduceCtorEq, Int.reduceToNat]) | (refine Br.mk ?_ ?_ <;> intro h) | (refine BrN.mk (fun h => ?_) ?_) | (refine AltVC.mk ?_ ?_)
                    refine loopK.fold 7 3 0 2 true ?_
                    repeat' first | ((first | refine Br.dec ?_ ?_ | refine Br.eqi ?_ ?_) <;> intro h <;> try (exfalso; omega)) | (simp (disch := first | omega | (simp only [vlen]; first | done | omega)) only [hl, hks, ↓vAq, vBq, ↓reduceIte, Nat.reduceBEq, Nat.reduceEqDiff, Nat.reduceLT, Nat.reduceLeDiff, Nat.reduceAdd, Nat.reduceMul, Nat.reduceSub, reduceCtorEq, Int.reduceToNat]) | (refine Br.mk ?_ ?_ <;> intro h) | (refine BrN.mk (fun h => ?_) ?_) | (refine AltVC.mk ?_ ?_)
                    refine loopK.mk (i + 1, r', ks ++ [[iv .i64 q', .nl, .sl 1 (i64s w')]], w ++ w') (by simp (disch := first | omega | (simp only [vlen]; first | done | omega)) only [↓vAq, vBq, ↓reduceIte, Nat.reduceBEq, Nat.reduceEqDiff, Nat.reduceLT, Nat.reduceLeDiff, Nat.reduceAdd, Nat.reduceMul, Nat.reduceSub, reduceCtorEq, Int.reduceToNat]) (hnext (by rw [List.all_append, h3]; simp [clo'_v, clo'_nl, clo'_sl]) (by rw [List.length_append, h4]; rfl)) (by show (g.rules.getD p default).right.length - (i + 1) < (g.rules.getD p default).right.length - i; omega) ?_
                    (simp (disch := first | omega | (simp only [vlen]; first | done | omega)) only [Fits_u, Fits_m, Fits_nil, List.length_append, ↓vAq, vBq, ↓reduceIte, Nat.reduceBEq, Nat.reduceEqDiff, Nat.reduceLT, Nat.reduceLeDiff, Nat.reduceAdd, Nat.reduceMul, Nat.reduceSub, reduceCtorEq, Int.reduceToNat] <;> (repeat' first | rfl | apply And.intro))
                  · have hks : ((ks ++ [[iv .i64 q', .sl 3 es, .sl 1 (i64s w')]]).all fun e => e.all D.clo') = true := by rw [List.all_append, h3]; simp [clo'_v, clo'_nl, clo'_sl]
                    repeat' first | ((first | refine Br.dec ?_ ?_ | refine Br.eqi ?_ ?_) <;> intro h <;> try (exfalso; omega)) | (simp (disch := first | omega | (simp only [vlen]; first | done | omega)) only [hl, ↓vAq, vBq, ↓reduceIte, Nat.reduceBEq, Nat.reduceEqDiff, Nat.reduceLT, Nat.reduceLeDiff, Nat.reduceAdd, Nat.reduceMul, Nat.reduceSub, reduceCtorEq, Int.reduceToNat]) | (refine Br.mk ?_ ?_ <;> intro h) | (refine BrN.mk (fun h => ?_) ?_) | (refine AltVC.mk ?_ ?_)
                    refine loopK.fold 5 3 0 1 false ?_
                    repeat' first | ((first | refine Br.dec ?_ ?_ | refine Br.eqi ?_ ?_) <;> intro h <;> try (exfalso; omega)) | (simp (disch := first | omega | (simp only [vlen]; first | done | omega)) only [hl, hks, ↓vAq, vBq, ↓reduceIte, Nat.reduceBEq, Nat.reduceEqDiff, Nat.reduceLT, Nat.reduceLeDiff, Nat.reduceAdd, Nat.reduceMul, Nat.reduceSub, reduceCtorEq, Int.reduceToNat]) | (refine Br.mk ?_ ?_ <;> intro h) | (refine BrN.mk (fun h => ?_) ?_) | (refine AltVC.mk ?_ ?_)
                    refine loopK.fold 7 3 0 2 true ?_
                    repeat' first | ((first | refine Br.dec ?_ ?_ | refine Br.eqi ?_ ?_) <;> intro h <;> try (exfalso; omega)) | (simp (disch := first | omega | (simp only [vlen]; first | done | omega)) only [hl, hks, ↓vAq, vBq, ↓reduceIte, Nat.reduceBEq, Nat.reduceEqDiff, Nat.reduceLT, Nat.reduceLeDiff, Nat.reduceAdd, Nat.reduceMul, Nat.reduceSub, reduceCtorEq, Int.reduceToNat]) | (refine Br.mk ?_ ?_ <;> intro h) | (refine BrN.mk (fun h => ?_) ?_) | (refine AltVC.mk ?_ ?_)
                    refine loopK.mk (i + 1, r', ks ++ [[iv .i64 q', .sl 3 es, .sl 1 (i64s w')]], w ++ w') (by simp (disch := first | omega | (simp only [vlen]; first | done | omega)) only [↓vAq, vBq, ↓reduceIte, Nat.reduceBEq, Nat.reduceEqDiff, Nat.reduceLT, Nat.reduceLeDiff, Nat.reduceAdd, Nat.reduceMul, Nat.reduceSub, reduceCtorEq, Int.reduceToNat]) (hnext (by rw [List.all_append, h3]; simp [clo'_v, clo'_nl, clo'_sl]) (by rw [List.length_append, h4]; rfl)) (by show (g.rules.getD p default).right.length - (i + 1) < (g.rules.getD p default).right.length - i; omega) ?_
                    (simp (disch := first | omega | (simp only [vlen]; first | done | omega)) only [Fits_u, Fits_m, Fits_nil, List.length_append, ↓vAq, vBq, ↓reduceIte, Nat.reduceBEq, Nat.reduceEqDiff, Nat.reduceLT, Nat.reduceLeDiff, Nat.reduceAdd, Nat.reduceMul, Nat.reduceSub, reduceCtorEq, Int.reduceToNat] <;> (repeat' first | rfl | apply And.intro))
                · repeat' first | ((first | refine Br.dec ?_ ?_ | refine Br.eqi ?_ ?_) <;> intro h <;> try (exfalso; omega)) | (simp (disch := first | omega | (simp only [vlen]; first | done | omega)) only [hl, ↓vAq, vBq, ↓reduceIte, Nat.reduceBEq, Nat.reduceEqDiff, Nat.reduceLT, Nat.reduceLeDiff, Nat.reduceAdd, Nat.reduceMul, Nat.reduceSub, reduceCtorEq, Int.reduceToNat]) | (refine Br.mk ?_ ?_ <;> intro h) | (refine BrN.mk (fun h => ?_) ?_) | (refine AltVC.mk ?_ ?_)
                  refine fin_mk (.inr ⟨rfl, fun ks1 w1 r1 hp => ?_⟩)
                  cases hp with
                  | sym h5 _ => exact hxk h5
                  | name _ _ h5 =>
                    obtain ⟨k2, w2, r2, h6⟩ := gr_sub hi h2 h5
                    exact hn' _ _ _ h6
              · repeat' first | ((first | refine Br.dec ?_ ?_ | refine Br.eqi ?_ ?_) <;> intro h <;> try (exfalso; omega)) | (simp (disch := first | omega | (simp only [vlen]; first | done | omega)) only [hl, ↓vAq, vBq, ↓reduceIte, Nat.reduceBEq, Nat.reduceEqDiff, Nat.reduceLT, Nat.reduceLeDiff, Nat.reduceAdd, Nat.reduceMul, Nat.reduceSub, reduceCtorEq, Int.reduceToNat]) | (refine Br.mk ?_ ?_ <;> intro h) | (refine BrN.mk (fun h => ?_) ?_) | (refine AltVC.mk ?_ ?_)
                refine GhoV.frz 3 ?_
                repeat' first | ((first | refine Br.dec ?_ ?_ | refine Br.eqi ?_ ?_) <;> intro h <;> try (exfalso; omega)) | (simp (disch := first | omega | (simp only [vlen]; first | done | omega)) only [hl, ↓vAq, vBq, ↓reduceIte, Nat.reduceBEq, Nat.reduceEqDiff, Nat.reduceLT, Nat.reduceLeDiff, Nat.reduceAdd, Nat.reduceMul, Nat.reduceSub, reduceCtorEq, Int.reduceToNat]) | (refine Br.mk ?_ ?_ <;> intro h) | (refine BrN.mk (fun h => ?_) ?_) | (refine AltVC.mk ?_ ?_)
                refine GhoV.go ?_
                repeat' first | ((first | refine Br.dec ?_ ?_ | refine Br.eqi ?_ ?_) <;> intro h <;> try (exfalso; omega)) | (simp (disch := first | omega | (simp only [vlen]; first | done | omega)) only [hl, ↓vAq, vBq, ↓reduceIte, Nat.reduceBEq, Nat.reduceEqDiff, Nat.reduceLT, Nat.reduceLeDiff, Nat.reduceAdd, Nat.reduceMul, Nat.reduceSub, reduceCtorEq, Int.reduceToNat]) | (refine Br.mk ?_ ?_ <;> intro h) | (refine BrN.mk (fun h => ?_) ?_) | (refine AltVC.mk ?_ ?_)
                have e : i = (g.rules.getD p default).right.length := by omega
                rw [e, List.take_length] at h2
                refine fin_mk (.inl ⟨p, .sl 3 ks, w, rest, rfl, .inr ⟨ks, rfl⟩, ?_⟩)
                have := Gr.name (s := []) hxk hR h2 .nil
                rwa [List.append_nil] at this
          · repeat' first | ((first | refine Br.dec ?_ ?_ | refine Br.eqi ?_ ?_) <;> intro h <;> try (exfalso; omega)) | (simp (disch := first | omega | (simp only [vlen]; first | done | omega)) only [hl, ↓vAq, vBq, ↓reduceIte, Nat.reduceBEq, Nat.reduceEqDiff, Nat.reduceLT, Nat.reduceLeDiff, Nat.reduceAdd, Nat.reduceMul, Nat.reduceSub, reduceCtorEq, Int.reduceToNat]) | (refine Br.mk ?_ ?_ <;> intro h) | (refine BrN.mk (fun h => ?_) ?_) | (refine AltVC.mk ?_ ?_)
            exact fin_mk (.inr ⟨rfl, hno fun h => hq3 (by have := h.2.2; rwa [Int.toNat_natCast] at this)⟩)
termination_by st.length
decreasing_by all_goals first | omega | (simp only [List.length_cons]; omega) | (simp_wf; omega)
set_option maxRecDepth 10000 in
set_option maxHeartbeats 4000000 in
theorem equalI_spec (a b : List Int) (ha : a.length ≤ 1000000) (hb : b.length ≤ 1000000) : Dm.Spec Try.prog 31 [.sl 1 (i64s a), .sl 1 (i64s b)] (· = .v (.bool (decide (a = b)))) := by
  refine spec_of_vc mixed Try.func31 c31 (by rw [show Try.f31.ntmps = _ from Try.ntmps31]; simp) ?_
  unfold m31 r31
  repeat' first | ((first | refine Br.dec ?_ ?_ | refine Br.eqi ?_ ?_) <;> intro h <;> try (exfalso; omega)) | (simp (disch := first | omega | (simp only [vlen]; first | done | omega)) only [vmy, ↓vAq, vBq, ↓reduceIte, Nat.reduceBEq, Nat.reduceEqDiff, Nat.reduceLT, Nat.reduceLeDiff, Nat.reduceAdd, Nat.reduceMul, Nat.reduceSub, reduceCtorEq, Int.reduceToNat]) | (refine Br.mk ?_ ?_ <;> intro h) | (refine BrN.mk (fun h => ?_) ?_) | (refine AltVC.mk ?_ ?_)
  · refine LoopVC.mk (X := Nat) (fun i => [(13, iv .i64 i)]) (fun _ => []) (fun i => a.length - i) (fun i => i ≤ a.length ∧ ∀ j, j < i → a.getD j 0 = b.getD j 0) 0 ⟨by omega, by omega⟩ ?_ ?_
    · (simp (disch := first | omega | (simp only [vlen]; first | done | omega)) only [Fits_u, Fits_m, Fits_nil, List.length_append, vmy, ↓vAq, vBq, ↓reduceIte, Nat.reduceBEq, Nat.reduceEqDiff, Nat.reduceLT, Nat.reduceLeDiff, Nat.reduceAdd, Nat.reduceMul, Nat.reduceSub, reduceCtorEq, Int.reduceToNat] <;> (repeat' first | rfl | apply And.intro))
    · rintro i ⟨h1, h2⟩
      repeat' first | ((first | refine Br.dec ?_ ?_ | refine Br.eqi ?_ ?_) <;> intro h <;> try (exfalso; omega)) | (simp (disch := first | omega | (simp only [vlen]; first | done | omega)) only [vmy, ↓vAq, vBq, ↓reduceIte, Nat.reduceBEq, Nat.reduceEqDiff, Nat.reduceLT, Nat.reduceLeDiff, Nat.reduceAdd, Nat.reduceMul, Nat.reduceSub, reduceCtorEq, Int.reduceToNat]) | (refine Br.mk ?_ ?_ <;> intro h) | (refine BrN.mk (fun h => ?_) ?_) | (refine AltVC.mk ?_ ?_)
      · have e : a.getD i 0 = b.getD i 0 := by omega
        refine loopK.mk (i + 1) (by simp (disch := first | omega | (simp only [vlen]; first | done | omega)) only [↓vAq, vBq, ↓reduceIte, Nat.reduceBEq, Nat.reduceEqDiff, Nat.reduceLT, Nat.reduceLeDiff, Nat.reduceAdd, Nat.reduceMul, Nat.reduceSub, reduceCtorEq, Int.reduceToNat]) ⟨by omega, fun j hj => ?_⟩ (by omega) (by (simp (disch := first | omega | (simp only [vlen]; first | done | omega)) only [Fits_u, Fits_m, Fits_nil, List.length_append, vmy, ↓vAq, vBq, ↓reduceIte, Nat.reduceBEq, Nat.reduceEqDiff, Nat.reduceLT, Nat.reduceLeDiff, Nat.reduceAdd, Nat.reduceMul, Nat.reduceSub, reduceCtorEq, Int.reduceToNat] <;> (repeat' first | rfl | apply And.intro)))
        by_cases e2 : j = i
        · subst e2; exact e
        · exact h2 j (by omega)
      · exact fin_mk (vbEq (decide_eq_false (fun e => by subst e; omega)).symm)
      · refine fin_mk (vbEq (decide_eq_true ?_).symm)
        apply List.ext_getElem (by omega)
        intro j h3 h4
        have := h2 j (by omega)
        simpa [List.getD, h3, h4] using this
  · exact fin_mk (vbEq (by rw [decide_eq_false (fun e => by subst e; omega)]))
end Go.Proofs.Ytjekkbpdgnohcaa
