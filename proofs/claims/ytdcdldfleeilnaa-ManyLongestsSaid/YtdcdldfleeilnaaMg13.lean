/-
 Texts of this claim, one behind another.
-/
import Derived.Test.YtdcdldfleeilnaaMg9
import Derived.Test.YtdcdldfleeilnaaMg11
import Derived.Test.YtdcdldfleeilnaaCode
import Derived.WalkKit
import Derived.Shelf.SlSortCmp.NoneTotal
import Derived.Shelf.Sort.Plain
import Derived.Shelf.Slices.In.SortNone
import Derived.Test.YtdcdldfleeilnaaProg
import Derived.Shelf.Lays
namespace Go.Proofs.Ytdcdldfleeilnaa
open Go.Dm
set_option linter.unusedSimpArgs false
set_option linter.unnecessarySimpa false
set_option linter.unusedVariables false
theorem mixed : Try.prog.follows .mixedOrders = true := by kernel_rfl
theorem take_succ_eq {α : Type} [Inhabited α] {a b : List α} {k : Nat} (he : a.take k = b.take k) (ha : k < a.length) (hb : k < b.length) (x : α) (h : a.getD k x = b.getD k x) : a.take (k + 1) = b.take (k + 1) := by
  rw [List.take_add_one, List.take_add_one, he]
  have e1 : a[k]? = some (a.getD k x) := by simp [List.getD, ha]
  have e2 : b[k]? = some (b.getD k x) := by simp [List.getD, hb]
  rw [e1, e2, h]
set_option maxHeartbeats 1000000 in
theorem bytes_vc (a b : List UInt8) (ha : a.length ≤ 1099511627776) : vc Try.prog m29 [.f (finQ r29 (· = .v (.bool (decide (a = b)))))] (S.init [.sl 1 (u8s a), .sl 1 (u8s b)]) := by
  unfold m29 r29
  simp (disch := omega) only [↓vAq, vBq, ↓reduceIte, Nat.reduceBEq, Nat.reduceEqDiff, Nat.reduceLT, Nat.reduceLeDiff, Nat.reduceAdd, Nat.reduceMul, Nat.reduceSub, reduceCtorEq, Int.reduceToNat]
  refine Br.eqi (fun h => ?_) (fun h => ?_)
  · have hl : a.length = b.length := by omega
    simp (disch := omega) only [↓vAq, vBq, ↓reduceIte, Nat.reduceBEq, Nat.reduceEqDiff, Nat.reduceLT, Nat.reduceLeDiff, Nat.reduceAdd, Nat.reduceMul, Nat.reduceSub, reduceCtorEq, Int.reduceToNat]
    refine LoopVC.mk (X := Nat) (fun k => [(5, iv .i64 k)]) (fun _ => []) (fun k => a.length - k) (fun k => k ≤ a.length ∧ a.take k = b.take k) 0 ⟨by omega, by simp⟩ ?_ ?_
    · (simp (disch := first | omega | (simp only [vlen]; first | done | omega)) only [Fits_u, Fits_m, Fits_nil, List.length_append, ↓vAq, vBq, ↓reduceIte, Nat.reduceBEq, Nat.reduceEqDiff, Nat.reduceLT, Nat.reduceLeDiff, Nat.reduceAdd, Nat.reduceMul, Nat.reduceSub, reduceCtorEq, Int.reduceToNat] <;> (repeat' first | rfl | apply And.intro))
    · rintro k ⟨hk, he⟩
      simp (disch := omega) only [↓vAq, vBq, ↓reduceIte, Nat.reduceBEq, Nat.reduceEqDiff, Nat.reduceLT, Nat.reduceLeDiff, Nat.reduceAdd, Nat.reduceMul, Nat.reduceSub, reduceCtorEq, Int.reduceToNat]
      refine Br.dec (fun h => ?_) (fun h => ?_)
      · simp (disch := omega) only [↓vAq, vBq, ↓reduceIte, Nat.reduceBEq, Nat.reduceEqDiff, Nat.reduceLT, Nat.reduceLeDiff, Nat.reduceAdd, Nat.reduceMul, Nat.reduceSub, reduceCtorEq, Int.reduceToNat]
        refine Br.eqi (fun h2 => ?_) (fun h2 => ?_)
        · simp (disch := omega) only [↓vAq, vBq, ↓reduceIte, Nat.reduceBEq, Nat.reduceEqDiff, Nat.reduceLT, Nat.reduceLeDiff, Nat.reduceAdd, Nat.reduceMul, Nat.reduceSub, reduceCtorEq, Int.reduceToNat]
          refine loopK.mk (k + 1) (by simp (disch := omega) only [↓vAq, vBq, ↓reduceIte, Nat.reduceBEq, Nat.reduceEqDiff, Nat.reduceLT, Nat.reduceLeDiff, Nat.reduceAdd, Nat.reduceMul, Nat.reduceSub, reduceCtorEq, Int.reduceToNat]) ⟨by omega, take_succ_eq he (by omega) (by omega) 0 ?_⟩ (by omega) ?_
          · exact UInt8.toNat_inj.1 (by omega)
          · (simp (disch := first | omega | (simp only [vlen]; first | done | omega)) only [Fits_u, Fits_m, Fits_nil, List.length_append, ↓vAq, vBq, ↓reduceIte, Nat.reduceBEq, Nat.reduceEqDiff, Nat.reduceLT, Nat.reduceLeDiff, Nat.reduceAdd, Nat.reduceMul, Nat.reduceSub, reduceCtorEq, Int.reduceToNat] <;> (repeat' first | rfl | apply And.intro))
        · simp (disch := omega) only [↓vAq, vBq, ↓reduceIte, Nat.reduceBEq, Nat.reduceEqDiff, Nat.reduceLT, Nat.reduceLeDiff, Nat.reduceAdd, Nat.reduceMul, Nat.reduceSub, reduceCtorEq, Int.reduceToNat]
          refine fin_mk ?_
          rw [decide_eq_false]
          intro e
          subst e
          exact h2 rfl
      · simp (disch := omega) only [↓vAq, vBq, ↓reduceIte, Nat.reduceBEq, Nat.reduceEqDiff, Nat.reduceLT, Nat.reduceLeDiff, Nat.reduceAdd, Nat.reduceMul, Nat.reduceSub, reduceCtorEq, Int.reduceToNat]
        refine fin_mk ?_
        have e : k = a.length := by omega
        subst e
        rw [List.take_length, hl, List.take_length] at he
        rw [decide_eq_true he]
  · simp (disch := omega) only [↓vAq, vBq, ↓reduceIte, Nat.reduceBEq, Nat.reduceEqDiff, Nat.reduceLT, Nat.reduceLeDiff, Nat.reduceAdd, Nat.reduceMul, Nat.reduceSub, reduceCtorEq, Int.reduceToNat]
    refine fin_mk ?_
    rw [decide_eq_false]
    intro e
    subst e
    exact h rfl
theorem bytes_spec (a b : List UInt8) (ha : a.length ≤ 1099511627776) : Dm.Spec Try.prog 29 [.sl 1 (u8s a), .sl 1 (u8s b)] (· = .v (.bool (decide (a = b)))) :=
  spec_of_vc mixed Try.func29 c29 (by rw [show Try.f29.ntmps = _ from Try.ntmps29]; simp) (bytes_vc a b ha)
end Go.Proofs.Ytdcdldfleeilnaa

namespace Go.Proofs.Ytdcdldfleeilnaa
open Go.Dm
set_option linter.unusedSimpArgs false
set_option linter.unnecessarySimpa false
set_option linter.unusedVariables false
def idxOf {α : Type} (p : α → Bool) (l : List α) : Int := if l.any p = true then ((l.findIdx p : Nat) : Int) else -1
theorem idxOf_hit {α : Type} [Inhabited α] {p : α → Bool} {l : List α} {i : Nat} (hi : i < l.length) (h : p (l.getD i default) = true) (hn : ∀ j, j < i → p (l.getD j default) = false) : idxOf p l = i := by
  have e : ∀ j (hj : j < l.length), l.getD j default = l[j] := fun j hj => by simp [List.getD, hj]
  unfold idxOf
  rw [if_pos (List.any_eq_true.2 ⟨l[i], List.getElem_mem hi, by rw [← e i hi]; exact h⟩)]
  rw [(List.findIdx_eq hi).2 ⟨by rw [← e i hi]; exact h, fun j hj => by rw [← e j (by omega)]; exact hn j hj⟩]
theorem any_none {α : Type} [Inhabited α] {p : α → Bool} {l : List α} {i : Nat} (hi : l.length ≤ i) (hn : ∀ j, j < i → p (l.getD j default) = false) : l.any p = false := by
  rw [List.any_eq_false]
  intro x hx
  obtain ⟨j, hj, e⟩ := mem_getD hx
  rw [← e, hn j (by omega)]
  simp
theorem idxOf_miss {α : Type} [Inhabited α] {p : α → Bool} {l : List α} {i : Nat} (hi : l.length ≤ i) (hn : ∀ j, j < i → p (l.getD j default) = false) : idxOf p l = -1 := by
  unfold idxOf
  rw [if_neg (by rw [any_none hi hn]; simp)]
theorem idxOf_geq {α : Type} {p : α → Bool} {l : List α} : decide (0 ≤ idxOf p l) = l.any p := by
  unfold idxOf
  by_cases h : l.any p = true
  · rw [if_pos h, h]; exact decide_eq_true (by omega)
  · rw [if_neg h, Bool.not_eq_true] at *; rw [h]; rfl
theorem cl_lf {f : D → D} (hf : ∀ d, clL d = true → f d = d) : ∀ d : D, d.cl = true → d.lf f = d
  | .ag ds, h => by
    have hd : ∀ d, d ∈ ds → d.cl = true := fun d hm => by rw [D.cl, alls_ag] at h; exact List.all_eq_true.1 h d hm
    have ih : ∀ d, d ∈ ds → d.lf f = d := fun d hm => cl_lf hf d (hd d hm)
    rw [lf_ag, List.map_congr_left ih, List.map_id']
  | .tu ds, h => by
    have hd : ∀ d, d ∈ ds → d.cl = true := fun d hm => by rw [D.cl, alls_tu] at h; exact List.all_eq_true.1 h d hm
    have ih : ∀ d, d ∈ ds → d.lf f = d := fun d hm => cl_lf hf d (hd d hm)
    rw [lf_tu, List.map_congr_left ih, List.map_id']
  | .clo g ds, h => by
    have hd : ∀ d, d ∈ ds → d.cl = true := fun d hm => by rw [cl_clo] at h; exact List.all_eq_true.1 h d hm
    have ih : ∀ d, d ∈ ds → d.lf f = d := fun d hm => cl_lf hf d (hd d hm)
    rw [lf_clo, List.map_congr_left ih, List.map_id']
  | .v x, h => by rw [lf_leaf rfl]; exact hf _ rfl
  | .nl, h => by rw [lf_leaf rfl]; exact hf _ rfl
  | .sl _ _, h => by rw [lf_leaf rfl]; exact hf _ rfl
  | .ip _ _, h => by rw [lf_leaf rfl]; exact hf _ rfl
  | .ref _ _ _ _, h => by rw [D.cl, alls_leaf rfl] at h; cases h
  | .ptr _ _ _ _, h => by rw [D.cl, alls_leaf rfl] at h; cases h
  | .mp _, h => by rw [D.cl, alls_leaf rfl] at h; cases h
  | .own _ _ _, h => by rw [D.cl, alls_leaf rfl] at h; cases h
  | .omp _ _ _, h => by rw [D.cl, alls_leaf rfl] at h; cases h
  | .junk, h => by rw [D.cl, alls_leaf rfl] at h; cases h
termination_by d => SizeOf.sizeOf d
decreasing_by all_goals (have := List.sizeOf_lt_of_mem hm; simp; omega)
theorem cl_J : ∀ d : D, d.alls clL = true → d.alls clJ = true
  | .ag ds, h => by
    rw [alls_ag] at h ⊢
    exact List.all_eq_true.2 fun d hm => cl_J d (List.all_eq_true.1 h d hm)
  | .tu ds, h => by
    rw [alls_tu] at h ⊢
    exact List.all_eq_true.2 fun d hm => cl_J d (List.all_eq_true.1 h d hm)
  | .clo g ds, h => by
    rw [alls_clo] at h ⊢
    exact List.all_eq_true.2 fun d hm => cl_J d (List.all_eq_true.1 h d hm)
  | .v x, h => by rw [alls_leaf rfl]; rfl
  | .nl, h => by rw [alls_leaf rfl]; rfl
  | .sl _ _, h => by rw [alls_leaf rfl]; rfl
  | .ip _ _, h => by rw [alls_leaf rfl]; rfl
  | .ref _ _ _ _, h => by rw [alls_leaf rfl] at h; cases h
  | .ptr _ _ _ _, h => by rw [alls_leaf rfl] at h; cases h
  | .mp _, h => by rw [alls_leaf rfl] at h; cases h
  | .own _ _ _, h => by rw [alls_leaf rfl] at h; cases h
  | .omp _ _ _, h => by rw [alls_leaf rfl] at h; cases h
  | .junk, h => by rw [alls_leaf rfl] at h; cases h
termination_by d => SizeOf.sizeOf d
decreasing_by all_goals (have := List.sizeOf_lt_of_mem hm; simp; omega)
section
variable {ds : List D} (hd : ds.all D.cl = true)
include hd
theorem map_lf {f : D → D} (hf : ∀ d, clL d = true → f d = d) : ds.map (D.lf f) = ds := by
  rw [List.map_congr_left (fun d hm => cl_lf hf d (List.all_eq_true.1 hd d hm)), List.map_id']
theorem cl_trims (n : Nat) : (ds.map fun d => d.trim n) = ds := map_lf hd (f := trimL n) (fun d h => by cases d <;> first | rfl | cases h)
theorem cl_views (s : S) : ds.map s.view = ds := map_lf hd (f := s.viewL) (fun d h => by cases d <;> first | rfl | cases h)
theorem cl_owned : ds.any D.owned = false := by
  rw [List.any_eq_false]
  intro d hm
  have h := List.all_eq_true.1 hd d hm
  have : d.alls clJ = true := by
    revert h
    unfold D.cl
    exact cl_J d
  simp [D.owned, this]
end
set_option maxRecDepth 10000 in
set_option maxHeartbeats 4000000 in
theorem idxF_words (l : List (List UInt8)) (p : List UInt8 → Bool) (f : FuncId) (ds : List D) (hl : l.length ≤ 9223372036854775807) (hd : ds.all D.cl = true) (hp : ∀ a, a ∈ l → Dm.Spec Try.prog f (.sl 1 (u8s a) :: ds) (· = .v (.bool (p a)))) : Dm.Spec Try.prog 40 [.sl 1 (rows u8s l), .clo f ds] (· = .v (.int .i64 (idxOf p l))) := by
  refine spec_of_vc mixed Try.func40 c40 (by rw [show Try.f40.ntmps = _ from Try.ntmps40]; simp) ?_
  unfold m40 r40
  repeat' first | ((first | refine Br.dec ?_ ?_ | refine Br.eqi ?_ ?_) <;> intro h <;> try (exfalso; omega)) | (simp (disch := first | omega | (simp only [vlen]; first | done | omega)) only [↓vAq, vBq, ↓reduceIte, Nat.reduceBEq, Nat.reduceEqDiff, Nat.reduceLT, Nat.reduceLeDiff, Nat.reduceAdd, Nat.reduceMul, Nat.reduceSub, reduceCtorEq, Int.reduceToNat]) | (refine Br.mk ?_ ?_ <;> intro h) | (refine BrN.mk (fun h => ?_) ?_) | (refine AltVC.mk ?_ ?_)
  refine LoopVC.mk (X := Nat) (fun i => [(1, .clo f ds), (8, iv .i64 i)]) (fun _ => []) (fun i => l.length - i) (fun i => i ≤ l.length ∧ ∀ j, j < i → p (l.getD j default) = false) 0 ⟨by omega, by omega⟩ ?_ ?_
  · (simp (disch := first | omega | (simp only [vlen]; first | done | omega)) only [Fits_u, Fits_m, Fits_nil, List.length_append, ↓vAq, vBq, ↓reduceIte, Nat.reduceBEq, Nat.reduceEqDiff, Nat.reduceLT, Nat.reduceLeDiff, Nat.reduceAdd, Nat.reduceMul, Nat.reduceSub, reduceCtorEq, Int.reduceToNat] <;> (repeat' first | rfl | apply And.intro))
  · rintro i ⟨hi, hn⟩
    repeat' first | ((first | refine Br.dec ?_ ?_ | refine Br.eqi ?_ ?_) <;> intro h <;> try (exfalso; omega)) | (simp (disch := first | omega | (simp only [vlen]; first | done | omega)) only [↓vAq, vBq, ↓reduceIte, Nat.reduceBEq, Nat.reduceEqDiff, Nat.reduceLT, Nat.reduceLeDiff, Nat.reduceAdd, Nat.reduceMul, Nat.reduceSub, reduceCtorEq, Int.reduceToNat]) | (refine Br.mk ?_ ?_ <;> intro h) | (refine BrN.mk (fun h => ?_) ?_) | (refine AltVC.mk ?_ ?_)
    · rw [cl_views hd, cl_owned hd]
      refine CallVC.eq (hp (l.getD i default) (getD_mem' (by omega))) ?_
      repeat' first | ((first | refine Br.dec ?_ ?_ | refine Br.eqi ?_ ?_) <;> intro h <;> try (exfalso; omega)) | (simp (disch := first | omega | (simp only [vlen]; first | done | omega)) only [↓vAq, vBq, ↓reduceIte, Nat.reduceBEq, Nat.reduceEqDiff, Nat.reduceLT, Nat.reduceLeDiff, Nat.reduceAdd, Nat.reduceMul, Nat.reduceSub, reduceCtorEq, Int.reduceToNat]) | (refine Br.mk ?_ ?_ <;> intro h) | (refine BrN.mk (fun h => ?_) ?_) | (refine AltVC.mk ?_ ?_)
      · refine fin_mk (viEq ?_)
        rw [idxOf_hit (by omega) (by assumption) hn]
      · refine loopK.mk (i + 1) (by simp (disch := first | omega | (simp only [vlen]; first | done | omega)) only [↓vAq, vBq, ↓reduceIte, Nat.reduceBEq, Nat.reduceEqDiff, Nat.reduceLT, Nat.reduceLeDiff, Nat.reduceAdd, Nat.reduceMul, Nat.reduceSub, reduceCtorEq, Int.reduceToNat]) ⟨by omega, fun j hj => ?_⟩ (by omega) ?_
        · by_cases e : j = i
          · subst e; assumption
          · exact hn j (by omega)
        · (simp (disch := first | omega | (simp only [vlen]; first | done | omega)) only [Fits_u, Fits_m, Fits_nil, List.length_append, ↓vAq, vBq, ↓reduceIte, Nat.reduceBEq, Nat.reduceEqDiff, Nat.reduceLT, Nat.reduceLeDiff, Nat.reduceAdd, Nat.reduceMul, Nat.reduceSub, reduceCtorEq, Int.reduceToNat] <;> (repeat' first | rfl | apply And.intro))
          rw [cl_trims hd]
    · refine fin_mk (viEq ?_)
      rw [idxOf_miss (by omega) hn]
set_option maxRecDepth 10000 in
set_option maxHeartbeats 4000000 in
theorem conF_words (l : List (List UInt8)) (p : List UInt8 → Bool) (f : FuncId) (ds : List D) (hl : l.length ≤ 9223372036854775807) (hd : ds.all D.cl = true) (hp : ∀ a, a ∈ l → Dm.Spec Try.prog f (.sl 1 (u8s a) :: ds) (· = .v (.bool (p a)))) : Dm.Spec Try.prog 34 [.sl 1 (rows u8s l), .clo f ds] (· = .v (.bool (l.any p))) := by
  refine spec_of_vc mixed Try.func34 c34 (by rw [show Try.f34.ntmps = _ from Try.ntmps34]; simp) ?_
  unfold m34 r34
  repeat' first | ((first | refine Br.dec ?_ ?_ | refine Br.eqi ?_ ?_) <;> intro h <;> try (exfalso; omega)) | (simp (disch := first | omega | (simp only [vlen]; first | done | omega)) only [↓vAq, vBq, ↓reduceIte, Nat.reduceBEq, Nat.reduceEqDiff, Nat.reduceLT, Nat.reduceLeDiff, Nat.reduceAdd, Nat.reduceMul, Nat.reduceSub, reduceCtorEq, Int.reduceToNat]) | (refine Br.mk ?_ ?_ <;> intro h) | (refine BrN.mk (fun h => ?_) ?_) | (refine AltVC.mk ?_ ?_)
  rw [cl_views hd, cl_owned hd]
  refine CallVC.eq (idxF_words l p f ds hl hd hp) ?_
  repeat' first | ((first | refine Br.dec ?_ ?_ | refine Br.eqi ?_ ?_) <;> intro h <;> try (exfalso; omega)) | (simp (disch := first | omega | (simp only [vlen]; first | done | omega)) only [↓vAq, vBq, ↓reduceIte, Nat.reduceBEq, Nat.reduceEqDiff, Nat.reduceLT, Nat.reduceLeDiff, Nat.reduceAdd, Nat.reduceMul, Nat.reduceSub, reduceCtorEq, Int.reduceToNat]) | (refine Br.mk ?_ ?_ <;> intro h) | (refine BrN.mk (fun h => ?_) ?_) | (refine AltVC.mk ?_ ?_)
  exact fin_mk (vbEq idxOf_geq)
end Go.Proofs.Ytdcdldfleeilnaa

namespace Go.Proofs.Ytdcdldfleeilnaa
open Go.Dm
set_option linter.unusedSimpArgs false
set_option linter.unnecessarySimpa false
set_option linter.unusedVariables false
set_option linter.defProp false
structure Nd where
  nx : List (UInt8 × Nat)
  fl : Nat
  lo : Nat
  ws : List Nat
instance : Inhabited Nd := ⟨⟨[], 0, 0, []⟩⟩
abbrev acK : Kd := .map [.u8] false false
def acE (e : UInt8 × Nat) : List D := [.v (.int .u8 (e.1.toNat : Int)), iv .i64 e.2]
def natI (l : List Nat) : List Int := l.map fun i : Nat => (i : Int)
theorem natI_len {l : List Nat} : (natI l).length = l.length := by simp [natI]
theorem natI_app {a b : List Nat} : natI (a ++ b) = natI a ++ natI b := by simp [natI]
def ndD (x : Nd) : List D := [.omp acK 2 (tbl acE x.nx), iv .i64 x.fl, iv .i64 x.lo, .own false 1 (i64s (natI x.ws))]
theorem ndD_eq {x : Nd} : ndD x = [.omp acK 2 (tbl acE x.nx), iv .i64 x.fl, iv .i64 x.lo, .own false 1 (i64s (natI x.ws))] := (rfl)
theorem nd_set {T : List Nd} {i : Nat} {nx : List (UInt8 × Nat)} {fl lo : Nat} {ws : List Nat} : (tbl ndD T).set i [.omp acK 2 (tbl acE nx), D.v (.int .i64 (fl : Int)), D.v (.int .i64 (lo : Int)), .own false 1 (i64s (natI ws))] = tbl ndD (T.set i ⟨nx, fl, lo, ws⟩) := by rw [← tbl_set]; rfl
theorem nd_same {T : List Nd} {i : Nat} (h : i < T.length) : T.set i ⟨(T.getD i default).nx, (T.getD i default).fl, (T.getD i default).lo, (T.getD i default).ws⟩ = T := by
  apply List.ext_getElem (by simp)
  intro j h1 h2
  rw [List.getElem_set]
  split
  · next e => subst e; simp [List.getD_eq_getElem?_getD, h]
  · rfl
theorem nd_kill {τ : Nat} (x : Nd) : (ndD x).map (D.kill τ) = ndD x := by simp [ndD, kill_om, kill_oo, kill_v]
theorem nds_kill {T : List Nd} {i τ : Nat} {x : List D} : List.map (fun e => List.map (D.kill τ) e) ((tbl ndD T).set i x) = (tbl ndD T).set i (x.map (D.kill τ)) := by
  have e : ((fun e => List.map (D.kill τ) e) ∘ ndD) = ndD := by funext x; exact nd_kill x
  simp [List.map_set, tbl, e]
theorem nd_all {T : List Nd} : (tbl ndD T).all (fun e => e.all D.clo') = true := by simp [tbl, ndD, clo'_omp, clo'_own, clo'_v]
theorem gs_same {l : List (List D)} {i : Nat} {x d : List D} (h : i < l.length) : (l.set i x).getD i d = x := by simp [List.getD_eq_getElem?_getD, h]
theorem ac_in {l : List (UInt8 × Nat)} {c : UInt8} {r : Nat} (hr : r < (tbl acE l).length) (he : Agr (((tbl acE l).getD r []).take 1) [.v (.int .u8 (c.toNat : Int))]) : ∃ b, (c, b) ∈ l ∧ (tbl acE l).getD r [] = [.v (.int .u8 (c.toNat : Int)), iv .i64 b] := by
  have hr' : r < l.length := by simpa [tbl] using hr
  have e : (tbl acE l).getD r [] = acE (l.getD r default) := by simp [tbl, List.getD_eq_getElem?_getD, hr']
  have hm := getD_mem' (l := l) (i := r) hr'
  rw [e] at he ⊢
  generalize l.getD r default = y at *
  obtain ⟨d, b⟩ := y
  simp only [acE, List.take_succ_cons, List.take_zero, Agr_v, D.v.injEq, Value.int.injEq, true_and, Int.natCast_inj] at he
  have hc : d = c := UInt8.toNat_inj.1 he.1
  subst hc
  exact ⟨b, hm, rfl⟩
theorem ac_out {l : List (UInt8 × Nat)} {c : UInt8} (hn : ∀ r, r < (tbl acE l).length → ((tbl acE l).getD r []).take 1 ≠ [.v (.int .u8 (c.toNat : Int))]) : ¬ ∃ b, (c, b) ∈ l := fun ⟨b, h⟩ => by
  obtain ⟨r, hr, e⟩ := List.mem_iff_getElem.1 h
  refine hn r (by simpa [tbl] using hr) ?_
  have : (tbl acE l).getD r [] = acE (c, b) := by simp [tbl, List.getD_eq_getElem?_getD, hr, e]
  rw [this]; rfl
theorem ac_app {l : List (UInt8 × Nat)} {c : UInt8} {b : Nat} : tbl acE l ++ [[D.v (.int .u8 (c.toNat : Int)), D.v (.int .i64 (b : Int))]] = tbl acE (l ++ [(c, b)]) := by rw [tbl_app]; rfl
def vac := And.intro vmr <| And.intro @gs_same <| And.intro @ndD_eq <| And.intro @nd_set <| And.intro @nd_same <| And.intro @nds_kill <| And.intro @nd_all <| And.intro @ac_app @natI_len
def ntO (T : List Nd) : List Ob := [⟨4, tbl ndD T, true, true, .fix⟩]
theorem nt_fin {T : List Nd} {s : Go.Dm.S} {d : D} {R : D → List (Option Ob) → Prop} (h1 : 1 ≤ s.N) (h2 : fitL s 1 0 ((ntO T).map some)) (hd : R (d.trim 1) ((ntO T).map some)) : FinH 1 R s d :=
  finH_mk ((ntO T).map some) (by simp [ntO]) (by simpa [ntO] using h1) (by simpa [ntO] using h2) hd
structure Tri (Ss : List (List UInt8)) (T : List Nd) : Prop where
  len : T.length = Ss.length
  pos : 0 < Ss.length
  nod : Ss.Nodup
  zero : Ss.getD 0 [] = []
  nx : ∀ a, a < T.length → ∀ c b, (c, b) ∈ (T.getD a default).nx ↔ b < T.length ∧ Ss.getD b [] = Ss.getD a [] ++ [c]
  lo : ∀ a, a < T.length → (T.getD a default).lo = (Ss.getD a []).length
  pc : PC Ss
def FlOk (Ss : List (List UInt8)) (T : List Nd) (a : Nat) : Prop := (T.getD a default).fl < T.length ∧ LS Ss (Ss.getD a []).tail (Ss.getD (T.getD a default).fl [])
theorem str_inj {Ss : List (List UInt8)} (hn : Ss.Nodup) {a b : Nat} (ha : a < Ss.length) (hb : b < Ss.length) (h : Ss.getD a [] = Ss.getD b []) : a = b := by
  simp only [List.getD_eq_getElem?_getD, List.getElem?_eq_getElem ha, List.getElem?_eq_getElem hb, Option.getD_some] at h
  exact (List.getElem_inj hn).1 h
theorem str_mem {Ss : List (List UInt8)} {a : Nat} (ha : a < Ss.length) : Ss.getD a [] ∈ Ss := by
  rw [List.getD_eq_getElem?_getD, List.getElem?_eq_getElem ha]; exact List.getElem_mem ha
theorem mem_str {Ss : List (List UInt8)} {u : List UInt8} (h : u ∈ Ss) : ∃ a, a < Ss.length ∧ Ss.getD a [] = u := by
  obtain ⟨a, ha, e⟩ := List.mem_iff_getElem.1 h
  exact ⟨a, ha, by rw [List.getD_eq_getElem?_getD, List.getElem?_eq_getElem ha]; exact e⟩
theorem Tri.ne {Ss : List (List UInt8)} {T : List Nd} (h : Tri Ss T) {a : Nat} (ha : a < T.length) (h0 : a ≠ 0) : Ss.getD a [] ≠ [] := fun e => h0 (str_inj h.nod (by rw [← h.len]; exact ha) h.pos (by rw [e, h.zero]))
def StR (Ss : List (List UInt8)) (T : List Nd) (u : List UInt8) (d : D) (o : List (Option Ob)) : Prop := o = (ntO T).map some ∧ ∃ b : Nat, d = iv .i64 b ∧ b < T.length ∧ LS Ss u (Ss.getD b [])
set_option maxRecDepth 10000 in
set_option maxHeartbeats 4000000 in
theorem step_spec (Ss : List (List UInt8)) (T : List Nd) (hT : Tri Ss T) (hlen : T.length ≤ 100000) (L : Nat) (hL : L ≤ 100000) (hok : ∀ a, a < T.length → a ≠ 0 → (Ss.getD a []).length ≤ L → FlOk Ss T a) (at0 : Nat) (ha0 : at0 < T.length) (hl0 : (Ss.getD at0 []).length ≤ L) (c : UInt8) : Dm.SpecH Try.prog 28 [.ref 0 4 0 T.length, iv .i64 at0, .v (.int .u8 (c.toNat : Int))] (ntO T) (StR Ss T (Ss.getD at0 [] ++ [c])) := by
  refine specH_of_vc mixed Try.func28 c28 (by rw [show Try.f28.ntmps = _ from Try.ntmps28]; simp) ?_
  unfold m28 r28
  unfold ntO
  repeat' first | ((first | refine Br.dec ?_ ?_ | refine Br.eqi ?_ ?_) <;> intro h <;> try (exfalso; omega)) | (simp (disch := first | omega | (simp only [vlen]; first | done | omega)) only [vac, ↓vAq, vBq, ↓reduceIte, Nat.reduceBEq, Nat.reduceEqDiff, Nat.reduceLT, Nat.reduceLeDiff, Nat.reduceAdd, Nat.reduceMul, Nat.reduceSub, reduceCtorEq, Int.reduceToNat]) | (refine Br.mk ?_ ?_ <;> intro h) | (refine BrN.mk (fun h => ?_) ?_) | (refine AltVC.mk ?_ ?_)
  refine LoopVC.mk (X := Nat) (fun a => [(1, iv .i64 a), (0, .ref 0 4 0 T.length)]) (fun _ => [(0, ⟨4, tbl ndD T, true, true, .fix⟩)]) (fun a => (Ss.getD a []).length) (fun a => a < T.length ∧ (Ss.getD a []).length ≤ L ∧ ∀ v, LS Ss (Ss.getD a [] ++ [c]) v → LS Ss (Ss.getD at0 [] ++ [c]) v) at0 ⟨ha0, hl0, fun _ h => h⟩ ?_ ?_
  · (simp (disch := first | omega | (simp only [vlen]; first | done | omega)) only [Fits_u, Fits_m, Fits_nil, List.length_append, vac, ↓vAq, vBq, ↓reduceIte, Nat.reduceBEq, Nat.reduceEqDiff, Nat.reduceLT, Nat.reduceLeDiff, Nat.reduceAdd, Nat.reduceMul, Nat.reduceSub, reduceCtorEq, Int.reduceToNat] <;> (repeat' first | rfl | apply And.intro))
  · rintro a ⟨h1, h2, h3⟩
    have hnx := hT.nx a h1 c
    have hc8 : c.toNat < 256 := c.toNat_lt
    have hS := str_mem (Ss := Ss) (a := a) (by rw [← hT.len]; exact h1)
    repeat' first | ((first | refine Br.dec ?_ ?_ | refine Br.eqi ?_ ?_) <;> intro h <;> try (exfalso; omega)) | (simp (disch := first | omega | (simp only [vlen]; first | done | omega)) only [vac, ↓vAq, vBq, ↓reduceIte, Nat.reduceBEq, Nat.reduceEqDiff, Nat.reduceLT, Nat.reduceLeDiff, Nat.reduceAdd, Nat.reduceMul, Nat.reduceSub, reduceCtorEq, Int.reduceToNat]) | (refine Br.mk ?_ ?_ <;> intro h) | (refine BrN.mk (fun h => ?_) ?_) | (refine AltVC.mk ?_ ?_)
    refine BrK.mk (fun r hr he => ?_) (fun hn => ?_)
    · obtain ⟨b, hb, hR⟩ := ac_in hr he
      obtain ⟨b1, b2⟩ := (hnx b).1 hb
      repeat' first | ((first | refine Br.dec ?_ ?_ | refine Br.eqi ?_ ?_) <;> intro h <;> try (exfalso; omega)) | (simp (disch := first | omega | (simp only [vlen]; first | done | omega)) only [hR, vac, ↓vAq, vBq, ↓reduceIte, Nat.reduceBEq, Nat.reduceEqDiff, Nat.reduceLT, Nat.reduceLeDiff, Nat.reduceAdd, Nat.reduceMul, Nat.reduceSub, reduceCtorEq, Int.reduceToNat]) | (refine Br.mk ?_ ?_ <;> intro h) | (refine BrN.mk (fun h => ?_) ?_) | (refine AltVC.mk ?_ ?_)
      refine FinH.fold 1 0 a 0 true (by simp [D.kill, D.lf, killL]) ?_
      repeat' first | ((first | refine Br.dec ?_ ?_ | refine Br.eqi ?_ ?_) <;> intro h <;> try (exfalso; omega)) | (simp (disch := first | omega | (simp only [vlen]; first | done | omega)) only [vac, ↓vAq, vBq, ↓reduceIte, Nat.reduceBEq, Nat.reduceEqDiff, Nat.reduceLT, Nat.reduceLeDiff, Nat.reduceAdd, Nat.reduceMul, Nat.reduceSub, reduceCtorEq, Int.reduceToNat]) | (refine Br.mk ?_ ?_ <;> intro h) | (refine BrN.mk (fun h => ?_) ?_) | (refine AltVC.mk ?_ ?_)
      refine nt_fin (T := T) (by simp (disch := first | omega | (simp only [vlen]; first | done | omega)) only [vac, ↓vAq, vBq, ↓reduceIte, Nat.reduceBEq, Nat.reduceEqDiff, Nat.reduceLT, Nat.reduceLeDiff, Nat.reduceAdd, Nat.reduceMul, Nat.reduceSub, reduceCtorEq, Int.reduceToNat]) (by unfold ntO; simp (disch := first | omega | (simp only [vlen]; first | done | omega)) only [vac, ↓vAq, vBq, ↓reduceIte, Nat.reduceBEq, Nat.reduceEqDiff, Nat.reduceLT, Nat.reduceLeDiff, Nat.reduceAdd, Nat.reduceMul, Nat.reduceSub, reduceCtorEq, Int.reduceToNat]) ⟨rfl, b, by simp (disch := first | omega | (simp only [vlen]; first | done | omega)) only [vac, ↓vAq, vBq, ↓reduceIte, Nat.reduceBEq, Nat.reduceEqDiff, Nat.reduceLT, Nat.reduceLeDiff, Nat.reduceAdd, Nat.reduceMul, Nat.reduceSub, reduceCtorEq, Int.reduceToNat], b1, h3 _ ?_⟩
      rw [b2]
      exact .self (b2 ▸ str_mem (by rw [← hT.len]; exact b1))
    · have hno := ac_out hn
      have hnm : Ss.getD a [] ++ [c] ∉ Ss := fun hm => by
        obtain ⟨b, b1, b2⟩ := mem_str hm
        exact hno ⟨b, (hnx b).2 ⟨by rw [hT.len]; exact b1, b2⟩⟩
      by_cases ha : a = 0
      · subst ha
        rw [hT.zero] at hnm h3
        repeat' first | ((first | refine Br.dec ?_ ?_ | refine Br.eqi ?_ ?_) <;> intro h <;> try (exfalso; omega)) | (simp (disch := first | omega | (simp only [vlen]; first | done | omega)) only [vac, ↓vAq, vBq, ↓reduceIte, Nat.reduceBEq, Nat.reduceEqDiff, Nat.reduceLT, Nat.reduceLeDiff, Nat.reduceAdd, Nat.reduceMul, Nat.reduceSub, reduceCtorEq, Int.reduceToNat]) | (refine Br.mk ?_ ?_ <;> intro h) | (refine BrN.mk (fun h => ?_) ?_) | (refine AltVC.mk ?_ ?_)
        refine FinH.fold 1 0 0 0 true (by simp [D.kill, D.lf, killL]) ?_
        repeat' first | ((first | refine Br.dec ?_ ?_ | refine Br.eqi ?_ ?_) <;> intro h <;> try (exfalso; omega)) | (simp (disch := first | omega | (simp only [vlen]; first | done | omega)) only [vac, ↓vAq, vBq, ↓reduceIte, Nat.reduceBEq, Nat.reduceEqDiff, Nat.reduceLT, Nat.reduceLeDiff, Nat.reduceAdd, Nat.reduceMul, Nat.reduceSub, reduceCtorEq, Int.reduceToNat]) | (refine Br.mk ?_ ?_ <;> intro h) | (refine BrN.mk (fun h => ?_) ?_) | (refine AltVC.mk ?_ ?_)
        refine nt_fin (T := T) (by simp (disch := first | omega | (simp only [vlen]; first | done | omega)) only [vac, ↓vAq, vBq, ↓reduceIte, Nat.reduceBEq, Nat.reduceEqDiff, Nat.reduceLT, Nat.reduceLeDiff, Nat.reduceAdd, Nat.reduceMul, Nat.reduceSub, reduceCtorEq, Int.reduceToNat]) (by unfold ntO; simp (disch := first | omega | (simp only [vlen]; first | done | omega)) only [vac, ↓vAq, vBq, ↓reduceIte, Nat.reduceBEq, Nat.reduceEqDiff, Nat.reduceLT, Nat.reduceLeDiff, Nat.reduceAdd, Nat.reduceMul, Nat.reduceSub, reduceCtorEq, Int.reduceToNat]) ⟨rfl, 0, by simp (disch := first | omega | (simp only [vlen]; first | done | omega)) only [vac, ↓vAq, vBq, ↓reduceIte, Nat.reduceBEq, Nat.reduceEqDiff, Nat.reduceLT, Nat.reduceLeDiff, Nat.reduceAdd, Nat.reduceMul, Nat.reduceSub, reduceCtorEq, Int.reduceToNat], h1, h3 _ ?_⟩
        rw [hT.zero]
        exact LS.zero hT.pc hnm
      · obtain ⟨f1, f2⟩ := hok a h1 ha h2
        have hne := hT.ne h1 ha
        obtain ⟨x, u, hxu⟩ : ∃ x u, Ss.getD a [] = x :: u := by
          match h : Ss.getD a [], hne with
          | x :: u, _ => exact ⟨x, u, rfl⟩
        rw [hxu] at h2 h3 hnm f2
        have hlt : (Ss.getD (T.getD a default).fl []).length < (Ss.getD a []).length := by
          rw [hxu]
          have := f2.1.length_le
          simp only [List.tail_cons] at this
          simp only [List.length_cons]; omega
        rw [hxu] at hlt
        repeat' first | ((first | refine Br.dec ?_ ?_ | refine Br.eqi ?_ ?_) <;> intro h <;> try (exfalso; omega)) | (simp (disch := first | omega | (simp only [vlen]; first | done | omega)) only [vac, ↓vAq, vBq, ↓reduceIte, Nat.reduceBEq, Nat.reduceEqDiff, Nat.reduceLT, Nat.reduceLeDiff, Nat.reduceAdd, Nat.reduceMul, Nat.reduceSub, reduceCtorEq, Int.reduceToNat]) | (refine Br.mk ?_ ?_ <;> intro h) | (refine BrN.mk (fun h => ?_) ?_) | (refine AltVC.mk ?_ ?_)
        refine loopK.fold 1 0 a 0 true ?_
        repeat' first | ((first | refine Br.dec ?_ ?_ | refine Br.eqi ?_ ?_) <;> intro h <;> try (exfalso; omega)) | (simp (disch := first | omega | (simp only [vlen]; first | done | omega)) only [vac, ↓vAq, vBq, ↓reduceIte, Nat.reduceBEq, Nat.reduceEqDiff, Nat.reduceLT, Nat.reduceLeDiff, Nat.reduceAdd, Nat.reduceMul, Nat.reduceSub, reduceCtorEq, Int.reduceToNat]) | (refine Br.mk ?_ ?_ <;> intro h) | (refine BrN.mk (fun h => ?_) ?_) | (refine AltVC.mk ?_ ?_)
        refine loopK.mk (T.getD a default).fl (by simp (disch := first | omega | (simp only [vlen]; first | done | omega)) only [vac, ↓vAq, vBq, ↓reduceIte, Nat.reduceBEq, Nat.reduceEqDiff, Nat.reduceLT, Nat.reduceLeDiff, Nat.reduceAdd, Nat.reduceMul, Nat.reduceSub, reduceCtorEq, Int.reduceToNat]) ⟨f1, by omega, fun v hv => h3 v ((LS.step hT.pc hnm f2).2 hv)⟩ (by show (Ss.getD (T.getD a default).fl []).length < (Ss.getD a []).length; rw [hxu]; exact hlt) ?_
        (simp (disch := first | omega | (simp only [vlen]; first | done | omega)) only [Fits_u, Fits_m, Fits_nil, List.length_append, vac, ↓vAq, vBq, ↓reduceIte, Nat.reduceBEq, Nat.reduceEqDiff, Nat.reduceLT, Nat.reduceLeDiff, Nat.reduceAdd, Nat.reduceMul, Nat.reduceSub, reduceCtorEq, Int.reduceToNat] <;> (repeat' first | rfl | apply And.intro))
end Go.Proofs.Ytdcdldfleeilnaa

namespace Go.Proofs.Ytdcdldfleeilnaa
open Go.Dm
set_option linter.unusedSimpArgs false
set_option linter.unnecessarySimpa false
set_option linter.unusedVariables false
set_option linter.defProp false
structure BI (ws : List (List UInt8)) (Ss : List (List UInt8)) (T : List Nd) (i : Nat) (u : List UInt8) : Prop where
  tri : Tri Ss T
  mem : ∀ v, v ∈ Ss ↔ v = [] ∨ (∃ j, j < i ∧ v <+: ws.getD j []) ∨ v <+: u
  fl : ∀ a, a < T.length → (T.getD a default).fl = 0
  wss : ∀ a, a < T.length → (T.getD a default).ws = nums_ i (fun j => decide (ws.getD j [] = Ss.getD a []))
theorem pre_snoc {v u : List UInt8} {c : UInt8} : v <+: u ++ [c] ↔ v <+: u ∨ v = u ++ [c] := by
  constructor
  · rintro ⟨t, ht⟩
    rcases List.eq_nil_or_concat t with e | ⟨s, d, e⟩
    · subst e; right; simpa using ht
    · rw [List.concat_eq_append] at e
      subst e
      rw [← List.append_assoc] at ht
      have := List.append_inj' ht rfl
      exact .inl ⟨s, this.1⟩
  · rintro (h | rfl)
    · exact h.trans (List.prefix_append _ _)
    · exact List.prefix_refl _
theorem BI.found {ws Ss : List (List UInt8)} {T : List Nd} {i : Nat} {u : List UInt8} {c : UInt8} (h : BI ws Ss T i u) (hm : u ++ [c] ∈ Ss) : BI ws Ss T i (u ++ [c]) := by
  refine ⟨h.tri, fun v => ?_, h.fl, h.wss⟩
  rw [pre_snoc]
  constructor
  · intro hv
    rcases (h.mem v).1 hv with h1 | h1 | h1
    · exact .inl h1
    · exact .inr (.inl h1)
    · exact .inr (.inr (.inl h1))
  · rintro (h1 | h1 | h1 | h1)
    · exact (h.mem v).2 (.inl h1)
    · exact (h.mem v).2 (.inr (.inl h1))
    · exact (h.mem v).2 (.inr (.inr h1))
    · rw [h1]; exact hm
theorem getD_app_l {α : Type} {l m : List α} {i : Nat} {d : α} (h : i < l.length) : (l ++ m).getD i d = l.getD i d := by
  simp only [List.getD_eq_getElem?_getD]; rw [List.getElem?_append_left h]
theorem getD_app_e {α : Type} {l : List α} {x d : α} : (l ++ [x]).getD l.length d = x := by simp [List.getD_eq_getElem?_getD]
theorem getD_set2 {α : Type} {l : List α} {i j : Nat} {x d : α} (hi : i < l.length) : (l.set i x).getD j d = if j = i then x else l.getD j d := by
  by_cases e : j = i
  · subst e; rw [if_pos rfl]; simp [List.getD_eq_getElem?_getD, hi]
  · rw [if_neg e]
    simp only [List.getD_eq_getElem?_getD, List.getElem?_set]
    rw [if_neg (fun e' => e e'.symm)]
def addN (T : List Nd) (a : Nat) (c : UInt8) : List Nd := T.set a ⟨(T.getD a default).nx ++ [(c, T.length)], (T.getD a default).fl, (T.getD a default).lo, (T.getD a default).ws⟩ ++ [⟨[], 0, (T.getD a default).lo + 1, []⟩]
theorem addN_len {T : List Nd} {a : Nat} {c : UInt8} : (addN T a c).length = T.length + 1 := by simp [addN]
theorem addN_old {T : List Nd} {a b : Nat} {c : UInt8} (ha : a < T.length) (hb : b < T.length) : (addN T a c).getD b default = if b = a then ⟨(T.getD a default).nx ++ [(c, T.length)], (T.getD a default).fl, (T.getD a default).lo, (T.getD a default).ws⟩ else T.getD b default := by
  unfold addN
  rw [getD_app_l (by simpa using hb), getD_set2 ha]
theorem addN_new {T : List Nd} {a : Nat} {c : UInt8} : (addN T a c).getD T.length default = ⟨[], 0, (T.getD a default).lo + 1, []⟩ := by
  unfold addN
  have := getD_app_e (l := T.set a ⟨(T.getD a default).nx ++ [(c, T.length)], (T.getD a default).fl, (T.getD a default).lo, (T.getD a default).ws⟩) (x := (⟨[], 0, (T.getD a default).lo + 1, []⟩ : Nd)) (d := default)
  rw [List.length_set] at this
  exact this
theorem snoc_inj {a b : List UInt8} {c d : UInt8} (h : a ++ [c] = b ++ [d]) : a = b ∧ c = d := by
  have := List.append_inj' h rfl
  exact ⟨this.1, by simpa using this.2⟩
theorem nums_ext {n : Nat} {p q : Nat → Bool} (h : ∀ j, j < n → p j = q j) : nums_ n p = nums_ n q := by
  unfold nums_
  exact List.filter_congr fun x hx => h x (List.mem_range.1 hx)
theorem nums_none {n : Nat} {p : Nat → Bool} (h : ∀ j, j < n → p j = false) : nums_ n p = [] := by
  unfold nums_
  rw [List.filter_eq_nil_iff]
  intro x hx
  rw [h x (List.mem_range.1 hx)]; simp
theorem nums_y {n : Nat} {p : Nat → Bool} (h : p n = true) : nums_ (n + 1) p = nums_ n p ++ [n] := by
  unfold nums_
  rw [List.range_succ, List.filter_append, List.filter_cons_of_pos h]; rfl
theorem nums_n {n : Nat} {p : Nat → Bool} (h : p n = false) : nums_ (n + 1) p = nums_ n p := by
  unfold nums_
  rw [List.range_succ, List.filter_append, List.filter_cons_of_neg (by rw [h]; simp)]; simp
theorem BI.add {ws Ss : List (List UInt8)} {T : List Nd} {i : Nat} {u : List UInt8} {c : UInt8} (h : BI ws Ss T i u) (hm : u ++ [c] ∉ Ss) {a : Nat} (ha : a < T.length) (hau : Ss.getD a [] = u) : BI ws (Ss ++ [u ++ [c]]) (addN T a c) i (u ++ [c]) := by
  have hlen := h.tri.len
  have hS : ∀ b, b < T.length → (Ss ++ [u ++ [c]]).getD b [] = Ss.getD b [] := fun b hb => getD_app_l (by omega)
  have hSn : (Ss ++ [u ++ [c]]).getD T.length [] = u ++ [c] := by rw [hlen]; exact getD_app_e
  have hmm : ∀ v, v ∈ Ss ++ [u ++ [c]] ↔ v ∈ Ss ∨ v = u ++ [c] := fun v => by rw [List.mem_append, List.mem_singleton]
  have hpc : PC (Ss ++ [u ++ [c]]) := ⟨(hmm _).2 (.inl h.tri.pc.1), fun v d hv => by
    rcases (hmm _).1 hv with hv | hv
    · exact (hmm _).2 (.inl (h.tri.pc.2 v d hv))
    · obtain ⟨e1, _⟩ := snoc_inj hv
      have h5 := str_mem (Ss := Ss) (a := a) (by omega)
      rw [hau] at h5
      rw [e1]
      exact (hmm _).2 (.inl h5)⟩
  refine ⟨⟨by rw [addN_len, List.length_append, hlen]; rfl, by simp, ?_, ?_, fun b hb d e => ?_, fun b hb => ?_, hpc⟩, fun v => ?_, fun b hb => ?_, fun b hb => ?_⟩
  · rw [List.nodup_append]
    exact ⟨h.tri.nod, by simp, fun x hx y hy e => hm (by rw [List.mem_singleton.1 hy] at e; exact e ▸ hx)⟩
  · rw [getD_app_l h.tri.pos, h.tri.zero]
  · rw [addN_len] at hb ⊢
    by_cases hbn : b = T.length
    · subst hbn
      rw [addN_new, hSn]
      constructor
      · intro h1; cases h1
      · rintro ⟨h1, h2⟩
        exfalso
        by_cases he : e = T.length
        · subst he
          rw [hSn] at h2
          have := congrArg List.length h2
          simp at this
        · rw [hS e (by omega)] at h2
          have h3 := str_mem (Ss := Ss) (a := e) (by omega)
          rw [h2] at h3
          exact hm (h.tri.pc.2 _ _ h3)
    · have hb2 : b < T.length := by omega
      rw [addN_old ha hb2, hS b hb2]
      have hnx := h.tri.nx b hb2 d e
      by_cases hba : b = a
      · subst hba
        rw [if_pos rfl]
        show (d, e) ∈ (T.getD b default).nx ++ [(c, T.length)] ↔ _
        rw [List.mem_append, List.mem_singleton, hnx, hau]
        constructor
        · rintro (⟨h1, h2⟩ | h1)
          · exact ⟨by omega, by rw [hS e h1]; exact h2⟩
          · rw [Prod.mk.injEq] at h1
            rw [h1.2, h1.1, hSn]
            exact ⟨by omega, rfl⟩
        · rintro ⟨h1, h2⟩
          by_cases he : e = T.length
          · subst he
            rw [hSn] at h2
            obtain ⟨_, e2⟩ := snoc_inj h2
            exact .inr (by rw [e2])
          · exact .inl ⟨by omega, by rw [← hS e (by omega)]; exact h2⟩
      · rw [if_neg hba, hnx]
        constructor
        · rintro ⟨h1, h2⟩
          exact ⟨by omega, by rw [hS e h1]; exact h2⟩
        · rintro ⟨h1, h2⟩
          by_cases he : e = T.length
          · subst he
            rw [hSn] at h2
            obtain ⟨e1, _⟩ := snoc_inj h2
            exact absurd (str_inj h.tri.nod (by omega) (by omega) (by rw [← e1, hau])) hba
          · exact ⟨by omega, by rw [← hS e (by omega)]; exact h2⟩
  · rw [addN_len] at hb
    by_cases hbn : b = T.length
    · subst hbn
      rw [addN_new, hSn]
      show (T.getD a default).lo + 1 = _
      rw [h.tri.lo a ha, hau]; simp
    · rw [addN_old ha (by omega), hS b (by omega)]
      have := h.tri.lo b (by omega)
      by_cases hba : b = a
      · subst hba; rw [if_pos rfl]; exact this
      · rw [if_neg hba]; exact this
  · rw [hmm, h.mem, pre_snoc]
    constructor
    · rintro ((h1 | h1 | h1) | h1)
      · exact .inl h1
      · exact .inr (.inl h1)
      · exact .inr (.inr (.inl h1))
      · exact .inr (.inr (.inr h1))
    · rintro (h1 | h1 | h1 | h1)
      · exact .inl (.inl h1)
      · exact .inl (.inr (.inl h1))
      · exact .inl (.inr (.inr h1))
      · exact .inr h1
  · rw [addN_len] at hb
    by_cases hbn : b = T.length
    · subst hbn; rw [addN_new]
    · rw [addN_old ha (by omega)]
      have := h.fl b (by omega)
      by_cases hba : b = a
      · subst hba; rw [if_pos rfl]; exact this
      · rw [if_neg hba]; exact this
  · rw [addN_len] at hb
    by_cases hbn : b = T.length
    · subst hbn
      rw [addN_new, hSn]
      refine (nums_none fun j hj => decide_eq_false fun e => hm ?_).symm
      rw [← e]
      exact (h.mem _).2 (.inr (.inl ⟨j, hj, List.prefix_refl _⟩))
    · rw [addN_old ha (by omega), hS b (by omega)]
      have := h.wss b (by omega)
      by_cases hba : b = a
      · subst hba; rw [if_pos rfl]; exact this
      · rw [if_neg hba]; exact this
def endW (T : List Nd) (a i : Nat) : List Nd := T.set a ⟨(T.getD a default).nx, (T.getD a default).fl, (T.getD a default).lo, (T.getD a default).ws ++ [i]⟩
theorem endW_len {T : List Nd} {a i : Nat} : (endW T a i).length = T.length := by simp [endW]
theorem endW_at {T : List Nd} {a b i : Nat} (ha : a < T.length) : (endW T a i).getD b default = if b = a then ⟨(T.getD a default).nx, (T.getD a default).fl, (T.getD a default).lo, (T.getD a default).ws ++ [i]⟩ else T.getD b default := getD_set2 ha
theorem BI.fin {ws Ss : List (List UInt8)} {T : List Nd} {i : Nat} (h : BI ws Ss T i (ws.getD i [])) {a : Nat} (ha : a < T.length) (hau : Ss.getD a [] = ws.getD i []) : BI ws Ss (endW T a i) (i + 1) [] := by
  have hlen := h.tri.len
  have key : ∀ b, b < T.length → ((endW T a i).getD b default).nx = (T.getD b default).nx ∧ ((endW T a i).getD b default).fl = (T.getD b default).fl ∧ ((endW T a i).getD b default).lo = (T.getD b default).lo := fun b hb => by
    rw [endW_at ha]
    by_cases hba : b = a
    · subst hba; rw [if_pos rfl]; exact ⟨rfl, rfl, rfl⟩
    · rw [if_neg hba]; exact ⟨rfl, rfl, rfl⟩
  refine ⟨⟨by rw [endW_len]; exact hlen, h.tri.pos, h.tri.nod, h.tri.zero, fun b hb c e => ?_, fun b hb => ?_, h.tri.pc⟩, fun v => ?_, fun b hb => ?_, fun b hb => ?_⟩
  · rw [endW_len] at hb ⊢
    rw [(key b hb).1]; exact h.tri.nx b hb c e
  · rw [endW_len] at hb
    rw [(key b hb).2.2]; exact h.tri.lo b hb
  · rw [h.mem]
    constructor
    · rintro (h1 | ⟨j, h1, h2⟩ | h1)
      · exact .inl h1
      · exact .inr (.inl ⟨j, by omega, h2⟩)
      · exact .inr (.inl ⟨i, Nat.lt_succ_self _, h1⟩)
    · rintro (h1 | ⟨j, h1, h2⟩ | h1)
      · exact .inl h1
      · by_cases e : j = i
        · subst e; exact .inr (.inr h2)
        · exact .inr (.inl ⟨j, by omega, h2⟩)
      · exact .inl (List.prefix_nil.1 h1)
  · rw [endW_len] at hb
    rw [(key b hb).2.1]; exact h.fl b hb
  · rw [endW_len] at hb
    rw [endW_at ha]
    have h1 := h.wss b hb
    by_cases hba : b = a
    · subst hba
      rw [if_pos rfl]
      show (T.getD b default).ws ++ [i] = _
      rw [h1, nums_y (decide_eq_true hau.symm)]
    · rw [if_neg hba, h1, nums_n (decide_eq_false fun e => hba (str_inj h.tri.nod (by omega) (by omega) (by rw [← e, hau])))]
theorem BI.init {ws : List (List UInt8)} : BI ws [[]] [⟨[], 0, 0, []⟩] 0 [] := by
  refine ⟨⟨rfl, by simp, by simp, rfl, fun a ha c b => ?_, fun a ha => ?_, ⟨by simp, fun u c h => by simp at h⟩⟩, fun v => ?_, fun a ha => ?_, fun a ha => ?_⟩
  · have : a = 0 := by simpa using ha
    subst this
    constructor
    · intro h; cases h
    · rintro ⟨h1, h2⟩
      have : b = 0 := by simpa using h1
      subst this
      simp at h2
  · have : a = 0 := by simpa using ha
    subst this; rfl
  · simp
  · have : a = 0 := by simpa using ha
    subst this; rfl
  · have : a = 0 := by simpa using ha
    subst this; rfl
end Go.Proofs.Ytdcdldfleeilnaa

namespace Go.Dm
open Go.RowKit Go.Lib Go.Shelf Go.Proofs
set_option linter.unusedSimpArgs false
set_option linter.unnecessarySimpa false
set_option linter.unusedVariables false
theorem HR.resetK {G : Gw} {w : World} {A : Nat → Prop} {β : Nat → Option Nat} {γ : Nat → Option (Nat × List Nat)} {N : Nat} {M : Nat → Option Ob} (g : HR G w A β γ N M) {τ b : Nat} {ob ob' : Ob} (hτ : τ < N) (hM : M τ = some ob) (hkd : ob'.kd = ob.kd) (hk : ob.kd.isMap = false) (hβ : β τ = some b) {arr arr' : Array Value} {T : TypeId} (hh : w.heap[b]? = some (.cells arr T (0, 0))) (hs : arr'.size = arr.size)
    (hl : ob'.es.length * ob'.sz ≤ arr.size) (he : ∀ i, i < ob'.es.length → (ob'.es.getD i []).length = ob'.sz) (how : ob'.ow = false → ∀ i j, i < ob'.es.length → j < ob'.sz → ((ob'.es.getD i []).getD j .junk).isOwn = false)
    (hr : ∀ i j, i < ob'.es.length → j < ob'.sz → CDR ob'.flat w A β γ N τ [i * ob'.sz + j] ((ob'.es.getD i []).getD j .junk) (arr'.getD (i * ob'.sz + j) undef)) : HR G (w.setRow b arr') A β γ N (fun σ => if σ = τ then some ob' else M σ) := by
  have hMn : M τ ≠ none := by rw [hM]; simp
  have hroot := g.root τ b hτ hMn hβ
  obtain ⟨_, hbA, hbO, _⟩ := g.own b τ [] hroot hτ hMn
  have hvis : Vis w (w.setRow b arr') := Vis.cells hh (setRow_heap w b arr arr' T (0, 0) hh) (fun c e => setRow_other w b c arr' e)
  have hA : ∀ c, A c → (w.setRow b arr').heap[c]? = w.heap[c]? := fun c hc => setRow_other w b c arr' (fun e => hbA (e ▸ hc))
  have hsh := Shp.setRow hh hs
  have hMs : ∀ σ, (fun σ => if σ = τ then some ob' else M σ) σ = if σ = τ then some ob' else M σ := fun _ => rfl
  have live : ∀ σ, (fun σ => if σ = τ then some ob' else M σ) σ ≠ none → M σ ≠ none := fun σ h => by
    rw [hMs] at h
    by_cases e : σ = τ
    · rw [e]; exact hMn
    · rwa [if_neg e] at h
  have hown : ∀ σ c π, π ≠ [] → γ c = some (σ, π) → (w.setRow b arr').heap[c]? = w.heap[c]? ∧ γ c = some (σ, π) := fun σ c π hp hc => ⟨setRow_other w b c arr' (fun e => by
    rw [e, hroot] at hc; simp only [Option.some.injEq, Prod.mk.injEq] at hc; exact hp hc.2.symm), hc⟩
  refine ⟨Bel.setRow g.below hbO arr' hsh, g.sub, g.up, fun c hc => by rw [setRow_size]; exact g.low c hc, fun σ ob hσ hm => ?_, fun c σ π h1 h2 h3 => let q := g.own c σ π h1 h2 (live σ h3); ⟨by rw [setRow_size]; exact q.1, q.2.1, q.2.2.1, hvis.noth q.1 q.2.2.2⟩, fun σ c h1 h2 h3 => g.root σ c h1 (live σ h2) h3, g.ge, g.flt, fun σ hF => ⟨(g.fixd σ hF).1, fun ob hm => ?_⟩⟩
  · (try rw [hMs] at hm)
    by_cases e : σ = τ
    · subst e
      rw [if_pos rfl] at hm; cases hm
      refine ⟨he, how, .inr ⟨b, _, fun i j => arr'.getD (i * ob'.sz + j) undef, hβ, setRow_heap w b arr arr' T (0, 0) hh, ?_, fun i j hi hj => (hr i j hi hj).mono (by simp) hA (fun _ h => h) hsh (Nat.le_refl _) (fun _ _ => rfl) (hown σ)⟩⟩
      rw [hkd]
      cases hkd2 : ob.kd with
      | map k ka va => rw [hkd2] at hk; cases hk
      | arr => exact ⟨arr', T, rfl, by omega, fun _ _ _ _ => rfl⟩
      | fix => exact ⟨arr', T, rfl, by omega, fun _ _ _ _ => rfl⟩
    · rw [if_neg e] at hm
      refine (g.objs σ ob hσ hm).mono hσ hA (fun _ h => h) hsh (Nat.le_refl _) (fun _ _ => rfl) (hown σ) (fun c hc => setRow_other w b c arr' ?_)
      rintro rfl
      have := g.root σ c hσ (by rw [hm]; simp) hc
      rw [hroot] at this; simp only [Option.some.injEq, Prod.mk.injEq] at this
      exact e this.1.symm
  · (try rw [hMs] at hm)
    by_cases e : σ = τ
    · subst e; rw [if_pos rfl] at hm; cases hm
      rw [hkd]; exact (g.fixd σ hF).2 _ hM
    · rw [if_neg e] at hm; exact (g.fixd σ hF).2 ob hm
section
variable {α : Type}
variable [Inhabited α]
end
end Go.Dm

namespace Go.Dm
open Go.RowKit Go.Lib Go.Shelf Go.Proofs
set_option linter.unusedSimpArgs false
set_option linter.unnecessarySimpa false
set_option linter.unusedVariables false
theorem belowI {w : World} {b n : Nat} {arr : Array Value} {T : TypeId} {enc : Int → Value} {F : Array Int} {os : Array Obj} (hh : w.heap[b]? = some (.cells arr T (0, 0))) : Below (w.setRow b (Go.Sort.putCells enc 0 F arr)).heap.size (w.setRow b (Go.Sort.putCells enc 0 F arr)) (Go.Sort.grow (Go.Sort.putRow enc (Go.Sort.ahead w n) b 0 F) os) := by
  refine ⟨rfl, rfl, rfl, ?_, fun k hk => ?_⟩
  · show _ ≤ (Go.Sort.grow _ _).heap.size
    rw [Go.Sort.size_grow, Go.Sort.size_putRow, setRow_size]
    exact Nat.le_add_right _ _
  · rw [setRow_size] at hk
    show (Go.Sort.grow _ _).heap[k]? = _
    rw [Go.Sort.heap_grow_old _ _ (by rw [Go.Sort.size_putRow]; exact hk)]
    by_cases e : k = b
    · subst e
      rw [setRow_heap w k arr _ T (0, 0) hh]
      simp [Go.Sort.putRow, Go.Sort.mapBlock, Go.Sort.ahead, Array.getElem?_modify, hh, Go.Sort.onCells]
    · rw [setRow_other w b k _ e]
      simp [Go.Sort.putRow, Go.Sort.mapBlock, Go.Sort.ahead, Array.getElem?_modify, Ne.symm e]
def irO (kd : Kd) (l : List Int) : Ob := ⟨1, i64s l, true, false, kd⟩
theorem ir_len {l : List Int} : (i64s l).length = l.length := by simp [i64s]
theorem ir_get {l : List Int} {i : Nat} (h : i < l.length) : (i64s l).getD i [] = [.v (.int .i64 l[i]!)] := by simp [i64s, List.getD, h]
def srtI (l : List Int) : List Int := l.mergeSort fun x y => decide (x ≤ y)
theorem srtI_len {l : List Int} : (srtI l).length = l.length := by simp [srtI]
theorem srtI_perm {l : List Int} : (srtI l).Perm l := List.mergeSort_perm l _
set_option maxHeartbeats 1000000 in
theorem sortI_spec {P : Program} {ρ : Ren} (L : Lays.n189 P ρ) (hF : FnOk P (ρ.f 189)) (kd : Kd) (hkd : kd.isMap = false) (l : List Int) (hl : l.length ≤ 100000000) : Dm.SpecH P (ρ.f 189) [.ref 0 1 0 l.length] [irO kd l] (fun d o => d = .tu [] ∧ o = [some (irO kd (srtI l))]) := by
  refine ⟨hF, fun w A β γ vs hH hvs hdr => ?_⟩
  obtain ⟨v0, rfl⟩ : ∃ v0, vs = #[v0] := by
    obtain ⟨vs⟩ := vs
    match vs, hvs with
    | [x], _ => exact ⟨x, rfl⟩
  have h0 : DR w A β 1 (.ref 0 1 0 l.length) v0 := hdr 0 (by simp)
  clear hdr hvs
  have hend : ∀ w', HR (Gw.at w A β γ 1 (mAll [irO kd l])) w' A β γ 1 (mOf [some (irO kd (srtI l))]) → ∃ x d o A' β' γ', Ending.returned (.tuple #[]) = Ending.returned x ∧ (d = .tu [] ∧ o = [some (irO kd (srtI l))]) ∧ HR (Gw.at w A β γ 1 (mAll [irO kd l])) w' A' β' γ' o.length (mOf o) ∧ DR w' A' β' o.length d x :=
    fun w' h => ⟨_, .tu [], [some (irO kd (srtI l))], A, β, γ, rfl, ⟨rfl, rfl⟩, h, .cl _ _ (.tu [] #[] rfl fun i hi => by simp at hi)⟩
  by_cases hne : l = []
  · subst hne
    obtain ⟨p, c, rfl⟩ : ∃ p c, v0 = .slice p 0 c := by
      cases h0 with
      | cl d x h => cases h
      | ref τ sz off n c b arr T hN hb hc hh hr => exact ⟨_, _, rfl⟩
      | refz τ sz off b hN => exact ⟨_, _, rfl⟩
    have hcon := Any.slices_Sort_int_none L p c w
    refine hcon.mono ?_
    rintro e w' ⟨rfl, rfl⟩
    have e0 : srtI [] = [] := by simp [srtI]
    exact hend _ (by rw [e0]; exact hH)
  · have hn0 : 0 < l.length := List.length_pos_iff.2 hne
    obtain ⟨b1, c1, rfl, hβ1, hc1⟩ : ∃ b1 c1, v0 = .slice (some ⟨b1, 0, none⟩) l.length c1 ∧ β 0 = some b1 ∧ l.length ≤ c1 := by
      generalize hm : l.length = m at h0 hn0
      cases h0 with
      | cl d x h => cases h
      | ref τ sz off n c b arr T hN hb hc hh hr => exact ⟨b, c, by simp, hb, hc⟩
      | refz τ sz off b hN => omega
    obtain ⟨arr, T, hh, hs, hcd⟩ := hH.cells (τ := 0) (ob := irO kd l) (by simp) rfl hkd hβ1
    have hs : l.length ≤ arr.size := by
      have : (i64s l).length * 1 ≤ arr.size := hs
      rw [ir_len] at this; omega
    obtain ⟨hb1s, hb1A, _⟩ := hH.blk (τ := 0) (by simp) (by intro h; cases h) hβ1
    have hsza : l.toArray.size = l.length := by simp
    have hval : ∀ i, i < l.length → arr.getD i undef = .int .i64 l[i]! := fun i hi => by
      have hD : (((irO kd l).es.getD i []).getD 0 .junk) = .v (.int .i64 l[i]!) := by
        show ((i64s l).getD i []).getD 0 .junk = _
        rw [ir_get hi]; rfl
      have h := (hcd i 0 (by show i < (i64s l).length; rw [ir_len]; exact hi) (by show 0 < 1; omega)).1 (by rw [hD]; rfl)
      rw [hD] at h
      have h2 : CR w A (.v (.int .i64 l[i]!)) (arr.getD (i * 1 + 0) undef) := h.toC (by unfold D.cl; rw [alls_leaf rfl]; rfl)
      rw [Nat.mul_one, Nat.add_zero] at h2
      generalize arr.getD i undef = z at h2
      cases h2; rfl
    have hHold : Go.Sort.Holds (Value.int .i64) w b1 0 l.toArray := fun t ht => by
      rw [hsza] at ht
      have hta : t < arr.size := Nat.lt_of_lt_of_le ht hs
      have h := hval t ht
      constructor
      · have e2 : l.toArray[t]! = l[t]! := by simp
        rw [e2]
        have e3 : arr[t]? = some (Value.int .i64 l[t]!) := by
          rw [Array.getElem?_eq_getElem hta, ← h]; simp [Array.getD, hta]
        simp only [World.cell?, hh, Option.isSome_none, Bool.false_eq_true, if_false, Nat.zero_add]
        rw [e3]
      · simp [World.frozen?, hh]
    have hcon := Any.slices_Sort_int L b1 0 c1 l w hHold hb1s (by omega)
    refine hcon.mono ?_
    rintro e w' ⟨rfl, m, os, rfl⟩
    refine hend _ ?_
    have hW := HR.resetK hH (τ := 0) (ob := irO kd l) (ob' := irO kd (srtI l)) (by simp) rfl rfl hkd hβ1 hh (arr' := Go.Sort.putCells (Value.int .i64) 0 (srtI l).toArray arr) (by simp [Go.Sort.putCells]) (by show (i64s (srtI l)).length * 1 ≤ _; rw [ir_len, srtI_len]; omega)
      (fun i hi => by
        have hi : i < (i64s (srtI l)).length := hi
        rw [ir_len] at hi
        show ((i64s (srtI l)).getD i []).length = 1
        rw [ir_get hi]; rfl)
      (fun _ i j hi hj => by
        have hi : i < (i64s (srtI l)).length := hi
        have hj : j < 1 := hj
        rw [ir_len] at hi
        show (((i64s (srtI l)).getD i []).getD j .junk).isOwn = false
        rw [ir_get hi, show j = 0 by omega]; rfl)
      (fun i j hi hj => by
        have hi : i < (i64s (srtI l)).length := hi
        have hj : j < 1 := hj
        rw [ir_len] at hi
        have hj0 : j = 0 := by omega
        subst hj0
        have hil : i < l.length := by rw [srtI_len] at hi; exact hi
        have hD : (((irO kd (srtI l)).es.getD i []).getD 0 .junk) = .v (.int .i64 (srtI l)[i]!) := by
          show ((i64s (srtI l)).getD i []).getD 0 .junk = _
          rw [ir_get hi]; rfl
        have hia : i < arr.size := by omega
        have e1 : (Go.Sort.putCells (Value.int .i64) 0 (srtI l).toArray arr).getD (i * 1 + 0) undef = .int .i64 (srtI l)[i]! := by
          simp [Go.Sort.putCells, Array.getD, hia, hi]
        rw [hD]
        show CDR _ _ _ _ _ _ _ _ _ ((Go.Sort.putCells (Value.int .i64) 0 (srtI l).toArray arr).getD (i * 1 + 0) undef)
        rw [e1]
        exact ⟨fun _ => .cl _ _ (.v _), fun _ => .cr _ _ _ (.v _), rfl⟩)
    have hW2 := HR.world hW (belowI (n := m) (F := (srtI l).toArray) (os := os) hh)
    refine HR.sub_ hW2 fun τ ob h => ?_
    match τ with
    | 0 => exact h
    | τ + 1 => simp [mOf] at h
theorem sort0I {P : Program} {ρ : Ren} (L : Lays.n189 P ρ) (hF : FnOk P (ρ.f 189)) : Dm.Spec P (ρ.f 189) [.sl 1 []] (· = .tu []) := by
  refine ⟨hF, fun w A vs hA hvs hcr => ?_⟩
  obtain ⟨v0, rfl⟩ : ∃ v0, vs = #[v0] := by
    obtain ⟨vs⟩ := vs
    match vs, hvs with
    | [x], _ => exact ⟨x, rfl⟩
  have h0 : CR w A (.sl 1 []) v0 := hcr 0 (by simp)
  obtain ⟨p, c, rfl⟩ : ∃ p c, v0 = .slice p 0 c := by
    cases h0 with
    | sl0 sz b c => exact ⟨_, _, rfl⟩
    | sl sz es b off n c us hA hn =>
      have : n = 0 := hn.symm
      subst this
      exact ⟨_, _, rfl⟩
  refine (Any.slices_Sort_int_none L p c w).mono ?_
  rintro e w' ⟨rfl, rfl⟩
  exact ⟨_, .tu [], rfl, rfl, ⟨rfl, rfl, rfl, Nat.le_refl _, fun _ _ => rfl⟩, .tu [] #[] rfl fun i hi => by simp at hi⟩
end Go.Dm

namespace Go.Proofs.Ytdcdldfleeilnaa
open Go.Dm
set_option linter.unusedSimpArgs false
set_option linter.unnecessarySimpa false
set_option linter.unusedVariables false
set_option linter.defProp false
theorem natI_toNat {l : List Nat} : (natI l).map Int.toNat = l := by simp [natI, Function.comp_def]
theorem srt_nat {l : List Nat} : ∃ l', srtI (natI l) = natI l' ∧ l'.Perm l ∧ l'.Pairwise (· ≤ ·) := by
  have hp := @srtI_perm (natI l)
  have hs : (srtI (natI l)).Pairwise fun x y => decide (x ≤ y) = true := List.pairwise_mergeSort (fun a b c h1 h2 => by simp at *; omega) (fun a b => by simp; omega) (natI l)
  have hnn : ∀ x, x ∈ srtI (natI l) → 0 ≤ x := fun x hx => by
    have := hp.mem_iff.1 hx
    obtain ⟨k, _, rfl⟩ := List.mem_map.1 this
    omega
  refine ⟨(srtI (natI l)).map Int.toNat, ?_, ?_, ?_⟩
  · unfold natI
    rw [List.map_map]
    refine (List.map_id'' (fun x => rfl) _).symm.trans (List.map_congr_left fun x hx => ?_)
    have := hnn x hx
    simp only [Function.comp]; omega
  · have := hp.map Int.toNat
    rwa [natI_toNat] at this
  · rw [List.pairwise_map]
    exact hs.imp fun {x y} h => by simp at h; omega
theorem srt_nums {a b : List Nat} (ha : a.Nodup) (hb : b.Nodup) (hd : ∀ x, x ∈ a → x ∉ b) {n : Nat} {p : Nat → Bool} (hm : ∀ x, (x ∈ a ∨ x ∈ b) ↔ x < n ∧ p x = true) : srtI (natI (a ++ b)) = natI (nums_ n p) := by
  obtain ⟨l, e, hp, hs⟩ := @srt_nat (a ++ b)
  rw [e, srt_perm hs hp ha hb hd hm]
theorem nums_nd {n : Nat} {p : Nat → Bool} : (nums_ n p).Nodup := List.nodup_range.filter p
theorem nums_len {n : Nat} {p : Nat → Bool} : (nums_ n p).length ≤ n := by
  unfold nums_
  have := List.length_filter_le p (List.range n)
  rwa [List.length_range] at this
structure QI (Ss : List (List UInt8)) (Q : List Nat) (i c : Nat) : Prop where
  nd : Q.Nodup
  pos : 0 < Q.length
  z : Q.getD 0 0 = 0
  rg : ∀ a, a ∈ Q → a < Ss.length
  mono : ∀ k l, k ≤ l → l < Q.length → (Ss.getD (Q.getD k 0) []).length ≤ (Ss.getD (Q.getD l 0) []).length
  par : ∀ k, 0 < k → k < Q.length → ∃ (p : Nat) (d : UInt8), (p < i ∨ (p = i ∧ d.toNat < c)) ∧ p < Q.length ∧ Ss.getD (Q.getD k 0) [] = Ss.getD (Q.getD p 0) [] ++ [d]
  ch : ∀ k, k < i → ∀ b, b < Ss.length → ∀ d : UInt8, Ss.getD b [] = Ss.getD (Q.getD k 0) [] ++ [d] → b ∈ Q
  cur : ∀ b, b < Ss.length → ∀ d : UInt8, d.toNat < c → Ss.getD b [] = Ss.getD (Q.getD i 0) [] ++ [d] → b ∈ Q
theorem q_mem {Q : List Nat} {k : Nat} (h : k < Q.length) : Q.getD k 0 ∈ Q := getD_mem' h
theorem q_at {Q : List Nat} {a : Nat} (h : a ∈ Q) : ∃ k, k < Q.length ∧ Q.getD k 0 = a := by
  obtain ⟨k, hk, e⟩ := List.getElem_of_mem h
  exact ⟨k, hk, by simp [List.getD, hk, e]⟩
theorem q_inj {Q : List Nat} (hd : Q.Nodup) {k l : Nat} (hk : k < Q.length) (hl : l < Q.length) (h : Q.getD k 0 = Q.getD l 0) : k = l := by
  simp only [List.getD_eq_getElem?_getD, List.getElem?_eq_getElem hk, List.getElem?_eq_getElem hl, Option.getD_some] at h
  exact (List.getElem_inj hd).1 h
section
variable {Ss : List (List UInt8)} {Q : List Nat} {i c : Nat}
theorem QI.init (h : 0 < Ss.length) : QI Ss [0] 0 0 :=
  ⟨by simp, by simp, rfl, fun a ha => by rw [List.mem_singleton.1 ha]; exact h, fun k l hk hl => by
    have : l = 0 := by simpa using hl
    subst this
    have : k = 0 := by omega
    subst this; exact Nat.le_refl _, fun k h0 hk => by simp at hk; omega, fun k hk => absurd hk (Nat.not_lt_zero _), fun b _ d hd => absurd hd (Nat.not_lt_zero _)⟩
theorem QI.lev (h : QI Ss Q i c) (hz : Ss.getD 0 [] = []) (hi : i < Q.length) : ∀ k, k < Q.length → (Ss.getD (Q.getD k 0) []).length ≤ (Ss.getD (Q.getD i 0) []).length + 1 := fun k hk => by
  by_cases h0 : k = 0
  · subst h0; rw [h.z, hz]; exact Nat.zero_le _
  · obtain ⟨p, d, h1, h2, h3⟩ := h.par k (by omega) hk
    have := h.mono p i (by omega) hi
    rw [h3, List.length_append, List.length_singleton]; omega
theorem QI.new (h : QI Ss Q i c) (hn : Ss.Nodup) (hz : Ss.getD 0 [] = []) (hi : i < Q.length) {b : Nat} (hb : b < Ss.length) {d : UInt8} (hd : d.toNat = c) (hS : Ss.getD b [] = Ss.getD (Q.getD i 0) [] ++ [d]) : b ∉ Q := fun hm => by
  obtain ⟨k, hk, e⟩ := q_at hm
  by_cases h0 : k = 0
  · subst h0
    rw [h.z] at e
    rw [← e, hz] at hS
    simp at hS
  · obtain ⟨p, d', h1, h2, h3⟩ := h.par k (by omega) hk
    rw [e, hS] at h3
    obtain ⟨e1, e2⟩ := snoc_inj h3
    have e3 := str_inj hn (h.rg _ (q_mem hi)) (h.rg _ (q_mem h2)) e1
    have := q_inj h.nd hi h2 e3
    subst e2
    omega
theorem QI.push (h : QI Ss Q i c) (hn : Ss.Nodup) (hz : Ss.getD 0 [] = []) (hi : i < Q.length) {b : Nat} (hb : b < Ss.length) {d : UInt8} (hd : d.toNat = c) (hS : Ss.getD b [] = Ss.getD (Q.getD i 0) [] ++ [d]) : QI Ss (Q ++ [b]) i (c + 1) := by
  have hnm := h.new hn hz hi hb hd hS
  have hg : ∀ k, k < Q.length → (Q ++ [b]).getD k 0 = Q.getD k 0 := fun k hk => getD_app_l hk
  have hge : (Q ++ [b]).getD Q.length 0 = b := getD_app_e
  have hll : (Q ++ [b]).length = Q.length + 1 := by simp
  refine ⟨?_, by omega, by rw [hg 0 h.pos, h.z], fun a ha => ?_, fun k l hkl hl => ?_, fun k h0 hk => ?_, fun k hk b' hb' d' hd' => ?_, fun b' hb' d' hlt hd' => ?_⟩
  · rw [List.nodup_append]
    exact ⟨h.nd, by simp, fun x hx y hy e => hnm (by rw [← List.mem_singleton.1 hy, ← e]; exact hx)⟩
  · rcases List.mem_append.1 ha with ha | ha
    · exact h.rg a ha
    · rw [List.mem_singleton.1 ha]; exact hb
  · rw [hll] at hl
    by_cases e : l = Q.length
    · subst e
      rw [hge]
      by_cases e2 : k = Q.length
      · subst e2; rw [hge]; exact Nat.le_refl _
      · rw [hg k (by omega), hS, List.length_append]
        exact h.lev hz hi k (by omega)
    · rw [hg k (by omega), hg l (by omega)]; exact h.mono k l hkl (by omega)
  · rw [hll] at hk
    by_cases e : k = Q.length
    · subst e
      exact ⟨i, d, .inr ⟨rfl, by omega⟩, by omega, by rw [hge, hg i hi]; exact hS⟩
    · obtain ⟨p, d', h1, h2, h3⟩ := h.par k h0 (by omega)
      exact ⟨p, d', by omega, by omega, by rw [hg k (by omega), hg p h2]; exact h3⟩
  · rw [hg k (by omega)] at hd'
    exact List.mem_append_left _ (h.ch k hk b' hb' d' hd')
  · rw [hg i hi] at hd'
    by_cases e : d'.toNat = c
    · have ed : d' = d := UInt8.toNat_inj.1 (by omega)
      subst ed
      have := str_inj hn hb' hb (by rw [hd', hS])
      subst this
      exact List.mem_append_right _ (List.mem_singleton.2 rfl)
    · exact List.mem_append_left _ (h.cur b' hb' d' (by omega) hd')
theorem QI.skip (h : QI Ss Q i c) (hno : ∀ b, b < Ss.length → ∀ d : UInt8, d.toNat = c → Ss.getD b [] ≠ Ss.getD (Q.getD i 0) [] ++ [d]) : QI Ss Q i (c + 1) :=
  ⟨h.nd, h.pos, h.z, h.rg, h.mono, fun k h0 hk => by
    obtain ⟨p, d', h1, h2, h3⟩ := h.par k h0 hk
    exact ⟨p, d', by omega, h2, h3⟩, h.ch, fun b hb d hlt hd => by
    by_cases e : d.toNat = c
    · exact absurd hd (hno b hb d e)
    · exact h.cur b hb d (by omega) hd⟩
theorem QI.next (h : QI Ss Q i 256) : QI Ss Q (i + 1) 0 :=
  ⟨h.nd, h.pos, h.z, h.rg, h.mono, fun k h0 hk => by
    obtain ⟨p, d', h1, h2, h3⟩ := h.par k h0 hk
    exact ⟨p, d', by omega, h2, h3⟩, fun k hk b hb d hd => by
    by_cases e : k = i
    · subst e; exact h.cur b hb d d.toNat_lt hd
    · exact h.ch k (by omega) b hb d hd, fun b _ d hlt => absurd hlt (Nat.not_lt_zero _)⟩
theorem QI.all (h : QI Ss Q i c) (hn : Ss.Nodup) (hz : Ss.getD 0 [] = []) (hpc : PC Ss) {B : Nat} (hB : ∀ k, k < Q.length → (Ss.getD (Q.getD k 0) []).length < B → k < i) : ∀ m, ∀ v, v.length = m → v ∈ Ss → v.length ≤ B → ∃ a, a ∈ Q ∧ Ss.getD a [] = v
  | 0, v, hv, hm, _ => ⟨0, by have := q_mem h.pos; rwa [h.z] at this, by rw [hz, List.eq_nil_of_length_eq_zero hv]⟩
  | m + 1, v, hv, hm, hl => by
    rcases List.eq_nil_or_concat v with e | ⟨u, d, e⟩
    · subst e; simp at hv
    · rw [List.concat_eq_append] at e
      subst e
      rw [List.length_append] at hv hl
      simp only [List.length_cons, List.length_nil] at hv hl
      obtain ⟨a, ha, e1⟩ := h.all hn hz hpc hB m u (by omega) (hpc.2 u d hm) (by omega)
      obtain ⟨k, hk, e2⟩ := q_at ha
      obtain ⟨b, hb, e3⟩ := mem_str hm
      have hki := hB k hk (by rw [e2, e1]; omega)
      exact ⟨b, h.ch k hki b hb d (by rw [e3, e2, e1]), e3⟩
theorem QI.below (h : QI Ss Q i c) (hn : Ss.Nodup) (hz : Ss.getD 0 [] = []) (hpc : PC Ss) (hi : i < Q.length) {a : Nat} (ha : a < Ss.length) (hl : (Ss.getD a []).length ≤ (Ss.getD (Q.getD i 0) []).length) : a ∈ Q := by
  obtain ⟨b, hb, e⟩ := h.all hn hz hpc (B := (Ss.getD (Q.getD i 0) []).length) (fun k hk hlt => by
    rcases Nat.lt_or_ge k i with h1 | h1
    · exact h1
    · have := h.mono i k h1 hk
      omega) _ _ rfl (str_mem ha) hl
  rwa [← str_inj hn (h.rg b hb) ha e]
theorem QI.fin (h : QI Ss Q i c) (hn : Ss.Nodup) (hz : Ss.getD 0 [] = []) (hpc : PC Ss) (hi : i = Q.length) {a : Nat} (ha : a < Ss.length) : a ∈ Q := by
  obtain ⟨b, hb, e⟩ := h.all hn hz hpc (B := (Ss.getD a []).length) (fun k hk _ => by omega) _ _ rfl (str_mem ha) (Nat.le_refl _)
  rwa [← str_inj hn (h.rg b hb) ha e]
end
structure LK (W : List (List UInt8)) (Ss : List (List UInt8)) (T : List Nd) (Q : List Nat) : Prop where
  tri : Tri Ss T
  bg : Bgs W Ss
  fl : ∀ a, a ∈ Q → a ≠ 0 → FlOk Ss T a
  fn : ∀ a, a < T.length → (a ∉ Q ∨ a = 0) → (T.getD a default).fl = 0
  wq : ∀ a, a ∈ Q → (T.getD a default).ws = nums_ W.length fun j => decide (W.getD j [] <:+ Ss.getD a [])
  wn : ∀ a, a < T.length → a ∉ Q → (T.getD a default).ws = nums_ W.length fun j => decide (W.getD j [] = Ss.getD a [])
def lnk (T : List Nd) (b f : Nat) (ws : List Nat) : List Nd := T.set b ⟨(T.getD b default).nx, f, (T.getD b default).lo, ws⟩
theorem lnk_len {T : List Nd} {b f : Nat} {ws : List Nat} : (lnk T b f ws).length = T.length := by simp [lnk]
theorem lnk_at {T : List Nd} {a b f : Nat} {ws : List Nat} (hb : b < T.length) : (lnk T b f ws).getD a default = if a = b then ⟨(T.getD b default).nx, f, (T.getD b default).lo, ws⟩ else T.getD a default := getD_set2 hb
theorem Tri.lnk {Ss : List (List UInt8)} {T : List Nd} (h : Tri Ss T) {b f : Nat} {ws : List Nat} (hb : b < T.length) : Tri Ss (lnk T b f ws) := by
  have key : ∀ a, ((Go.Proofs.Ytdcdldfleeilnaa.lnk T b f ws).getD a default).nx = (T.getD a default).nx ∧ ((Go.Proofs.Ytdcdldfleeilnaa.lnk T b f ws).getD a default).lo = (T.getD a default).lo := fun a => by
    rw [lnk_at hb]
    by_cases e : a = b
    · subst e; rw [if_pos rfl]; exact ⟨rfl, rfl⟩
    · rw [if_neg e]; exact ⟨rfl, rfl⟩
  refine ⟨by rw [lnk_len]; exact h.len, h.pos, h.nod, h.zero, fun a ha c e => ?_, fun a ha => ?_, h.pc⟩
  · rw [lnk_len] at ha ⊢
    rw [(key a).1]; exact h.nx a ha c e
  · rw [lnk_len] at ha
    rw [(key a).2]; exact h.lo a ha
theorem LK.words {W Ss : List (List UInt8)} {T : List Nd} {Q : List Nat} (h : LK W Ss T Q) {b f : Nat} (hb : b < T.length) (hbn : b ∉ Q) (hb0 : Ss.getD b [] ≠ []) (hf : f ∈ Q) (hL : LS Ss (Ss.getD b []).tail (Ss.getD f [])) : srtI (natI ((T.getD b default).ws ++ (T.getD f default).ws)) = natI (nums_ W.length fun j => decide (W.getD j [] <:+ Ss.getD b [])) := by
  rw [h.wn b hb hbn, h.wq f hf]
  obtain ⟨x, u, e⟩ : ∃ x u, Ss.getD b [] = x :: u := by
    match hh : Ss.getD b [], hb0 with
    | x :: u, _ => exact ⟨x, u, rfl⟩
  rw [e] at hL ⊢
  have hlf := hL.1.length_le
  simp only [List.tail_cons] at hL hlf
  refine srt_nums nums_nd nums_nd (fun j h1 h2 => ?_) fun j => ?_
  · have h1 := of_decide_eq_true (nums_mem.1 h1).2
    have h2 := (of_decide_eq_true (nums_mem.1 h2).2).length_le
    rw [h1, List.length_cons] at h2
    omega
  · rw [nums_mem, nums_mem]
    simp only [decide_eq_true_eq]
    constructor
    · rintro (⟨h1, h2⟩ | ⟨h1, h2⟩)
      · exact ⟨h1, by rw [h2]; exact List.suffix_refl _⟩
      · exact ⟨h1, (h2.trans hL.1).trans (List.suffix_cons x u)⟩
    · rintro ⟨h1, h2⟩
      rcases List.suffix_cons_iff.1 h2 with e2 | h2
      · exact .inl ⟨h1, e2⟩
      · refine .inr ⟨h1, (hL.suf ((h.bg _).2 (.inr ⟨W.getD j [], ?_, List.prefix_refl _⟩))).1 h2⟩
        exact getD_mem' h1
theorem LK.push {W Ss : List (List UInt8)} {T : List Nd} {Q : List Nat} (h : LK W Ss T Q) (h0 : 0 ∈ Q) {b f : Nat} (hb : b < T.length) (hbn : b ∉ Q) (hf : f < T.length) (hL : LS Ss (Ss.getD b []).tail (Ss.getD f [])) : LK W Ss (lnk T b f (nums_ W.length fun j => decide (W.getD j [] <:+ Ss.getD b []))) (Q ++ [b]) := by
  have hb0 : b ≠ 0 := fun e => hbn (e ▸ h0)
  have hmm : ∀ a, a ∈ Q ++ [b] ↔ a ∈ Q ∨ a = b := fun a => by rw [List.mem_append, List.mem_singleton]
  refine ⟨h.tri.lnk hb, h.bg, fun a ha h0 => ?_, fun a ha h1 => ?_, fun a ha => ?_, fun a ha h1 => ?_⟩
  · unfold FlOk
    rw [lnk_len, lnk_at hb]
    by_cases e : a = b
    · subst e; rw [if_pos rfl]; exact ⟨hf, hL⟩
    · rw [if_neg e]
      rcases (hmm a).1 ha with ha | ha
      · exact h.fl a ha h0
      · exact absurd ha e
  · rw [lnk_len] at ha
    rw [lnk_at hb]
    by_cases e : a = b
    · subst e
      rcases h1 with h1 | h1
      · exact absurd ((hmm a).2 (.inr rfl)) h1
      · exact absurd h1 hb0
    · rw [if_neg e]
      refine h.fn a ha ?_
      rcases h1 with h1 | h1
      · exact .inl fun h2 => h1 ((hmm a).2 (.inl h2))
      · exact .inr h1
  · rw [lnk_at hb]
    by_cases e : a = b
    · subst e; rw [if_pos rfl]
    · rw [if_neg e]
      rcases (hmm a).1 ha with ha | ha
      · exact h.wq a ha
      · exact absurd ha e
  · rw [lnk_len] at ha
    rw [lnk_at hb]
    by_cases e : a = b
    · exact absurd ((hmm a).2 (.inr e)) h1
    · rw [if_neg e]; exact h.wn a ha fun h2 => h1 ((hmm a).2 (.inl h2))
theorem LK.init {W Ss : List (List UInt8)} {T : List Nd} {u : List UInt8} (h : BI W Ss T W.length []) : LK W Ss T [0] := by
  have hm0 : ∀ j, (W.getD j [] = Ss.getD 0 []) ↔ W.getD j [] <:+ Ss.getD 0 [] := fun j => by
    rw [h.tri.zero, List.suffix_nil]
  refine ⟨h.tri, fun v => ?_, fun a ha h0 => absurd (List.mem_singleton.1 ha) h0, fun a ha _ => h.fl a ha, fun a ha => ?_, fun a ha _ => h.wss a ha⟩
  · rw [h.mem]
    constructor
    · rintro (h1 | ⟨j, h1, h2⟩ | h1)
      · exact .inl h1
      · exact .inr ⟨_, getD_mem' h1, h2⟩
      · exact .inl (List.prefix_nil.1 h1)
    · rintro (h1 | ⟨w, h1, h2⟩)
      · exact .inl h1
      · obtain ⟨j, hj, e⟩ := List.getElem_of_mem h1
        exact .inr (.inl ⟨j, hj, by rw [show W.getD j [] = w by simp [List.getD, hj, e]]; exact h2⟩)
  · have ea := List.mem_singleton.1 ha
    subst ea
    have h0 : 0 < T.length := by rw [h.tri.len]; exact h.tri.pos
    rw [h.wss 0 h0]
    exact nums_ext fun j _ => by rw [decide_eq_decide]; exact hm0 j
structure AC (W : List (List UInt8)) (Ss : List (List UInt8)) (T : List Nd) : Prop where
  tri : Tri Ss T
  bg : Bgs W Ss
  fl : ∀ a, a < T.length → a ≠ 0 → FlOk Ss T a
  ws : ∀ a, a < T.length → (T.getD a default).ws = nums_ W.length fun j => decide (W.getD j [] <:+ Ss.getD a [])
theorem LK.fin {W Ss : List (List UInt8)} {T : List Nd} {Q : List Nat} {i c : Nat} (h : LK W Ss T Q) (hQ : QI Ss Q i c) (hi : i = Q.length) : AC W Ss T := by
  have hall : ∀ a, a < T.length → a ∈ Q := fun a ha => hQ.fin h.tri.nod h.tri.zero h.tri.pc hi (by rw [← h.tri.len]; exact ha)
  exact ⟨h.tri, h.bg, fun a ha h0 => h.fl a (hall a ha) h0, fun a ha => h.wq a (hall a ha)⟩
end Go.Proofs.Ytdcdldfleeilnaa

namespace Go.Proofs.Ytdcdldfleeilnaa
open Go.Shelf Go.Proofs
def sortN_ren : Go.Shelf.Ren := ⟨fun | 189 => 41 | 125 => 38 | 257 => 52 | 128 => 50 | 129 => 51 | 294 => 58 | 295 => 59 | 296 => 60 | 297 => 61 | 298 => 62 | 299 => 63 | 216 => 64 | 300 => 65 | 301 => 66 | 328 => 68 | 329 => 54 | 330 => 55 | 331 => 69 | 332 => 70 | 215 => 71 | 343 => 72 | n => n, fun | 28 => 23 | 3 => 3 | 46 => 64 | 0 => 0 | 51 => 75 | 53 => 77 | 4 => 4 | 183 => 69 | 182 => 68 | 131 => 60 | 5 => 5 | 9 => 9 | 218 => 79 | 222 => 83 | 228 => 91 | 229 => 92 | n => n, fun | n => n⟩
theorem sortN : Lays.n189 Try.prog sortN_ren where
  mixed := by kernel_rfl
  f125 := Try.func38.trans (congrArg some (by kernel_rfl))
  f128 := Try.func50.trans (congrArg some (by kernel_rfl))
  f129 := Try.func51.trans (congrArg some (by kernel_rfl))
  f189 := Try.func41.trans (congrArg some (by kernel_rfl))
  f215 := Try.func71.trans (congrArg some (by kernel_rfl))
  f216 := Try.func64.trans (congrArg some (by kernel_rfl))
  f257 := Try.func52.trans (congrArg some (by kernel_rfl))
  f294 := Try.func58.trans (congrArg some (by kernel_rfl))
  f295 := Try.func59.trans (congrArg some (by kernel_rfl))
  f296 := Try.func60.trans (congrArg some (by kernel_rfl))
  f297 := Try.func61.trans (congrArg some (by kernel_rfl))
  f298 := Try.func62.trans (congrArg some (by kernel_rfl))
  f299 := Try.func63.trans (congrArg some (by kernel_rfl))
  f300 := Try.func65.trans (congrArg some (by kernel_rfl))
  f301 := Try.func66.trans (congrArg some (by kernel_rfl))
  f328 := Try.func68.trans (congrArg some (by kernel_rfl))
  f329 := Try.func54.trans (congrArg some (by kernel_rfl))
  f330 := Try.func55.trans (congrArg some (by kernel_rfl))
  f331 := Try.func69.trans (congrArg some (by kernel_rfl))
  f332 := Try.func70.trans (congrArg some (by kernel_rfl))
  f343 := Try.func72.trans (congrArg some (by kernel_rfl))
  t0 := Try.underlying0
  a0 := Try.isAgg0
  z0 := Try.sizeOf0
  v0 := Try.zeroValue0
  t3 := Try.underlying3
  a3 := Try.isAgg3
  z3 := Try.sizeOf3
  v3 := Try.zeroValue3
  t4 := Try.underlying4
  a4 := Try.isAgg4
  z4 := Try.sizeOf4
  v4 := Try.zeroValue4
  t5 := Try.underlying5
  a5 := Try.isAgg5
  z5 := Try.sizeOf5
  v5 := Try.zeroValue5
  t9 := Try.underlying9
  a9 := Try.isAgg9
  z9 := Try.sizeOf9
  v9 := Try.zeroValue9
  t28 := Try.underlying23
  a28 := Try.isAgg23
  z28 := Try.sizeOf23
  v28 := Try.zeroValue23
  t46 := Try.underlying64
  a46 := Try.isAgg64
  z46 := Try.sizeOf64
  v46 := Try.zeroValue64
  t51 := Try.underlying75
  a51 := Try.isAgg75
  z51 := Try.sizeOf75
  v51 := Try.zeroValue75
  t53 := Try.underlying77
  a53 := Try.isAgg77
  z53 := Try.sizeOf77
  v53 := Try.zeroValue77
  t131 := Try.underlying60
  a131 := Try.isAgg60
  z131 := Try.sizeOf60
  v131 := Try.zeroValue60
  t182 := Try.underlying68
  a182 := Try.isAgg68
  z182 := Try.sizeOf68
  v182 := Try.zeroValue68
  t183 := Try.underlying69
  a183 := Try.isAgg69
  z183 := Try.sizeOf69
  v183 := Try.zeroValue69
  t218 := Try.underlying79
  a218 := Try.isAgg79
  z218 := Try.sizeOf79
  v218 := Try.zeroValue79
  t222 := Try.underlying83
  a222 := Try.isAgg83
  z222 := Try.sizeOf83
  v222 := Try.zeroValue83
  t228 := Try.underlying91
  a228 := Try.isAgg91
  z228 := Try.sizeOf91
  v228 := Try.zeroValue91
  t229 := Try.underlying92
  a229 := Try.isAgg92
  z229 := Try.sizeOf92
  v229 := Try.zeroValue92
end Go.Proofs.Ytdcdldfleeilnaa
