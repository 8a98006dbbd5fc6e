/-
 Texts of this claim, one behind another.
-/
import Derived.Test.YtplkkacfjepgpaaMg9
import Derived.Test.YtplkkacfjepgpaaMg11
import Derived.Test.YtplkkacfjepgpaaCode
namespace Go.Proofs.Ytplkkacfjepgpaa
open Go.Dm
set_option linter.unusedSimpArgs false
set_option linter.unnecessarySimpa false
set_option linter.unusedVariables false
theorem mixed : Try.prog.follows .mixedOrders = true := by kernel_rfl
end Go.Proofs.Ytplkkacfjepgpaa

namespace Go.Proofs.Ytplkkacfjepgpaa
open Go.Dm
set_option linter.unusedSimpArgs false
set_option linter.unnecessarySimpa false
set_option linter.unusedVariables false
def idxOf {α : Type} (p : α → Bool) (l : List α) : Int := if l.any p = true then ((l.findIdx p : Nat) : Int) else -1
theorem idxOf_hit {α : Type} [Inhabited α] {p : α → Bool} {l : List α} {i : Nat} (hi : i < l.length) (h : p (l.getD i default) = true) (hn : ∀ j, j < i → p (l.getD j default) = false) : idxOf p l = i := by
  have e : ∀ j (hj : j < l.length), l.getD j default = l[j] := fun j hj => by simp [List.getD, hj]
  unfold idxOf
  rw [if_pos (List.any_eq_true.2 ⟨l[i], List.getElem_mem hi, by rw [← e i hi]; exact h⟩)]
  rw [(List.findIdx_eq hi).2 ⟨by rw [← e i hi]; exact h, fun j hj => by rw [← e j (by omega)]; exact hn j hj⟩]
theorem any_none {α : Type} [Inhabited α] {p : α → Bool} {l : List α} {i : Nat} (hi : l.length ≤ i) (hn : ∀ j, j < i → p (l.getD j default) = false) : l.any p = false := by
  rw [List.any_eq_false]
  intro x hx
  obtain ⟨j, hj, e⟩ := mem_getD hx
  rw [← e, hn j (by omega)]
  simp
theorem idxOf_miss {α : Type} [Inhabited α] {p : α → Bool} {l : List α} {i : Nat} (hi : l.length ≤ i) (hn : ∀ j, j < i → p (l.getD j default) = false) : idxOf p l = -1 := by
  unfold idxOf
  rw [if_neg (by rw [any_none hi hn]; simp)]
theorem idxOf_geq {α : Type} {p : α → Bool} {l : List α} : decide (0 ≤ idxOf p l) = l.any p := by
  unfold idxOf
  by_cases h : l.any p = true
  · rw [if_pos h, h]; exact decide_eq_true (by omega)
  · rw [if_neg h, Bool.not_eq_true] at *; rw [h]; rfl
theorem cl_lf {f : D → D} (hf : ∀ d, clL d = true → f d = d) : ∀ d : D, d.cl = true → d.lf f = d
  | .ag ds, h => by
    have hd : ∀ d, d ∈ ds → d.cl = true := fun d hm => by rw [D.cl, alls_ag] at h; exact List.all_eq_true.1 h d hm
    have ih : ∀ d, d ∈ ds → d.lf f = d := fun d hm => cl_lf hf d (hd d hm)
    rw [lf_ag, List.map_congr_left ih, List.map_id']
  | .tu ds, h => by
    have hd : ∀ d, d ∈ ds → d.cl = true := fun d hm => by rw [D.cl, alls_tu] at h; exact List.all_eq_true.1 h d hm
    have ih : ∀ d, d ∈ ds → d.lf f = d := fun d hm => cl_lf hf d (hd d hm)
    rw [lf_tu, List.map_congr_left ih, List.map_id']
  | .clo g ds, h => by
    have hd : ∀ d, d ∈ ds → d.cl = true := fun d hm => by rw [cl_clo] at h; exact List.all_eq_true.1 h d hm
    have ih : ∀ d, d ∈ ds → d.lf f = d := fun d hm => cl_lf hf d (hd d hm)
    rw [lf_clo, List.map_congr_left ih, List.map_id']
  | .v x, h => by rw [lf_leaf rfl]; exact hf _ rfl
  | .nl, h => by rw [lf_leaf rfl]; exact hf _ rfl
  | .sl _ _, h => by rw [lf_leaf rfl]; exact hf _ rfl
  | .ip _ _, h => by rw [lf_leaf rfl]; exact hf _ rfl
  | .ref _ _ _ _, h => by rw [D.cl, alls_leaf rfl] at h; cases h
  | .ptr _ _ _ _, h => by rw [D.cl, alls_leaf rfl] at h; cases h
  | .mp _, h => by rw [D.cl, alls_leaf rfl] at h; cases h
  | .own _ _ _, h => by rw [D.cl, alls_leaf rfl] at h; cases h
  | .omp _ _ _, h => by rw [D.cl, alls_leaf rfl] at h; cases h
  | .junk, h => by rw [D.cl, alls_leaf rfl] at h; cases h
termination_by d => SizeOf.sizeOf d
decreasing_by all_goals (have := List.sizeOf_lt_of_mem hm; simp; omega)
theorem cl_J : ∀ d : D, d.alls clL = true → d.alls clJ = true
  | .ag ds, h => by
    rw [alls_ag] at h ⊢
    exact List.all_eq_true.2 fun d hm => cl_J d (List.all_eq_true.1 h d hm)
  | .tu ds, h => by
    rw [alls_tu] at h ⊢
    exact List.all_eq_true.2 fun d hm => cl_J d (List.all_eq_true.1 h d hm)
  | .clo g ds, h => by
    rw [alls_clo] at h ⊢
    exact List.all_eq_true.2 fun d hm => cl_J d (List.all_eq_true.1 h d hm)
  | .v x, h => by rw [alls_leaf rfl]; rfl
  | .nl, h => by rw [alls_leaf rfl]; rfl
  | .sl _ _, h => by rw [alls_leaf rfl]; rfl
  | .ip _ _, h => by rw [alls_leaf rfl]; rfl
  | .ref _ _ _ _, h => by rw [alls_leaf rfl] at h; cases h
  | .ptr _ _ _ _, h => by rw [alls_leaf rfl] at h; cases h
  | .mp _, h => by rw [alls_leaf rfl] at h; cases h
  | .own _ _ _, h => by rw [alls_leaf rfl] at h; cases h
  | .omp _ _ _, h => by rw [alls_leaf rfl] at h; cases h
  | .junk, h => by rw [alls_leaf rfl] at h; cases h
termination_by d => SizeOf.sizeOf d
decreasing_by all_goals (have := List.sizeOf_lt_of_mem hm; simp; omega)
section
variable {ds : List D} (hd : ds.all D.cl = true)
include hd
theorem map_lf {f : D → D} (hf : ∀ d, clL d = true → f d = d) : ds.map (D.lf f) = ds := by
  rw [List.map_congr_left (fun d hm => cl_lf hf d (List.all_eq_true.1 hd d hm)), List.map_id']
theorem cl_trims (n : Nat) : (ds.map fun d => d.trim n) = ds := map_lf hd (f := trimL n) (fun d h => by cases d <;> first | rfl | cases h)
theorem cl_views (s : S) : ds.map s.view = ds := map_lf hd (f := s.viewL) (fun d h => by cases d <;> first | rfl | cases h)
theorem cl_owned : ds.any D.owned = false := by
  rw [List.any_eq_false]
  intro d hm
  have h := List.all_eq_true.1 hd d hm
  have : d.alls clJ = true := by
    revert h
    unfold D.cl
    exact cl_J d
  simp [D.owned, this]
end
set_option maxRecDepth 10000 in
set_option maxHeartbeats 4000000 in
theorem idxF_rule (l : List (Rule)) (p : Rule → Bool) (f : FuncId) (ds : List D) (hl : l.length ≤ 9223372036854775807) (hd : ds.all D.cl = true) (hp : ∀ a, a ∈ l → Dm.Spec Try.prog f (.ag (rulD a) :: ds) (· = .v (.bool (p a)))) : Dm.Spec Try.prog 45 [.sl 2 (tbl rulD l), .clo f ds] (· = .v (.int .i64 (idxOf p l))) := by
  refine spec_of_vc mixed Try.func45 c45 (by rw [show Try.f45.ntmps = _ from Try.ntmps45]; simp) ?_
  unfold m45 r45
  repeat' first | ((first | refine Br.dec ?_ ?_ | refine Br.eqi ?_ ?_) <;> intro h <;> try (exfalso; omega)) | (simp (disch := first | omega | (simp only [vlen]; first | done | omega)) only [↓vAq, vBq, ↓reduceIte, Nat.reduceBEq, Nat.reduceEqDiff, Nat.reduceLT, Nat.reduceLeDiff, Nat.reduceAdd, Nat.reduceMul, Nat.reduceSub, reduceCtorEq, Int.reduceToNat]) | (refine Br.mk ?_ ?_ <;> intro h) | (refine BrN.mk (fun h => ?_) ?_) | (refine AltVC.mk ?_ ?_)
  refine LoopVC.mk (X := Nat) (fun i => [(1, .clo f ds), (8, iv .i64 i)]) (fun _ => []) (fun i => l.length - i) (fun i => i ≤ l.length ∧ ∀ j, j < i → p (l.getD j default) = false) 0 ⟨by omega, by omega⟩ ?_ ?_
  · (simp (disch := first | omega | (simp only [vlen]; first | done | omega)) only [Fits_u, Fits_m, Fits_nil, List.length_append, ↓vAq, vBq, ↓reduceIte, Nat.reduceBEq, Nat.reduceEqDiff, Nat.reduceLT, Nat.reduceLeDiff, Nat.reduceAdd, Nat.reduceMul, Nat.reduceSub, reduceCtorEq, Int.reduceToNat] <;> (repeat' first | rfl | apply And.intro))
  · rintro i ⟨hi, hn⟩
    repeat' first | ((first | refine Br.dec ?_ ?_ | refine Br.eqi ?_ ?_) <;> intro h <;> try (exfalso; omega)) | (simp (disch := first | omega | (simp only [vlen]; first | done | omega)) only [↓vAq, vBq, ↓reduceIte, Nat.reduceBEq, Nat.reduceEqDiff, Nat.reduceLT, Nat.reduceLeDiff, Nat.reduceAdd, Nat.reduceMul, Nat.reduceSub, reduceCtorEq, Int.reduceToNat]) | (refine Br.mk ?_ ?_ <;> intro h) | (refine BrN.mk (fun h => ?_) ?_) | (refine AltVC.mk ?_ ?_)
    · rw [cl_views hd, cl_owned hd]
      refine CallVC.eq (hp (l.getD i default) (getD_mem' (by omega))) ?_
      repeat' first | ((first | refine Br.dec ?_ ?_ | refine Br.eqi ?_ ?_) <;> intro h <;> try (exfalso; omega)) | (simp (disch := first | omega | (simp only [vlen]; first | done | omega)) only [↓vAq, vBq, ↓reduceIte, Nat.reduceBEq, Nat.reduceEqDiff, Nat.reduceLT, Nat.reduceLeDiff, Nat.reduceAdd, Nat.reduceMul, Nat.reduceSub, reduceCtorEq, Int.reduceToNat]) | (refine Br.mk ?_ ?_ <;> intro h) | (refine BrN.mk (fun h => ?_) ?_) | (refine AltVC.mk ?_ ?_)
      · refine fin_mk (viEq ?_)
        rw [idxOf_hit (by omega) (by assumption) hn]
      · refine loopK.mk (i + 1) (by simp (disch := first | omega | (simp only [vlen]; first | done | omega)) only [↓vAq, vBq, ↓reduceIte, Nat.reduceBEq, Nat.reduceEqDiff, Nat.reduceLT, Nat.reduceLeDiff, Nat.reduceAdd, Nat.reduceMul, Nat.reduceSub, reduceCtorEq, Int.reduceToNat]) ⟨by omega, fun j hj => ?_⟩ (by omega) ?_
        · by_cases e : j = i
          · subst e; assumption
          · exact hn j (by omega)
        · (simp (disch := first | omega | (simp only [vlen]; first | done | omega)) only [Fits_u, Fits_m, Fits_nil, List.length_append, ↓vAq, vBq, ↓reduceIte, Nat.reduceBEq, Nat.reduceEqDiff, Nat.reduceLT, Nat.reduceLeDiff, Nat.reduceAdd, Nat.reduceMul, Nat.reduceSub, reduceCtorEq, Int.reduceToNat] <;> (repeat' first | rfl | apply And.intro))
          rw [cl_trims hd]
    · refine fin_mk (viEq ?_)
      rw [idxOf_miss (by omega) hn]
set_option maxRecDepth 10000 in
set_option maxHeartbeats 4000000 in
theorem conF_rule (l : List (Rule)) (p : Rule → Bool) (f : FuncId) (ds : List D) (hl : l.length ≤ 9223372036854775807) (hd : ds.all D.cl = true) (hp : ∀ a, a ∈ l → Dm.Spec Try.prog f (.ag (rulD a) :: ds) (· = .v (.bool (p a)))) : Dm.Spec Try.prog 55 [.sl 2 (tbl rulD l), .clo f ds] (· = .v (.bool (l.any p))) := by
  refine spec_of_vc mixed Try.func55 c55 (by rw [show Try.f55.ntmps = _ from Try.ntmps55]; simp) ?_
  unfold m55 r55
  repeat' first | ((first | refine Br.dec ?_ ?_ | refine Br.eqi ?_ ?_) <;> intro h <;> try (exfalso; omega)) | (simp (disch := first | omega | (simp only [vlen]; first | done | omega)) only [↓vAq, vBq, ↓reduceIte, Nat.reduceBEq, Nat.reduceEqDiff, Nat.reduceLT, Nat.reduceLeDiff, Nat.reduceAdd, Nat.reduceMul, Nat.reduceSub, reduceCtorEq, Int.reduceToNat]) | (refine Br.mk ?_ ?_ <;> intro h) | (refine BrN.mk (fun h => ?_) ?_) | (refine AltVC.mk ?_ ?_)
  rw [cl_views hd, cl_owned hd]
  refine CallVC.eq (idxF_rule l p f ds hl hd hp) ?_
  repeat' first | ((first | refine Br.dec ?_ ?_ | refine Br.eqi ?_ ?_) <;> intro h <;> try (exfalso; omega)) | (simp (disch := first | omega | (simp only [vlen]; first | done | omega)) only [↓vAq, vBq, ↓reduceIte, Nat.reduceBEq, Nat.reduceEqDiff, Nat.reduceLT, Nat.reduceLeDiff, Nat.reduceAdd, Nat.reduceMul, Nat.reduceSub, reduceCtorEq, Int.reduceToNat]) | (refine Br.mk ?_ ?_ <;> intro h) | (refine BrN.mk (fun h => ?_) ?_) | (refine AltVC.mk ?_ ?_)
  exact fin_mk (vbEq idxOf_geq)
set_option maxRecDepth 10000 in
set_option maxHeartbeats 4000000 in
theorem idxF_int (l : List (Int)) (p : Int → Bool) (f : FuncId) (ds : List D) (hl : l.length ≤ 9223372036854775807) (hd : ds.all D.cl = true) (hp : ∀ a, a ∈ l → Dm.Spec Try.prog f (iv .i64 a :: ds) (· = .v (.bool (p a)))) : Dm.Spec Try.prog 80 [.sl 1 (i64s l), .clo f ds] (· = .v (.int .i64 (idxOf p l))) := by
  refine spec_of_vc mixed Try.func80 c80 (by rw [show Try.f80.ntmps = _ from Try.ntmps80]; simp) ?_
  unfold m80 r80
  repeat' first | ((first | refine Br.dec ?_ ?_ | refine Br.eqi ?_ ?_) <;> intro h <;> try (exfalso; omega)) | (simp (disch := first | omega | (simp only [vlen]; first | done | omega)) only [↓vAq, vBq, ↓reduceIte, Nat.reduceBEq, Nat.reduceEqDiff, Nat.reduceLT, Nat.reduceLeDiff, Nat.reduceAdd, Nat.reduceMul, Nat.reduceSub, reduceCtorEq, Int.reduceToNat]) | (refine Br.mk ?_ ?_ <;> intro h) | (refine BrN.mk (fun h => ?_) ?_) | (refine AltVC.mk ?_ ?_)
  refine LoopVC.mk (X := Nat) (fun i => [(1, .clo f ds), (8, iv .i64 i)]) (fun _ => []) (fun i => l.length - i) (fun i => i ≤ l.length ∧ ∀ j, j < i → p (l.getD j default) = false) 0 ⟨by omega, by omega⟩ ?_ ?_
  · (simp (disch := first | omega | (simp only [vlen]; first | done | omega)) only [Fits_u, Fits_m, Fits_nil, List.length_append, ↓vAq, vBq, ↓reduceIte, Nat.reduceBEq, Nat.reduceEqDiff, Nat.reduceLT, Nat.reduceLeDiff, Nat.reduceAdd, Nat.reduceMul, Nat.reduceSub, reduceCtorEq, Int.reduceToNat] <;> (repeat' first | rfl | apply And.intro))
  · rintro i ⟨hi, hn⟩
    repeat' first | ((first | refine Br.dec ?_ ?_ | refine Br.eqi ?_ ?_) <;> intro h <;> try (exfalso; omega)) | (simp (disch := first | omega | (simp only [vlen]; first | done | omega)) only [↓vAq, vBq, ↓reduceIte, Nat.reduceBEq, Nat.reduceEqDiff, Nat.reduceLT, Nat.reduceLeDiff, Nat.reduceAdd, Nat.reduceMul, Nat.reduceSub, reduceCtorEq, Int.reduceToNat]) | (refine Br.mk ?_ ?_ <;> intro h) | (refine BrN.mk (fun h => ?_) ?_) | (refine AltVC.mk ?_ ?_)
    · rw [cl_views hd, cl_owned hd]
      refine CallVC.eq (hp (l.getD i default) (getD_mem' (by omega))) ?_
      repeat' first | ((first | refine Br.dec ?_ ?_ | refine Br.eqi ?_ ?_) <;> intro h <;> try (exfalso; omega)) | (simp (disch := first | omega | (simp only [vlen]; first | done | omega)) only [↓vAq, vBq, ↓reduceIte, Nat.reduceBEq, Nat.reduceEqDiff, Nat.reduceLT, Nat.reduceLeDiff, Nat.reduceAdd, Nat.reduceMul, Nat.reduceSub, reduceCtorEq, Int.reduceToNat]) | (refine Br.mk ?_ ?_ <;> intro h) | (refine BrN.mk (fun h => ?_) ?_) | (refine AltVC.mk ?_ ?_)
      · refine fin_mk (viEq ?_)
        rw [idxOf_hit (by omega) (by assumption) hn]
      · refine loopK.mk (i + 1) (by simp (disch := first | omega | (simp only [vlen]; first | done | omega)) only [↓vAq, vBq, ↓reduceIte, Nat.reduceBEq, Nat.reduceEqDiff, Nat.reduceLT, Nat.reduceLeDiff, Nat.reduceAdd, Nat.reduceMul, Nat.reduceSub, reduceCtorEq, Int.reduceToNat]) ⟨by omega, fun j hj => ?_⟩ (by omega) ?_
        · by_cases e : j = i
          · subst e; assumption
          · exact hn j (by omega)
        · (simp (disch := first | omega | (simp only [vlen]; first | done | omega)) only [Fits_u, Fits_m, Fits_nil, List.length_append, ↓vAq, vBq, ↓reduceIte, Nat.reduceBEq, Nat.reduceEqDiff, Nat.reduceLT, Nat.reduceLeDiff, Nat.reduceAdd, Nat.reduceMul, Nat.reduceSub, reduceCtorEq, Int.reduceToNat] <;> (repeat' first | rfl | apply And.intro))
          rw [cl_trims hd]
    · refine fin_mk (viEq ?_)
      rw [idxOf_miss (by omega) hn]
set_option maxRecDepth 10000 in
set_option maxHeartbeats 4000000 in
theorem conF_int (l : List (Int)) (p : Int → Bool) (f : FuncId) (ds : List D) (hl : l.length ≤ 9223372036854775807) (hd : ds.all D.cl = true) (hp : ∀ a, a ∈ l → Dm.Spec Try.prog f (iv .i64 a :: ds) (· = .v (.bool (p a)))) : Dm.Spec Try.prog 60 [.sl 1 (i64s l), .clo f ds] (· = .v (.bool (l.any p))) := by
  refine spec_of_vc mixed Try.func60 c60 (by rw [show Try.f60.ntmps = _ from Try.ntmps60]; simp) ?_
  unfold m60 r60
  repeat' first | ((first | refine Br.dec ?_ ?_ | refine Br.eqi ?_ ?_) <;> intro h <;> try (exfalso; omega)) | (simp (disch := first | omega | (simp only [vlen]; first | done | omega)) only [↓vAq, vBq, ↓reduceIte, Nat.reduceBEq, Nat.reduceEqDiff, Nat.reduceLT, Nat.reduceLeDiff, Nat.reduceAdd, Nat.reduceMul, Nat.reduceSub, reduceCtorEq, Int.reduceToNat]) | (refine Br.mk ?_ ?_ <;> intro h) | (refine BrN.mk (fun h => ?_) ?_) | (refine AltVC.mk ?_ ?_)
  rw [cl_views hd, cl_owned hd]
  refine CallVC.eq (idxF_int l p f ds hl hd hp) ?_
  repeat' first | ((first | refine Br.dec ?_ ?_ | refine Br.eqi ?_ ?_) <;> intro h <;> try (exfalso; omega)) | (simp (disch := first | omega | (simp only [vlen]; first | done | omega)) only [↓vAq, vBq, ↓reduceIte, Nat.reduceBEq, Nat.reduceEqDiff, Nat.reduceLT, Nat.reduceLeDiff, Nat.reduceAdd, Nat.reduceMul, Nat.reduceSub, reduceCtorEq, Int.reduceToNat]) | (refine Br.mk ?_ ?_ <;> intro h) | (refine BrN.mk (fun h => ?_) ?_) | (refine AltVC.mk ?_ ?_)
  exact fin_mk (vbEq idxOf_geq)
end Go.Proofs.Ytplkkacfjepgpaa

namespace Go.Proofs.Ytplkkacfjepgpaa
open Go.Dm
set_option linter.unusedSimpArgs false
set_option linter.unnecessarySimpa false
set_option linter.unusedVariables false
def isSign (g : Grammar) (x : Int) : Bool := decide (0 ≤ x ∧ x < g.k + g.n)
def isSigns (g : Grammar) (l : List Int) : Bool := l.all (isSign g)
def gcode (g : Grammar) : Int :=
  if ¬ (1 ≤ g.k ∧ g.k ≤ 3) ∨ ¬ (1 ≤ g.n ∧ g.n ≤ 5) ∨ 10 < g.rules.length then 1
  else if g.rules.any (fun r => decide (4 < r.right.length)) = true then 1
  else if ¬ (0 ≤ g.start ∧ g.start < g.n) then 2
  else if g.rules.any (fun r => !(decide (0 ≤ r.left ∧ r.left < g.n) && isSigns g r.right)) = true then 2
  else 0
set_option maxRecDepth 10000 in
set_option maxHeartbeats 4000000 in
theorem gWithin_spec (n lo hi : Int) : Dm.Spec Try.prog 66 [iv .i64 n, iv .i64 lo, iv .i64 hi] (· = .v (.bool (decide (lo ≤ n ∧ n ≤ hi)))) := by
  refine spec_of_vc mixed Try.func66 c66 (by rw [show Try.f66.ntmps = _ from Try.ntmps66]; simp) ?_
  unfold m66 r66
  repeat' first | ((first | refine Br.dec ?_ ?_ | refine Br.eqi ?_ ?_) <;> intro h <;> try (exfalso; omega)) | (simp (disch := first | omega | (simp only [vlen]; first | done | omega)) only [↓vAq, vBq, ↓reduceIte, Nat.reduceBEq, Nat.reduceEqDiff, Nat.reduceLT, Nat.reduceLeDiff, Nat.reduceAdd, Nat.reduceMul, Nat.reduceSub, reduceCtorEq, Int.reduceToNat]) | (refine Br.mk ?_ ?_ <;> intro h) | (refine BrN.mk (fun h => ?_) ?_) | (refine AltVC.mk ?_ ?_)
  · exact fin_mk (vbEq (by congr 1; exact propext ⟨fun h => ⟨by assumption, h⟩, fun h => h.2⟩))
  · exact fin_mk (vbEq (by rw [decide_eq_false (fun h => by omega)]))
set_option maxRecDepth 10000 in
set_option maxHeartbeats 4000000 in
theorem gLong_spec (r : Rule) (h : r.right.length ≤ 9223372036854775807) : Dm.Spec Try.prog 67 [.ag (rulD r)] (· = .v (.bool (decide (4 < r.right.length)))) := by
  refine spec_of_vc mixed Try.func67 c67 (by rw [show Try.f67.ntmps = _ from Try.ntmps67]; simp) ?_
  unfold m67 r67
  repeat' first | ((first | refine Br.dec ?_ ?_ | refine Br.eqi ?_ ?_) <;> intro h <;> try (exfalso; omega)) | (simp (disch := first | omega | (simp only [vlen]; first | done | omega)) only [↓vAq, vBq, ↓reduceIte, Nat.reduceBEq, Nat.reduceEqDiff, Nat.reduceLT, Nat.reduceLeDiff, Nat.reduceAdd, Nat.reduceMul, Nat.reduceSub, reduceCtorEq, Int.reduceToNat]) | (refine Br.mk ?_ ?_ <;> intro h) | (refine BrN.mk (fun h => ?_) ?_) | (refine AltVC.mk ?_ ?_)
  exact fin_mk (vbEq (dec_iff (by omega)))
set_option maxRecDepth 10000 in
set_option maxHeartbeats 4000000 in
theorem isSign_spec (g : Grammar) (hk : 0 ≤ g.k ∧ g.k ≤ 1000) (hn : 0 ≤ g.n ∧ g.n ≤ 1000) (s : Int) : Dm.Spec Try.prog 82 [iv .i64 s, .ip (graD g) 0] (· = .v (.bool (!isSign g s))) := by
  refine spec_of_vc mixed Try.func82 c82 (by rw [show Try.f82.ntmps = _ from Try.ntmps82]; simp) ?_
  unfold m82 r82
  repeat' first | ((first | refine Br.dec ?_ ?_ | refine Br.eqi ?_ ?_) <;> intro h <;> try (exfalso; omega)) | (simp (disch := first | omega | (simp only [vlen]; first | done | omega)) only [↓vAq, vBq, ↓reduceIte, Nat.reduceBEq, Nat.reduceEqDiff, Nat.reduceLT, Nat.reduceLeDiff, Nat.reduceAdd, Nat.reduceMul, Nat.reduceSub, reduceCtorEq, Int.reduceToNat]) | (refine Br.mk ?_ ?_ <;> intro h) | (refine BrN.mk (fun h => ?_) ?_) | (refine AltVC.mk ?_ ?_)
  · refine fin_mk (vbEq ?_)
    rw [isSign, decide_eq_false (by omega)]; rfl
  · refine fin_mk (vbEq ?_)
    rw [isSign, ← decide_not]
    exact dec_iff (by omega)
theorem all_not' {α : Type} {p : α → Bool} {l : List α} : (!(l.any fun a => !p a)) = l.all p := by
  rw [List.not_any_eq_all_not]; simp
set_option maxRecDepth 10000 in
set_option maxHeartbeats 4000000 in
theorem isSigns_spec (g : Grammar) (hk : 0 ≤ g.k ∧ g.k ≤ 1000) (hn : 0 ≤ g.n ∧ g.n ≤ 1000) (l : List Int) (hl : l.length ≤ 9223372036854775807) : Dm.Spec Try.prog 68 [.ag (graD g), .sl 1 (i64s l)] (· = .v (.bool (isSigns g l))) := by
  refine spec_of_vc mixed Try.func68 c68 (by rw [show Try.f68.ntmps = _ from Try.ntmps68]; simp) ?_
  unfold m68 r68
  repeat' first | ((first | refine Br.dec ?_ ?_ | refine Br.eqi ?_ ?_) <;> intro h <;> try (exfalso; omega)) | (simp (disch := first | omega | (simp only [vlen]; first | done | omega)) only [↓vAq, vBq, ↓reduceIte, Nat.reduceBEq, Nat.reduceEqDiff, Nat.reduceLT, Nat.reduceLeDiff, Nat.reduceAdd, Nat.reduceMul, Nat.reduceSub, reduceCtorEq, Int.reduceToNat]) | (refine Br.mk ?_ ?_ <;> intro h) | (refine BrN.mk (fun h => ?_) ?_) | (refine AltVC.mk ?_ ?_)
  refine CallVC.eqo (conF_int l (fun s => !isSign g s) _ [.ip (graD g) 0] hl (by simp (disch := first | omega | (simp only [vlen]; first | done | omega)) only [↓vAq, vBq, ↓reduceIte, Nat.reduceBEq, Nat.reduceEqDiff, Nat.reduceLT, Nat.reduceLeDiff, Nat.reduceAdd, Nat.reduceMul, Nat.reduceSub, reduceCtorEq, Int.reduceToNat]) fun a ha => isSign_spec g hk hn a) (by simp (disch := first | omega | (simp only [vlen]; first | done | omega)) only [↓vAq, vBq, ↓reduceIte, Nat.reduceBEq, Nat.reduceEqDiff, Nat.reduceLT, Nat.reduceLeDiff, Nat.reduceAdd, Nat.reduceMul, Nat.reduceSub, reduceCtorEq, Int.reduceToNat]) ?_
  repeat' first | ((first | refine Br.dec ?_ ?_ | refine Br.eqi ?_ ?_) <;> intro h <;> try (exfalso; omega)) | (simp (disch := first | omega | (simp only [vlen]; first | done | omega)) only [↓vAq, vBq, ↓reduceIte, Nat.reduceBEq, Nat.reduceEqDiff, Nat.reduceLT, Nat.reduceLeDiff, Nat.reduceAdd, Nat.reduceMul, Nat.reduceSub, reduceCtorEq, Int.reduceToNat]) | (refine Br.mk ?_ ?_ <;> intro h) | (refine BrN.mk (fun h => ?_) ?_) | (refine AltVC.mk ?_ ?_)
  exact fin_mk (vbEq all_not')
def badRule (g : Grammar) (r : Rule) : Bool := !(decide (0 ≤ r.left ∧ r.left < g.n) && isSigns g r.right)
theorem gcode_b {g : Grammar} : gcode g = if ¬ (1 ≤ g.k ∧ g.k ≤ 3) ∨ ¬ (1 ≤ g.n ∧ g.n ≤ 5) ∨ 10 < g.rules.length then 1
  else if g.rules.any (fun r => decide (4 < r.right.length)) = true then 1
  else if ¬ (0 ≤ g.start ∧ g.start < g.n) then 2
  else if g.rules.any (badRule g) = true then 2 else 0 := rfl
theorem any_hit {α : Type} [Inhabited α] {p : α → Bool} {l : List α} {i : Nat} (hi : i < l.length) (h : p (l.getD i default) = true) : l.any p = true :=
  List.any_eq_true.2 ⟨_, getD_mem' hi, h⟩
set_option maxRecDepth 10000 in
set_option maxHeartbeats 4000000 in
theorem gCheck_spec (g : Grammar) (hg : g.ok) : Dm.Spec Try.prog 37 [.ag (graD g)] (· = iv .i64 (gcode g)) := by
  refine spec_of_vc mixed Try.func37 c37 (by rw [show Try.f37.ntmps = _ from Try.ntmps37]; simp) ?_
  unfold m37 r37
  have hr : g.rules.length ≤ 9223372036854775807 := maxLen_le hg.2.2.2.1
  have hk : -9223372036854775808 ≤ g.k ∧ g.k ≤ 9223372036854775807 := hg.1
  have hn : -9223372036854775808 ≤ g.n ∧ g.n ≤ 9223372036854775807 := hg.2.1
  have hq : ∀ r, r ∈ g.rules → r.right.length ≤ 9223372036854775807 := fun r h => maxLen_le (hg.2.2.2.2 r h).2.1
  have r1 : ¬ (1 ≤ g.k ∧ g.k ≤ 3) ∨ ¬ (1 ≤ g.n ∧ g.n ≤ 5) ∨ 10 < g.rules.length → gcode g = 1 := fun h => by rw [gcode, if_pos h]
  repeat' first | ((first | refine Br.dec ?_ ?_ | refine Br.eqi ?_ ?_) <;> intro h <;> try (exfalso; omega)) | (simp (disch := first | omega | (simp only [vlen]; first | done | omega)) only [↓vAq, vBq, ↓reduceIte, Nat.reduceBEq, Nat.reduceEqDiff, Nat.reduceLT, Nat.reduceLeDiff, Nat.reduceAdd, Nat.reduceMul, Nat.reduceSub, reduceCtorEq, Int.reduceToNat]) | (refine Br.mk ?_ ?_ <;> intro h) | (refine BrN.mk (fun h => ?_) ?_) | (refine AltVC.mk ?_ ?_)
  refine CallVC.eq (gWithin_spec _ _ _) ?_
  repeat' first | ((first | refine Br.dec ?_ ?_ | refine Br.eqi ?_ ?_) <;> intro h <;> try (exfalso; omega)) | (simp (disch := first | omega | (simp only [vlen]; first | done | omega)) only [↓vAq, vBq, ↓reduceIte, Nat.reduceBEq, Nat.reduceEqDiff, Nat.reduceLT, Nat.reduceLeDiff, Nat.reduceAdd, Nat.reduceMul, Nat.reduceSub, reduceCtorEq, Int.reduceToNat]) | (refine Br.mk ?_ ?_ <;> intro h) | (refine BrN.mk (fun h => ?_) ?_) | (refine AltVC.mk ?_ ?_)
  · refine CallVC.eq (gWithin_spec _ _ _) ?_
    repeat' first | ((first | refine Br.dec ?_ ?_ | refine Br.eqi ?_ ?_) <;> intro h <;> try (exfalso; omega)) | (simp (disch := first | omega | (simp only [vlen]; first | done | omega)) only [↓vAq, vBq, ↓reduceIte, Nat.reduceBEq, Nat.reduceEqDiff, Nat.reduceLT, Nat.reduceLeDiff, Nat.reduceAdd, Nat.reduceMul, Nat.reduceSub, reduceCtorEq, Int.reduceToNat]) | (refine Br.mk ?_ ?_ <;> intro h) | (refine BrN.mk (fun h => ?_) ?_) | (refine AltVC.mk ?_ ?_)
    · exact fin_mk (by rw [r1 (by omega)])
    · refine CallVC.eqo (conF_rule g.rules (fun r => decide (4 < r.right.length)) _ [] hr rfl fun r h => gLong_spec r (hq r h)) (by simp (disch := first | omega | (simp only [vlen]; first | done | omega)) only [↓vAq, vBq, ↓reduceIte, Nat.reduceBEq, Nat.reduceEqDiff, Nat.reduceLT, Nat.reduceLeDiff, Nat.reduceAdd, Nat.reduceMul, Nat.reduceSub, reduceCtorEq, Int.reduceToNat]) ?_
      repeat' first | ((first | refine Br.dec ?_ ?_ | refine Br.eqi ?_ ?_) <;> intro h <;> try (exfalso; omega)) | (simp (disch := first | omega | (simp only [vlen]; first | done | omega)) only [↓vAq, vBq, ↓reduceIte, Nat.reduceBEq, Nat.reduceEqDiff, Nat.reduceLT, Nat.reduceLeDiff, Nat.reduceAdd, Nat.reduceMul, Nat.reduceSub, reduceCtorEq, Int.reduceToNat]) | (refine Br.mk ?_ ?_ <;> intro h) | (refine BrN.mk (fun h => ?_) ?_) | (refine AltVC.mk ?_ ?_)
      · exact fin_mk (by rw [gcode, if_neg (by omega), if_pos (by assumption)])
      · have h4 : (g.rules.any fun r => decide (4 < r.right.length)) = false := by assumption
        refine CallVC.eq (gWithin_spec _ _ _) ?_
        repeat' first | ((first | refine Br.dec ?_ ?_ | refine Br.eqi ?_ ?_) <;> intro h <;> try (exfalso; omega)) | (simp (disch := first | omega | (simp only [vlen]; first | done | omega)) only [↓vAq, vBq, ↓reduceIte, Nat.reduceBEq, Nat.reduceEqDiff, Nat.reduceLT, Nat.reduceLeDiff, Nat.reduceAdd, Nat.reduceMul, Nat.reduceSub, reduceCtorEq, Int.reduceToNat]) | (refine Br.mk ?_ ?_ <;> intro h) | (refine BrN.mk (fun h => ?_) ?_) | (refine AltVC.mk ?_ ?_)
        · refine LoopVC.mk (X := Nat) (fun i => [(38, iv .i64 i)]) (fun i => [(0, ⟨4, [[iv .i64 g.k, iv .i64 g.n, iv .i64 g.start, .sl 2 (tbl rulD g.rules)]], true, false, .fix⟩)]) (fun i => g.rules.length - i) (fun i => i ≤ g.rules.length ∧ ∀ j, j < i → badRule g (g.rules.getD j default) = false) 0 ⟨by omega, by omega⟩ ?_ ?_
          · (simp (disch := first | omega | (simp only [vlen]; first | done | omega)) only [Fits_u, Fits_m, Fits_nil, List.length_append, ↓vAq, vBq, ↓reduceIte, Nat.reduceBEq, Nat.reduceEqDiff, Nat.reduceLT, Nat.reduceLeDiff, Nat.reduceAdd, Nat.reduceMul, Nat.reduceSub, reduceCtorEq, Int.reduceToNat] <;> (repeat' first | rfl | apply And.intro))
          · rintro i ⟨hi, hb⟩
            repeat' first | ((first | refine Br.dec ?_ ?_ | refine Br.eqi ?_ ?_) <;> intro h <;> try (exfalso; omega)) | (simp (disch := first | omega | (simp only [vlen]; first | done | omega)) only [↓vAq, vBq, ↓reduceIte, Nat.reduceBEq, Nat.reduceEqDiff, Nat.reduceLT, Nat.reduceLeDiff, Nat.reduceAdd, Nat.reduceMul, Nat.reduceSub, reduceCtorEq, Int.reduceToNat]) | (refine Br.mk ?_ ?_ <;> intro h) | (refine BrN.mk (fun h => ?_) ?_) | (refine AltVC.mk ?_ ?_)
            · have hm : g.rules.getD i default ∈ g.rules := getD_mem' (by omega)
              refine CallVC.eq (gWithin_spec _ _ _) ?_
              repeat' first | ((first | refine Br.dec ?_ ?_ | refine Br.eqi ?_ ?_) <;> intro h <;> try (exfalso; omega)) | (simp (disch := first | omega | (simp only [vlen]; first | done | omega)) only [↓vAq, vBq, ↓reduceIte, Nat.reduceBEq, Nat.reduceEqDiff, Nat.reduceLT, Nat.reduceLeDiff, Nat.reduceAdd, Nat.reduceMul, Nat.reduceSub, reduceCtorEq, Int.reduceToNat]) | (refine Br.mk ?_ ?_ <;> intro h) | (refine BrN.mk (fun h => ?_) ?_) | (refine AltVC.mk ?_ ?_)
              · refine CallVC.eq (isSigns_spec g (by omega) (by omega) _ (hq _ hm)) ?_
                repeat' first | ((first | refine Br.dec ?_ ?_ | refine Br.eqi ?_ ?_) <;> intro h <;> try (exfalso; omega)) | (simp (disch := first | omega | (simp only [vlen]; first | done | omega)) only [↓vAq, vBq, ↓reduceIte, Nat.reduceBEq, Nat.reduceEqDiff, Nat.reduceLT, Nat.reduceLeDiff, Nat.reduceAdd, Nat.reduceMul, Nat.reduceSub, reduceCtorEq, Int.reduceToNat]) | (refine Br.mk ?_ ?_ <;> intro h) | (refine BrN.mk (fun h => ?_) ?_) | (refine AltVC.mk ?_ ?_)
                · have e : isSigns g (g.rules.getD i default).right = true := by assumption
                  refine loopK.mk (i + 1) (by simp (disch := first | omega | (simp only [vlen]; first | done | omega)) only [↓vAq, vBq, ↓reduceIte, Nat.reduceBEq, Nat.reduceEqDiff, Nat.reduceLT, Nat.reduceLeDiff, Nat.reduceAdd, Nat.reduceMul, Nat.reduceSub, reduceCtorEq, Int.reduceToNat]) ⟨by omega, fun j hj => ?_⟩ (by omega) ?_
                  · by_cases e2 : j = i
                    · subst e2; rw [badRule, e, decide_eq_true (by omega)]; rfl
                    · exact hb j (by omega)
                  · (simp (disch := first | omega | (simp only [vlen]; first | done | omega)) only [Fits_u, Fits_m, Fits_nil, List.length_append, ↓vAq, vBq, ↓reduceIte, Nat.reduceBEq, Nat.reduceEqDiff, Nat.reduceLT, Nat.reduceLeDiff, Nat.reduceAdd, Nat.reduceMul, Nat.reduceSub, reduceCtorEq, Int.reduceToNat] <;> (repeat' first | rfl | apply And.intro))
                · have e : isSigns g (g.rules.getD i default).right = false := by assumption
                  exact fin_mk (by rw [gcode_b, if_neg (by omega), if_neg (by rw [h4]; simp), if_neg (by omega), if_pos (any_hit (i := i) (by omega) (by rw [badRule, e]; simp))])
              · exact fin_mk (by rw [gcode_b, if_neg (by omega), if_neg (by rw [h4]; simp), if_neg (by omega), if_pos (any_hit (i := i) (by omega) (by rw [badRule, decide_eq_false (by omega)]; rfl))])
            · exact fin_mk (by rw [gcode_b, if_neg (by omega), if_neg (by rw [h4]; simp), if_neg (by omega), if_neg (by rw [any_none (i := i) (by omega) hb]; simp)])
        · exact fin_mk (by rw [gcode, if_neg (by omega), if_neg (by rw [h4]; simp), if_pos (by omega)])
    · exact fin_mk (by rw [r1 (by omega)])
  · exact fin_mk (by rw [r1 (by omega)])
theorem all_hit {α : Type} [Inhabited α] {p : α → Bool} {l : List α} {i : Nat} (hi : i < l.length) (h : p (l.getD i default) = false) : l.all p = false :=
  List.all_eq_false.2 ⟨_, getD_mem' hi, by rw [h]; simp⟩
theorem all_none {α : Type} [Inhabited α] {p : α → Bool} {l : List α} {i : Nat} (hi : l.length ≤ i) (hn : ∀ j, j < i → p (l.getD j default) = true) : l.all p = true := by
  rw [List.all_eq_true]
  intro x hx
  obtain ⟨j, hj, e⟩ := mem_getD hx
  rw [← e, hn j (by omega)]
theorem succ_all {p : Nat → Prop} {i : Nat} (h : ∀ j, j < i → p j) (hi : p i) : ∀ j, j < i + 1 → p j := fun j hj => by
  by_cases e : j = i
  · rw [e]; exact hi
  · exact h j (by omega)
set_option maxRecDepth 10000 in
set_option maxHeartbeats 4000000 in
theorem signs_spec (g : Grammar) (hk : 0 ≤ g.k ∧ g.k ≤ 1000) (hn : 0 ≤ g.n ∧ g.n ≤ 1000) (l : List Int) (hl : l.length ≤ 9223372036854775807) : Dm.Spec Try.prog 25 [.ag (graD g), .sl 1 (i64s l)] (· = .v (.bool (isSigns g l))) := by
  refine spec_of_vc mixed Try.func25 c25 (by rw [show Try.f25.ntmps = _ from Try.ntmps25]; simp) ?_
  unfold m25 r25
  repeat' first | ((first | refine Br.dec ?_ ?_ | refine Br.eqi ?_ ?_) <;> intro h <;> try (exfalso; omega)) | (simp (disch := first | omega | (simp only [vlen]; first | done | omega)) only [↓vAq, vBq, ↓reduceIte, Nat.reduceBEq, Nat.reduceEqDiff, Nat.reduceLT, Nat.reduceLeDiff, Nat.reduceAdd, Nat.reduceMul, Nat.reduceSub, reduceCtorEq, Int.reduceToNat]) | (refine Br.mk ?_ ?_ <;> intro h) | (refine BrN.mk (fun h => ?_) ?_) | (refine AltVC.mk ?_ ?_)
  refine LoopVC.mk (X := Nat) (fun i => [(9, iv .i64 i)]) (fun _ => [(0, ⟨4, [[iv .i64 g.k, iv .i64 g.n, iv .i64 g.start, .sl 2 (tbl rulD g.rules)]], true, false, .fix⟩)]) (fun i => l.length - i) (fun i => i ≤ l.length ∧ ∀ j, j < i → isSign g (l.getD j 0) = true) 0 ⟨by omega, by omega⟩ ?_ ?_
  · (simp (disch := first | omega | (simp only [vlen]; first | done | omega)) only [Fits_u, Fits_m, Fits_nil, List.length_append, ↓vAq, vBq, ↓reduceIte, Nat.reduceBEq, Nat.reduceEqDiff, Nat.reduceLT, Nat.reduceLeDiff, Nat.reduceAdd, Nat.reduceMul, Nat.reduceSub, reduceCtorEq, Int.reduceToNat] <;> (repeat' first | rfl | apply And.intro))
  · rintro i ⟨hi, hb⟩
    repeat' first | ((first | refine Br.dec ?_ ?_ | refine Br.eqi ?_ ?_) <;> intro h <;> try (exfalso; omega)) | (simp (disch := first | omega | (simp only [vlen]; first | done | omega)) only [↓vAq, vBq, ↓reduceIte, Nat.reduceBEq, Nat.reduceEqDiff, Nat.reduceLT, Nat.reduceLeDiff, Nat.reduceAdd, Nat.reduceMul, Nat.reduceSub, reduceCtorEq, Int.reduceToNat]) | (refine Br.mk ?_ ?_ <;> intro h) | (refine BrN.mk (fun h => ?_) ?_) | (refine AltVC.mk ?_ ?_)
    · exact fin_mk (vbEq (all_hit (p := isSign g) (l := l) (i := i) (by omega) (decide_eq_false (by show ¬ (0 ≤ l.getD i 0 ∧ l.getD i 0 < g.k + g.n); omega))).symm)
    · exact fin_mk (vbEq (all_hit (p := isSign g) (l := l) (i := i) (by omega) (decide_eq_false (by show ¬ (0 ≤ l.getD i 0 ∧ l.getD i 0 < g.k + g.n); omega))).symm)
    · refine loopK.mk (i + 1) (by simp (disch := first | omega | (simp only [vlen]; first | done | omega)) only [↓vAq, vBq, ↓reduceIte, Nat.reduceBEq, Nat.reduceEqDiff, Nat.reduceLT, Nat.reduceLeDiff, Nat.reduceAdd, Nat.reduceMul, Nat.reduceSub, reduceCtorEq, Int.reduceToNat]) ⟨by omega, succ_all hb (decide_eq_true (by omega))⟩ (by omega) (by (simp (disch := first | omega | (simp only [vlen]; first | done | omega)) only [Fits_u, Fits_m, Fits_nil, List.length_append, ↓vAq, vBq, ↓reduceIte, Nat.reduceBEq, Nat.reduceEqDiff, Nat.reduceLT, Nat.reduceLeDiff, Nat.reduceAdd, Nat.reduceMul, Nat.reduceSub, reduceCtorEq, Int.reduceToNat] <;> (repeat' first | rfl | apply And.intro)))
    · exact fin_mk (vbEq (all_none (i := i) (by omega) hb).symm)
set_option maxRecDepth 10000 in
set_option maxHeartbeats 4000000 in
theorem refGCheck_spec (g : Grammar) (hg : g.ok) : Dm.Spec Try.prog 13 [.ag (graD g)] (· = iv .i64 (gcode g)) := by
  refine spec_of_vc mixed Try.func13 c13 (by rw [show Try.f13.ntmps = _ from Try.ntmps13]; simp) ?_
  unfold m13 r13
  have hr : g.rules.length ≤ 9223372036854775807 := maxLen_le hg.2.2.2.1
  have hk : -9223372036854775808 ≤ g.k ∧ g.k ≤ 9223372036854775807 := hg.1
  have hn : -9223372036854775808 ≤ g.n ∧ g.n ≤ 9223372036854775807 := hg.2.1
  have hq : ∀ r, r ∈ g.rules → r.right.length ≤ 9223372036854775807 := fun r h => maxLen_le (hg.2.2.2.2 r h).2.1
  have r1 : ¬ (1 ≤ g.k ∧ g.k ≤ 3) ∨ ¬ (1 ≤ g.n ∧ g.n ≤ 5) ∨ 10 < g.rules.length → gcode g = 1 := fun h => by rw [gcode, if_pos h]
  repeat' first | ((first | refine Br.dec ?_ ?_ | refine Br.eqi ?_ ?_) <;> intro h <;> try (exfalso; omega)) | (simp (disch := first | omega | (simp only [vlen]; first | done | omega)) only [↓vAq, vBq, ↓reduceIte, Nat.reduceBEq, Nat.reduceEqDiff, Nat.reduceLT, Nat.reduceLeDiff, Nat.reduceAdd, Nat.reduceMul, Nat.reduceSub, reduceCtorEq, Int.reduceToNat]) | (refine Br.mk ?_ ?_ <;> intro h) | (refine BrN.mk (fun h => ?_) ?_) | (refine AltVC.mk ?_ ?_)
  all_goals first | exact fin_mk (by rw [r1 (by omega)]) | skip
  refine LoopVC.mk (X := Nat) (fun i => [(34, iv .i64 i)]) (fun _ => [(0, ⟨4, [[iv .i64 g.k, iv .i64 g.n, iv .i64 g.start, .sl 2 (tbl rulD g.rules)]], true, false, .fix⟩)]) (fun i => g.rules.length - i) (fun i => i ≤ g.rules.length ∧ ∀ j, j < i → decide (4 < (g.rules.getD j default).right.length) = false) 0 ⟨by omega, by omega⟩ ?_ ?_
  · (simp (disch := first | omega | (simp only [vlen]; first | done | omega)) only [Fits_u, Fits_m, Fits_nil, List.length_append, ↓vAq, vBq, ↓reduceIte, Nat.reduceBEq, Nat.reduceEqDiff, Nat.reduceLT, Nat.reduceLeDiff, Nat.reduceAdd, Nat.reduceMul, Nat.reduceSub, reduceCtorEq, Int.reduceToNat] <;> (repeat' first | rfl | apply And.intro))
  · rintro i ⟨hi, hb⟩
    repeat' first | ((first | refine Br.dec ?_ ?_ | refine Br.eqi ?_ ?_) <;> intro h <;> try (exfalso; omega)) | (simp (disch := first | omega | (simp only [vlen]; first | done | omega)) only [↓vAq, vBq, ↓reduceIte, Nat.reduceBEq, Nat.reduceEqDiff, Nat.reduceLT, Nat.reduceLeDiff, Nat.reduceAdd, Nat.reduceMul, Nat.reduceSub, reduceCtorEq, Int.reduceToNat]) | (refine Br.mk ?_ ?_ <;> intro h) | (refine BrN.mk (fun h => ?_) ?_) | (refine AltVC.mk ?_ ?_)
    · exact fin_mk (by rw [gcode, if_neg (by omega), if_pos (any_hit (p := fun r : Rule => decide (4 < r.right.length)) (l := g.rules) (i := i) (by omega) (decide_eq_true (by omega)))])
    · refine loopK.mk (i + 1) (by simp (disch := first | omega | (simp only [vlen]; first | done | omega)) only [↓vAq, vBq, ↓reduceIte, Nat.reduceBEq, Nat.reduceEqDiff, Nat.reduceLT, Nat.reduceLeDiff, Nat.reduceAdd, Nat.reduceMul, Nat.reduceSub, reduceCtorEq, Int.reduceToNat]) ⟨by omega, succ_all hb (decide_eq_false (by omega))⟩ (by omega) (by (simp (disch := first | omega | (simp only [vlen]; first | done | omega)) only [Fits_u, Fits_m, Fits_nil, List.length_append, ↓vAq, vBq, ↓reduceIte, Nat.reduceBEq, Nat.reduceEqDiff, Nat.reduceLT, Nat.reduceLeDiff, Nat.reduceAdd, Nat.reduceMul, Nat.reduceSub, reduceCtorEq, Int.reduceToNat] <;> (repeat' first | rfl | apply And.intro)))
    · exact fin_mk (by rw [gcode, if_neg (by omega), if_neg (by rw [any_none (i := i) (by omega) hb]; simp), if_pos (by omega)])
    · exact fin_mk (by rw [gcode, if_neg (by omega), if_neg (by rw [any_none (i := i) (by omega) hb]; simp), if_pos (by omega)])
    · have h4 := any_none (p := fun r : Rule => decide (4 < r.right.length)) (i := i) (l := g.rules) (by omega) hb
      refine LoopVC.mk (X := Nat) (fun i => [(56, iv .i64 i)]) (fun _ => [(0, ⟨4, [[iv .i64 g.k, iv .i64 g.n, iv .i64 g.start, .sl 2 (tbl rulD g.rules)]], true, false, .fix⟩)]) (fun i => g.rules.length - i) (fun i => i ≤ g.rules.length ∧ ∀ j, j < i → badRule g (g.rules.getD j default) = false) 0 ⟨by omega, by omega⟩ ?_ ?_
      · (simp (disch := first | omega | (simp only [vlen]; first | done | omega)) only [Fits_u, Fits_m, Fits_nil, List.length_append, ↓vAq, vBq, ↓reduceIte, Nat.reduceBEq, Nat.reduceEqDiff, Nat.reduceLT, Nat.reduceLeDiff, Nat.reduceAdd, Nat.reduceMul, Nat.reduceSub, reduceCtorEq, Int.reduceToNat] <;> (repeat' first | rfl | apply And.intro))
      · rintro k ⟨hk1, hb1⟩
        repeat' first | ((first | refine Br.dec ?_ ?_ | refine Br.eqi ?_ ?_) <;> intro h <;> try (exfalso; omega)) | (simp (disch := first | omega | (simp only [vlen]; first | done | omega)) only [↓vAq, vBq, ↓reduceIte, Nat.reduceBEq, Nat.reduceEqDiff, Nat.reduceLT, Nat.reduceLeDiff, Nat.reduceAdd, Nat.reduceMul, Nat.reduceSub, reduceCtorEq, Int.reduceToNat]) | (refine Br.mk ?_ ?_ <;> intro h) | (refine BrN.mk (fun h => ?_) ?_) | (refine AltVC.mk ?_ ?_)
        · exact fin_mk (by rw [gcode_b, if_neg (by omega), if_neg (by rw [h4]; simp), if_neg (by omega), if_pos (any_hit (i := k) (by omega) (by rw [badRule, decide_eq_false (by omega)]; rfl))])
        · exact fin_mk (by rw [gcode_b, if_neg (by omega), if_neg (by rw [h4]; simp), if_neg (by omega), if_pos (any_hit (i := k) (by omega) (by rw [badRule, decide_eq_false (by omega)]; rfl))])
        · have hm : g.rules.getD k default ∈ g.rules := getD_mem' (by omega)
          refine CallVC.eq (signs_spec g (by omega) (by omega) _ (hq _ hm)) ?_
          repeat' first | ((first | refine Br.dec ?_ ?_ | refine Br.eqi ?_ ?_) <;> intro h <;> try (exfalso; omega)) | (simp (disch := first | omega | (simp only [vlen]; first | done | omega)) only [↓vAq, vBq, ↓reduceIte, Nat.reduceBEq, Nat.reduceEqDiff, Nat.reduceLT, Nat.reduceLeDiff, Nat.reduceAdd, Nat.reduceMul, Nat.reduceSub, reduceCtorEq, Int.reduceToNat]) | (refine Br.mk ?_ ?_ <;> intro h) | (refine BrN.mk (fun h => ?_) ?_) | (refine AltVC.mk ?_ ?_)
          · have e : isSigns g (g.rules.getD k default).right = true := by assumption
            refine loopK.mk (k + 1) (by simp (disch := first | omega | (simp only [vlen]; first | done | omega)) only [↓vAq, vBq, ↓reduceIte, Nat.reduceBEq, Nat.reduceEqDiff, Nat.reduceLT, Nat.reduceLeDiff, Nat.reduceAdd, Nat.reduceMul, Nat.reduceSub, reduceCtorEq, Int.reduceToNat]) ⟨by omega, succ_all hb1 (by rw [badRule, e, decide_eq_true (by omega)]; rfl)⟩ (by omega) (by (simp (disch := first | omega | (simp only [vlen]; first | done | omega)) only [Fits_u, Fits_m, Fits_nil, List.length_append, ↓vAq, vBq, ↓reduceIte, Nat.reduceBEq, Nat.reduceEqDiff, Nat.reduceLT, Nat.reduceLeDiff, Nat.reduceAdd, Nat.reduceMul, Nat.reduceSub, reduceCtorEq, Int.reduceToNat] <;> (repeat' first | rfl | apply And.intro)))
          · have e : isSigns g (g.rules.getD k default).right = false := by assumption
            exact fin_mk (by rw [gcode_b, if_neg (by omega), if_neg (by rw [h4]; simp), if_neg (by omega), if_pos (any_hit (i := k) (by omega) (by rw [badRule, e]; simp))])
        · exact fin_mk (by rw [gcode_b, if_neg (by omega), if_neg (by rw [h4]; simp), if_neg (by omega), if_neg (by rw [any_none (i := k) (by omega) hb1]; simp)])
end Go.Proofs.Ytplkkacfjepgpaa

namespace Go.Proofs.Ytplkkacfjepgpaa
open Go.Dm
set_option linter.unusedSimpArgs false
set_option linter.unnecessarySimpa false
set_option linter.unusedVariables false
theorem and_one (n : Nat) : n &&& 1 = n % 2 := by
  have := Nat.and_two_pow_sub_one_eq_mod n 1
  simpa using this
theorem bit_eq {S n : Nat} : decide ((((S >>> n) &&& 1 : Nat) : Int) = 1) = S.testBit n := by
  rw [and_one, Nat.testBit_eq_decide_div_mod_eq, Nat.shiftRight_eq_div_pow]
  exact dec_iff (by omega)
def setOf (f : Nat → Bool) : Nat → Nat
  | 0 => 0
  | n + 1 => setOf f n ||| if f n = true then 2 ^ n else 0
theorem setOf_lt {f : Nat → Bool} : ∀ {n : Nat}, setOf f n < 2 ^ n
  | 0 => by simp [setOf]
  | n + 1 => by
    have := @setOf_lt f n
    have h2 : 2 ^ n < 2 ^ (n + 1) := Nat.pow_lt_pow_right (by omega) (by omega)
    rw [setOf]
    split
    · exact Nat.or_lt_two_pow (by omega) h2
    · rw [Nat.or_zero]; omega
theorem setOf_bit {f : Nat → Bool} {i : Nat} : ∀ {n : Nat}, (setOf f n).testBit i = (decide (i < n) && f i)
  | 0 => by simp [setOf]
  | n + 1 => by
    rw [setOf, Nat.testBit_or, setOf_bit]
    by_cases e : i = n
    · subst e
      by_cases h : f i = true
      · rw [if_pos h, Nat.testBit_two_pow_self, h]; simp
      · rw [if_neg h, Nat.zero_testBit]; simp at h; simp [h]
    · have h1 : decide (i < n + 1) = decide (i < n) := dec_iff (by omega)
      rw [h1]
      split
      · rw [Nat.testBit_two_pow_of_ne (by omega), Bool.or_false]
      · rw [Nat.zero_testBit, Bool.or_false]
theorem setOf_add {f : Nat → Bool} {n : Nat} (h : f n = true) : setOf f (n + 1) = setOf f n + 2 ^ n := by
  rw [setOf, if_pos h]
  have := Nat.two_pow_add_eq_or_of_lt (@setOf_lt f n) 1
  rw [Nat.mul_one] at this
  rw [Nat.add_comm, this, Nat.or_comm]
theorem setOf_skip {f : Nat → Bool} {n : Nat} (h : ¬ f n = true) : setOf f (n + 1) = setOf f n := by
  rw [setOf, if_neg h, Nat.or_zero]
theorem set_ext {S : Nat} {f : Nat → Bool} {n : Nat} (hS : S < 2 ^ n) (h : ∀ i, i < n → S.testBit i = f i) : S = setOf f n := by
  apply Nat.eq_of_testBit_eq
  intro i
  rw [setOf_bit]
  by_cases e : i < n
  · rw [h i e, decide_eq_true e, Bool.true_and]
  · rw [decide_eq_false e, Bool.false_and]
    exact Nat.testBit_lt_two_pow (Nat.lt_of_lt_of_le hS (Nat.pow_le_pow_right (by omega) (by omega)))
theorem or_two_lt {S l n : Nat} (hS : S < 2 ^ n) (hl : l < n) : S ||| 2 ^ l < 2 ^ n := Nat.or_lt_two_pow hS (Nat.pow_lt_pow_right (by omega) hl)
theorem le_or {S T : Nat} : S ≤ S ||| T := Nat.left_le_or
theorem or_bit {S l x : Nat} : (S ||| 2 ^ l).testBit x = (S.testBit x || decide (x = l)) := by
  rw [Nat.testBit_or]
  by_cases e : x = l
  · subst e; rw [Nat.testBit_two_pow_self]; simp
  · rw [Nat.testBit_two_pow_of_ne (by omega)]; simp [e]
theorem shrN {S n : Nat} (hn : n ≤ 32) : ((S : Nat) : Int).fdiv (2 ^ (min n IntKind.u32.bits)) = ((S >>> n : Nat) : Int) := by
  have e : min n IntKind.u32.bits = n := Nat.min_eq_left (by show n ≤ 32; omega)
  rw [e, Int.fdiv_eq_ediv_of_nonneg _ (Int.le_of_lt (Int.pow_pos (by omega))), Nat.shiftRight_eq_div_pow, Int.natCast_ediv]
  congr 1
theorem andN {S T : Nat} (hS : (S : Int) ≤ 4294967295) (hT : (T : Int) ≤ 4294967295) : IntKind.u32.wrap ((BitVec.ofInt IntKind.u32.bits (S : Int) &&& BitVec.ofInt IntKind.u32.bits (T : Int)).toNat : Int) = ((S &&& T : Nat) : Int) := by
  rw [and32 (by omega) (by omega), Int.toNat_natCast, Int.toNat_natCast]
theorem orN {S T : Nat} (hS : (S : Int) ≤ 4294967295) (hT : (T : Int) ≤ 4294967295) : IntKind.u32.wrap ((BitVec.ofInt IntKind.u32.bits (S : Int) ||| BitVec.ofInt IntKind.u32.bits (T : Int)).toNat : Int) = ((S ||| T : Nat) : Int) := by
  rw [or32 (by omega) (by omega), Int.toNat_natCast, Int.toNat_natCast]
theorem shlN {n : Nat} (hn : n ≤ 31) : IntKind.u32.wrap (1 * 2 ^ (min n IntKind.u32.bits)) = ((2 ^ n : Nat) : Int) := by
  have := shl32_1 (n := n) (by omega)
  rwa [Int.toNat_natCast] at this
theorem shr_le {S n : Nat} : S >>> n ≤ S := by rw [Nat.shiftRight_eq_div_pow]; exact Nat.div_le_self _ _
theorem pow_le31 {n : Nat} (hn : n ≤ 31) : ((2 ^ n : Nat) : Int) ≤ 2147483648 := by
  have h : 2 ^ n ≤ 2 ^ 31 := Nat.pow_le_pow_right (by omega) hn
  omega
set_option maxRecDepth 10000 in
set_option maxHeartbeats 4000000 in
theorem has_spec (S n : Nat) (hS : (S : Int) ≤ 4294967295) (hn : n ≤ 31) : Dm.Spec Try.prog 29 [iv .u32 S, iv .i64 n] (· = .v (.bool (S.testBit n))) := by
  refine spec_of_vc mixed Try.func29 c29 (by rw [show Try.f29.ntmps = _ from Try.ntmps29]; simp) ?_
  unfold m29 r29
  repeat' first | ((first | refine Br.dec ?_ ?_ | refine Br.eqi ?_ ?_) <;> intro h <;> try (exfalso; omega)) | (simp (disch := first | omega | (simp only [vlen]; first | done | omega)) only [↓vAq, vBq, ↓reduceIte, Nat.reduceBEq, Nat.reduceEqDiff, Nat.reduceLT, Nat.reduceLeDiff, Nat.reduceAdd, Nat.reduceMul, Nat.reduceSub, reduceCtorEq, Int.reduceToNat]) | (refine Br.mk ?_ ?_ <;> intro h) | (refine BrN.mk (fun h => ?_) ?_) | (refine AltVC.mk ?_ ?_)
  refine fin_mk (vbEq ?_)
  have := @shr_le S n
  rw [shrN (by omega), show (1 : Int) = ((1 : Nat) : Int) from rfl, andN (by omega) (by omega), ← bit_eq]
  rfl
theorem bit_and {S n : Nat} : decide (((S &&& 2 ^ n : Nat) : Int) = 0) = !S.testBit n := by
  have h : S &&& 2 ^ n = if S.testBit n then 2 ^ n else 0 := by
    apply Nat.eq_of_testBit_eq
    intro i
    rw [Nat.testBit_and]
    by_cases e : i = n
    · subst e; rw [Nat.testBit_two_pow_self]; cases h : S.testBit i <;> simp
    · rw [Nat.testBit_two_pow_of_ne (by omega)]; cases h : S.testBit n <;> simp [Nat.testBit_two_pow_of_ne (Ne.symm e)]
  have hp : 0 < 2 ^ n := Nat.pow_pos (by omega)
  rw [h]
  cases S.testBit n
  · simp
  · simp only [if_true]; rw [decide_eq_false (by omega)]; rfl
set_option maxRecDepth 10000 in
set_option maxHeartbeats 4000000 in
theorem bit_spec (S : Nat) (i : Int) (hS : (S : Int) ≤ 4294967295) (hi : ok64 i) : Dm.Spec Try.prog 34 [iv .u32 S, iv .i64 i] (· = .v (.bool (decide (0 ≤ i ∧ i < 32) && S.testBit i.toNat))) := by
  refine spec_of_vc mixed Try.func34 c34 (by rw [show Try.f34.ntmps = _ from Try.ntmps34]; simp) ?_
  unfold m34 r34
  repeat' first | ((first | refine Br.dec ?_ ?_ | refine Br.eqi ?_ ?_) <;> intro h <;> try (exfalso; omega)) | (simp (disch := first | omega | (simp only [vlen]; first | done | omega)) only [↓vAq, vBq, ↓reduceIte, Nat.reduceBEq, Nat.reduceEqDiff, Nat.reduceLT, Nat.reduceLeDiff, Nat.reduceAdd, Nat.reduceMul, Nat.reduceSub, reduceCtorEq, Int.reduceToNat]) | (refine Br.mk ?_ ?_ <;> intro h) | (refine BrN.mk (fun h => ?_) ?_) | (refine AltVC.mk ?_ ?_)
  · refine fin_mk (vbEq ?_)
    obtain ⟨n, rfl⟩ : ∃ n : Nat, i = n := ⟨i.toNat, by omega⟩
    have hp := @pow_le31 n (by omega)
    rw [Int.toNat_natCast, shlN (by omega), andN hS (by omega), decide_eq_true (by omega), Bool.true_and]
    have := @bit_and S n
    rw [show ((((S &&& 2 ^ n : Nat) : Int)) != 0) = !decide (((S &&& 2 ^ n : Nat) : Int) = 0) from rfl, this, Bool.not_not]
  · exact fin_mk (vbEq (by rw [decide_eq_false (by omega)]; rfl))
  · exact fin_mk (vbEq (by rw [decide_eq_false (by omega)]; rfl))
end Go.Proofs.Ytplkkacfjepgpaa

namespace Go.Proofs.Ytplkkacfjepgpaa
open Go.Dm
set_option linter.unusedSimpArgs false
set_option linter.unnecessarySimpa false
set_option linter.unusedVariables false
theorem chain_stable {n : Nat} (S : Nat → Nat → Bool) (F : (Nat → Bool) → Nat → Bool) (hF : ∀ a b : Nat → Bool, (∀ x, x < n → a x = b x) → ∀ x, x < n → F a x = F b x)
    (hS : ∀ k x, S (k + 1) x = F (S k) x) (hm : ∀ k x, S k x = true → S (k + 1) x = true) : ∀ x, x < n → ∀ k, n ≤ k → S k x = S n x := by
  have still : ∀ k, (∀ x, x < n → S k x = S (k + 1) x) → ∀ j, k ≤ j → ∀ x, x < n → S j x = S k x := by
    intro k hk j hj
    induction j with
    | zero => intro x _; rw [show k = 0 by omega]
    | succ j ih =>
      by_cases e : k = j + 1
      · intro x _; rw [e]
      · intro x hx
        rw [hS, hF _ (S k) (ih (by omega)) x hx, ← hS, hk x hx]
  have cnt : ∀ k, (∃ j, j ≤ k ∧ ∀ x, x < n → S j x = S (j + 1) x) ∨ k < ((List.range n).filter (S (k + 1))).length := by
    intro k
    have step : ∀ k, (¬ ∀ x, x < n → S k x = S (k + 1) x) → ((List.range n).filter (S k)).length < ((List.range n).filter (S (k + 1))).length := by
      intro k hk
      simp only [Classical.not_forall, Classical.not_imp] at hk
      obtain ⟨x, hx, hne⟩ := hk
      rw [← List.countP_eq_length_filter, ← List.countP_eq_length_filter]
      have h1 : S k x = false := by
        cases h : S k x
        · rfl
        · exact absurd (by rw [h, hm k x h]) hne
      have h2 : S (k + 1) x = true := by
        cases h : S (k + 1) x
        · exact absurd (by rw [h1, h]) hne
        · rfl
      have aux : ∀ l : List Nat, l.countP (S k) ≤ l.countP (S (k + 1)) := fun l => List.countP_mono_left fun y _ h => hm k y h
      obtain ⟨l1, l2, e⟩ := List.append_of_mem (List.mem_range.2 hx)
      rw [e, List.countP_append, List.countP_append, List.countP_cons, List.countP_cons, h1, h2]
      have := aux l1
      have := aux l2
      simp
      omega
    induction k with
    | zero =>
      by_cases h : ∀ x, x < n → S 0 x = S 1 x
      · exact .inl ⟨0, by omega, h⟩
      · exact .inr (Nat.lt_of_le_of_lt (Nat.zero_le _) (step 0 h))
    | succ k ih =>
      rcases ih with ⟨j, hj, h⟩ | h
      · exact .inl ⟨j, by omega, h⟩
      · by_cases h2 : ∀ x, x < n → S (k + 1) x = S (k + 2) x
        · exact .inl ⟨k + 1, by omega, h2⟩
        · exact .inr (Nat.lt_of_le_of_lt h (step (k + 1) h2))
  intro x hx k hk
  rcases cnt n with ⟨j, hj, h⟩ | h
  · rw [still j h k (by omega) x hx, still j h n hj x hx]
  · have := List.length_filter_le (S (n + 1)) (List.range n)
    rw [List.length_range] at this
    omega
def mkS (g : Grammar) (void : Bool) : Nat → Int → Bool
  | 0, x => decide (x < g.k) && !void
  | d + 1, x => if x < g.k then !void else g.rules.any fun r => decide (r.left = x - g.k) && r.right.all fun y => mkS g void d y
theorem mkS_sym {g : Grammar} {void : Bool} {d : Nat} {x : Int} (h : x < g.k) : mkS g void d x = !void := by
  cases d
  · rw [mkS, decide_eq_true h, Bool.true_and]
  · rw [mkS, if_pos h]
theorem mkS_mono {g : Grammar} {void : Bool} : ∀ {d : Nat} {x : Int}, mkS g void d x = true → mkS g void (d + 1) x = true
  | 0, x, h => by
    rw [mkS, Bool.and_eq_true, decide_eq_true_eq] at h
    rw [mkS_sym h.1]; exact h.2
  | d + 1, x, h => by
    rw [mkS] at h ⊢
    split
    · next hx => rw [if_pos hx] at h; exact h
    · next hx =>
      rw [if_neg hx] at h
      simp only [List.any_eq_true, Bool.and_eq_true, List.all_eq_true] at h ⊢
      obtain ⟨r, hr, h1, h2⟩ := h
      exact ⟨r, hr, h1, fun y hy => mkS_mono (h2 y hy)⟩
def mkN (g : Grammar) (void : Bool) (d i : Nat) : Bool := mkS g void d (g.k + i)
def allOf (g : Grammar) (symbols : Bool) (S : Nat → Bool) (l : List Int) : Bool := l.all fun y => if y < g.k then symbols else S (y - g.k).toNat
theorem mkN_succ {g : Grammar} {void : Bool} {d i : Nat} : mkN g void (d + 1) i = g.rules.any fun r => decide (r.left = (i : Int)) && allOf g (!void) (mkN g void d) r.right := by
  unfold mkN
  rw [mkS, if_neg (by omega)]
  congr 1
  funext r
  rw [show g.k + (i : Int) - g.k = i by omega]
  congr 1
  unfold allOf
  congr 1
  funext y
  split
  · next h => exact mkS_sym h
  · next h =>
    show _ = mkS g void d (g.k + ((y - g.k).toNat : Int))
    rw [show g.k + ((y - g.k).toNat : Int) = y by omega]
theorem mkN_zero {g : Grammar} {void : Bool} {i : Nat} : mkN g void 0 i = false := by
  unfold mkN
  rw [mkS, decide_eq_false (by omega)]; rfl
theorem mkN_mono {g : Grammar} {void : Bool} {d i : Nat} (h : mkN g void d i = true) : mkN g void (d + 1) i = true := mkS_mono h
theorem mkN_le {g : Grammar} {void : Bool} {d e i : Nat} (he : d ≤ e) (h : mkN g void d i = true) : mkN g void e i = true := by
  obtain ⟨c, rfl⟩ := Nat.exists_eq_add_of_le he
  induction c with
  | zero => exact h
  | succ c ih => exact mkN_mono (ih (by omega))
structure Valid (g : Grammar) : Prop where
  k : 1 ≤ g.k ∧ g.k ≤ 3
  n : 1 ≤ g.n ∧ g.n ≤ 5
  start : 0 ≤ g.start ∧ g.start < g.n
  len : g.rules.length ≤ 10
  left : ∀ r, r ∈ g.rules → 0 ≤ r.left ∧ r.left < g.n
  long : ∀ r, r ∈ g.rules → r.right.length ≤ 4
  right : ∀ r, r ∈ g.rules → ∀ y, y ∈ r.right → 0 ≤ y ∧ y < g.k + g.n
theorem valid_of {g : Grammar} (h : gcode g = 0) : Valid g := by
  rw [gcode_b] at h
  split at h
  · omega
  · next h1 =>
    split at h
    · omega
    · next h2 =>
      split at h
      · omega
      · next h3 =>
        split at h
        · omega
        · next h4 =>
          have hr : ∀ r, r ∈ g.rules → badRule g r = false := fun r hm => by
            cases hb : badRule g r
            · rfl
            · exact absurd (List.any_eq_true.2 ⟨r, hm, hb⟩) h4
          have hs : ∀ r, r ∈ g.rules → (0 ≤ r.left ∧ r.left < g.n) ∧ isSigns g r.right = true := fun r hm => by
            have := hr r hm
            simpa [badRule] using this
          refine ⟨by omega, by omega, by omega, by omega, fun r hm => (hs r hm).1, fun r hm => ?_, fun r hm y hy => ?_⟩
          · have : ¬ (4 < r.right.length) := fun hl => h2 (List.any_eq_true.2 ⟨r, hm, decide_eq_true hl⟩)
            omega
          · have := List.all_eq_true.1 (hs r hm).2 y hy
            exact of_decide_eq_true this
theorem allOf_congr {g : Grammar} {sy : Bool} {S T : Nat → Bool} {l : List Int} (hl : ∀ y, y ∈ l → 0 ≤ y ∧ y < g.k + g.n) (h : ∀ x, x < g.n.toNat → S x = T x) : allOf g sy S l = allOf g sy T l := by
  unfold allOf
  rw [Bool.eq_iff_iff, List.all_eq_true, List.all_eq_true]
  have hh : ∀ y, y ∈ l → (if y < g.k then sy else S (y - g.k).toNat) = (if y < g.k then sy else T (y - g.k).toNat) := fun y hy => by
    split
    · rfl
    · exact h _ (by have := hl y hy; omega)
  exact ⟨fun a y hy => by rw [← hh y hy]; exact a y hy, fun a y hy => by rw [hh y hy]; exact a y hy⟩
theorem any_congr {α : Type} {p q : α → Bool} {l : List α} (h : ∀ a, a ∈ l → p a = q a) : l.any p = l.any q := by
  rw [Bool.eq_iff_iff, List.any_eq_true, List.any_eq_true]
  exact ⟨fun ⟨a, ha, hp⟩ => ⟨a, ha, by rw [← h a ha]; exact hp⟩, fun ⟨a, ha, hp⟩ => ⟨a, ha, by rw [h a ha]; exact hp⟩⟩
theorem mkN_stable {g : Grammar} (hv : Valid g) {void : Bool} {d i : Nat} (hi : (i : Int) < g.n) (h : mkN g void d i = true) : mkN g void g.n.toNat i = true := by
  have hs := chain_stable (n := g.n.toNat) (fun d i => mkN g void d i) (fun S i => g.rules.any fun r => decide (r.left = (i : Int)) && allOf g (!void) S r.right)
    (fun a b hab x hx => any_congr fun r hr => by rw [allOf_congr (hv.right r hr) hab]) (fun k x => mkN_succ) (fun k x => mkN_mono) i (by omega)
  by_cases hd : g.n.toNat ≤ d
  · rw [← hs d hd]; exact h
  · exact mkN_le (by omega) h
def nameSet (g : Grammar) (void : Bool) : Nat := setOf (mkN g void g.n.toNat) g.n.toNat
theorem closed_all {g : Grammar} (hv : Valid g) {void : Bool} {S : Nat} (hc : ∀ r, r ∈ g.rules → allOf g (!void) S.testBit r.right = true → S.testBit r.left.toNat = true) : ∀ {d i : Nat}, mkN g void d i = true → S.testBit i = true
  | 0, i, h => by rw [mkN_zero] at h; cases h
  | d + 1, i, h => by
    rw [mkN_succ] at h
    simp only [List.any_eq_true, Bool.and_eq_true, decide_eq_true_eq] at h
    obtain ⟨r, hr, h1, h2⟩ := h
    have h3 := hc r hr (by
      unfold allOf at h2 ⊢
      rw [List.all_eq_true] at h2 ⊢
      intro y hy
      have := h2 y hy
      split
      · next hk => rw [if_pos hk] at this; exact this
      · next hk => rw [if_neg hk] at this; exact closed_all hv hc this)
    rw [h1, Int.toNat_natCast] at h3
    exact h3
theorem sound_step {g : Grammar} {void : Bool} {S : Nat} {r : Rule} (hv : Valid g) (hr : r ∈ g.rules) (hs : ∀ x, S.testBit x = true → ∃ d, mkN g void d x = true) (h : allOf g (!void) S.testBit r.right = true) : ∃ d, mkN g void d r.left.toNat = true := by
  have : ∀ l : List Int, (∀ y, y ∈ l → (if y < g.k then !void else S.testBit (y - g.k).toNat) = true) → ∃ d, allOf g (!void) (mkN g void d) l = true := by
    intro l
    induction l with
    | nil => intro _; exact ⟨0, rfl⟩
    | cons y l ih =>
      intro hl
      obtain ⟨d, hd⟩ := ih fun z hz => hl z (by simp [hz])
      have hy := hl y (by simp)
      unfold allOf at hd ⊢
      by_cases hk : y < g.k
      · rw [if_pos hk] at hy
        exact ⟨d, by rw [List.all_cons, if_pos hk, hd, hy]; rfl⟩
      · rw [if_neg hk] at hy
        obtain ⟨e, he⟩ := hs _ hy
        refine ⟨max d e, ?_⟩
        rw [List.all_cons, if_neg hk, mkN_le (Nat.le_max_right d e) he, Bool.true_and]
        rw [List.all_eq_true] at hd ⊢
        intro z hz
        have := hd z hz
        split
        · next hz2 => rw [if_pos hz2] at this; exact this
        · next hz2 => rw [if_neg hz2] at this; exact mkN_le (Nat.le_max_left d e) this
  unfold allOf at h
  rw [List.all_eq_true] at h
  obtain ⟨d, hd⟩ := this r.right h
  refine ⟨d + 1, ?_⟩
  rw [mkN_succ]
  have hl := (hv.left r hr).1
  exact List.any_eq_true.2 ⟨r, hr, by rw [hd, decide_eq_true (by omega)]; rfl⟩
set_option maxRecDepth 10000 in
set_option maxHeartbeats 4000000 in
theorem allOf1_spec (g : Grammar) (hk : 0 ≤ g.k ∧ g.k ≤ 1000) (S : Nat) (hS : (S : Int) ≤ 4294967295) (b : Bool) (y : Int) (hy : -1000 ≤ y ∧ y < g.k + 32) : Dm.Spec Try.prog 61 [iv .i64 y, .ip (graD g) 0, .ip [.v (.bool b)] 0, .ip [iv .u32 S] 0] (· = .v (.bool (!(if y < g.k then b else S.testBit (y - g.k).toNat)))) := by
  refine spec_of_vc mixed Try.func61 c61 (by rw [show Try.f61.ntmps = _ from Try.ntmps61]; simp) ?_
  unfold m61 r61
  repeat' first | ((first | refine Br.dec ?_ ?_ | refine Br.eqi ?_ ?_) <;> intro h <;> try (exfalso; omega)) | (simp (disch := first | omega | (simp only [vlen]; first | done | omega)) only [↓vAq, vBq, ↓reduceIte, Nat.reduceBEq, Nat.reduceEqDiff, Nat.reduceLT, Nat.reduceLeDiff, Nat.reduceAdd, Nat.reduceMul, Nat.reduceSub, reduceCtorEq, Int.reduceToNat]) | (refine Br.mk ?_ ?_ <;> intro h) | (refine BrN.mk (fun h => ?_) ?_) | (refine AltVC.mk ?_ ?_)
  · exact fin_mk (by rw [if_pos (by assumption)])
  · have e : y - g.k = ((y - g.k).toNat : Int) := by omega
    rw [e]
    refine CallVC.eq (has_spec S _ hS (by omega)) ?_
    repeat' first | ((first | refine Br.dec ?_ ?_ | refine Br.eqi ?_ ?_) <;> intro h <;> try (exfalso; omega)) | (simp (disch := first | omega | (simp only [vlen]; first | done | omega)) only [↓vAq, vBq, ↓reduceIte, Nat.reduceBEq, Nat.reduceEqDiff, Nat.reduceLT, Nat.reduceLeDiff, Nat.reduceAdd, Nat.reduceMul, Nat.reduceSub, reduceCtorEq, Int.reduceToNat]) | (refine Br.mk ?_ ?_ <;> intro h) | (refine BrN.mk (fun h => ?_) ?_) | (refine AltVC.mk ?_ ?_)
    exact fin_mk (by rw [if_neg (by assumption)])
set_option maxRecDepth 10000 in
set_option maxHeartbeats 4000000 in
theorem allOf_spec (g : Grammar) (hk : 0 ≤ g.k ∧ g.k ≤ 1000) (l : List Int) (hl : l.length ≤ 9223372036854775807) (S : Nat) (hS : (S : Int) ≤ 4294967295) (b : Bool) (hy : ∀ y, y ∈ l → -1000 ≤ y ∧ y < g.k + 32) : Dm.Spec Try.prog 30 [.ag (graD g), .sl 1 (i64s l), iv .u32 S, .v (.bool b)] (· = .v (.bool (allOf g b S.testBit l))) := by
  refine spec_of_vc mixed Try.func30 c30 (by rw [show Try.f30.ntmps = _ from Try.ntmps30]; simp) ?_
  unfold m30 r30
  repeat' first | ((first | refine Br.dec ?_ ?_ | refine Br.eqi ?_ ?_) <;> intro h <;> try (exfalso; omega)) | (simp (disch := first | omega | (simp only [vlen]; first | done | omega)) only [↓vAq, vBq, ↓reduceIte, Nat.reduceBEq, Nat.reduceEqDiff, Nat.reduceLT, Nat.reduceLeDiff, Nat.reduceAdd, Nat.reduceMul, Nat.reduceSub, reduceCtorEq, Int.reduceToNat]) | (refine Br.mk ?_ ?_ <;> intro h) | (refine BrN.mk (fun h => ?_) ?_) | (refine AltVC.mk ?_ ?_)
  refine CallVC.eqo (conF_int l (fun y => !(if y < g.k then b else S.testBit (y - g.k).toNat)) _ [.ip (graD g) 0, .ip [.v (.bool b)] 0, .ip [iv .u32 S] 0] hl (by simp (disch := first | omega | (simp only [vlen]; first | done | omega)) only [↓vAq, vBq, ↓reduceIte, Nat.reduceBEq, Nat.reduceEqDiff, Nat.reduceLT, Nat.reduceLeDiff, Nat.reduceAdd, Nat.reduceMul, Nat.reduceSub, reduceCtorEq, Int.reduceToNat]) fun a ha => allOf1_spec g hk S hS b a (hy a ha)) (by simp (disch := first | omega | (simp only [vlen]; first | done | omega)) only [↓vAq, vBq, ↓reduceIte, Nat.reduceBEq, Nat.reduceEqDiff, Nat.reduceLT, Nat.reduceLeDiff, Nat.reduceAdd, Nat.reduceMul, Nat.reduceSub, reduceCtorEq, Int.reduceToNat]) ?_
  repeat' first | ((first | refine Br.dec ?_ ?_ | refine Br.eqi ?_ ?_) <;> intro h <;> try (exfalso; omega)) | (simp (disch := first | omega | (simp only [vlen]; first | done | omega)) only [↓vAq, vBq, ↓reduceIte, Nat.reduceBEq, Nat.reduceEqDiff, Nat.reduceLT, Nat.reduceLeDiff, Nat.reduceAdd, Nat.reduceMul, Nat.reduceSub, reduceCtorEq, Int.reduceToNat]) | (refine Br.mk ?_ ?_ <;> intro h) | (refine BrN.mk (fun h => ?_) ?_) | (refine AltVC.mk ?_ ?_)
  exact fin_mk (vbEq all_not')
set_option maxRecDepth 10000 in
set_option maxHeartbeats 4000000 in
theorem derive_spec (g : Grammar) (hv : Valid g) (void : Bool) : Dm.Spec Try.prog 59 [.ag (graD g), .v (.bool (!void))] (· = iv .u32 (nameSet g void)) := by
  refine spec_of_vc mixed Try.func59 c59 (by rw [show Try.f59.ntmps = _ from Try.ntmps59]; simp) ?_
  unfold m59 r59
  obtain ⟨hk, hn, hst, hlen, hleft, hlong, hright⟩ := hv
  have hv : Valid g := ⟨hk, hn, hst, hlen, hleft, hlong, hright⟩
  have hp : 2 ^ g.n.toNat ≤ 32 := Nat.le_trans (Nat.pow_le_pow_right (show 0 < 2 by omega) (show g.n.toNat ≤ 5 by omega)) (by decide)
  repeat' first | ((first | refine Br.dec ?_ ?_ | refine Br.eqi ?_ ?_) <;> intro h <;> try (exfalso; omega)) | (simp (disch := first | omega | (simp only [vlen]; first | done | omega)) only [↓vAq, vBq, ↓reduceIte, Nat.reduceBEq, Nat.reduceEqDiff, Nat.reduceLT, Nat.reduceLeDiff, Nat.reduceAdd, Nat.reduceMul, Nat.reduceSub, reduceCtorEq, Int.reduceToNat]) | (refine Br.mk ?_ ?_ <;> intro h) | (refine BrN.mk (fun h => ?_) ?_) | (refine AltVC.mk ?_ ?_)
  refine LoopVC.mk (X := Nat) (fun S => [(5, iv .u32 S)]) (fun _ => [(0, ⟨4, [[iv .i64 g.k, iv .i64 g.n, iv .i64 g.start, .sl 2 (tbl rulD g.rules)]], true, false, .fix⟩)]) (fun S => 32 - S) (fun S => S < 2 ^ g.n.toNat ∧ ∀ x, S.testBit x = true → ∃ d, mkN g void d x = true) 0 ⟨Nat.pow_pos (by omega), fun x h => by simp at h⟩ ?_ ?_
  · (simp (disch := first | omega | (simp only [vlen]; first | done | omega)) only [Fits_u, Fits_m, Fits_nil, List.length_append, ↓vAq, vBq, ↓reduceIte, Nat.reduceBEq, Nat.reduceEqDiff, Nat.reduceLT, Nat.reduceLeDiff, Nat.reduceAdd, Nat.reduceMul, Nat.reduceSub, reduceCtorEq, Int.reduceToNat] <;> (repeat' first | rfl | apply And.intro))
  · rintro W ⟨hW, hs⟩
    repeat' first | ((first | refine Br.dec ?_ ?_ | refine Br.eqi ?_ ?_) <;> intro h <;> try (exfalso; omega)) | (simp (disch := first | omega | (simp only [vlen]; first | done | omega)) only [↓vAq, vBq, ↓reduceIte, Nat.reduceBEq, Nat.reduceEqDiff, Nat.reduceLT, Nat.reduceLeDiff, Nat.reduceAdd, Nat.reduceMul, Nat.reduceSub, reduceCtorEq, Int.reduceToNat]) | (refine Br.mk ?_ ?_ <;> intro h) | (refine BrN.mk (fun h => ?_) ?_) | (refine AltVC.mk ?_ ?_)
    refine LoopVC.mk (X := Nat × Nat) (fun x => [(5, iv .u32 x.1), (13, iv .i64 x.2)]) (fun _ => [(0, ⟨4, [[iv .i64 g.k, iv .i64 g.n, iv .i64 g.start, .sl 2 (tbl rulD g.rules)]], true, false, .fix⟩)]) (fun x => g.rules.length - x.2) (fun x => x.2 ≤ g.rules.length ∧ x.1 < 2 ^ g.n.toNat ∧ W ≤ x.1 ∧ (∀ y, x.1.testBit y = true → ∃ d, mkN g void d y = true) ∧ (x.1 = W → ∀ j, j < x.2 → allOf g (!void) W.testBit (g.rules.getD j default).right = true → W.testBit (g.rules.getD j default).left.toNat = true)) (W, 0) ⟨by simp, hW, by simp, hs, fun _ j hj => by simp at hj⟩ ?_ ?_
    · (simp (disch := first | omega | (simp only [vlen]; first | done | omega)) only [Fits_u, Fits_m, Fits_nil, List.length_append, ↓vAq, vBq, ↓reduceIte, Nat.reduceBEq, Nat.reduceEqDiff, Nat.reduceLT, Nat.reduceLeDiff, Nat.reduceAdd, Nat.reduceMul, Nat.reduceSub, reduceCtorEq, Int.reduceToNat] <;> (repeat' first | rfl | apply And.intro))
    · rintro ⟨S, i⟩ ⟨h1, h2, h3, h4, h5⟩
      simp only at h1 h2 h3 h4 h5
      have hS32 : (S : Int) ≤ 4294967295 := by omega
      repeat' first | ((first | refine Br.dec ?_ ?_ | refine Br.eqi ?_ ?_) <;> intro h <;> try (exfalso; omega)) | (simp (disch := first | omega | (simp only [vlen]; first | done | omega)) only [↓vAq, vBq, ↓reduceIte, Nat.reduceBEq, Nat.reduceEqDiff, Nat.reduceLT, Nat.reduceLeDiff, Nat.reduceAdd, Nat.reduceMul, Nat.reduceSub, reduceCtorEq, Int.reduceToNat]) | (refine Br.mk ?_ ?_ <;> intro h) | (refine BrN.mk (fun h => ?_) ?_) | (refine AltVC.mk ?_ ?_)
      · have hm : g.rules.getD i default ∈ g.rules := getD_mem' (by omega)
        have hl := hleft _ hm
        have hq := hlong _ hm
        refine CallVC.eq (allOf_spec g (by omega) _ (by omega) S hS32 (!void) (fun y hy => by have := hright _ hm y hy; omega)) ?_
        repeat' first | ((first | refine Br.dec ?_ ?_ | refine Br.eqi ?_ ?_) <;> intro h <;> try (exfalso; omega)) | (simp (disch := first | omega | (simp only [vlen]; first | done | omega)) only [↓vAq, vBq, ↓reduceIte, Nat.reduceBEq, Nat.reduceEqDiff, Nat.reduceLT, Nat.reduceLeDiff, Nat.reduceAdd, Nat.reduceMul, Nat.reduceSub, reduceCtorEq, Int.reduceToNat]) | (refine Br.mk ?_ ?_ <;> intro h) | (refine BrN.mk (fun h => ?_) ?_) | (refine AltVC.mk ?_ ?_)
        · have ha : allOf g (!void) S.testBit (g.rules.getD i default).right = true := by assumption
          have e2 : (g.rules.getD i default).left = (((g.rules.getD i default).left.toNat : Nat) : Int) := by omega
          have hp2 := @pow_le31 (g.rules.getD i default).left.toNat (by omega)
          rw [shlN (by omega), orN hS32 (by omega)]
          have hlt := or_two_lt h2 (show (g.rules.getD i default).left.toNat < g.n.toNat by omega)
          have hle := @le_or S (2 ^ (g.rules.getD i default).left.toNat)
          refine loopK.mk (S ||| 2 ^ (g.rules.getD i default).left.toNat, i + 1) (by simp (disch := first | omega | (simp only [vlen]; first | done | omega)) only [↓vAq, vBq, ↓reduceIte, Nat.reduceBEq, Nat.reduceEqDiff, Nat.reduceLT, Nat.reduceLeDiff, Nat.reduceAdd, Nat.reduceMul, Nat.reduceSub, reduceCtorEq, Int.reduceToNat]) ⟨by simp only; omega, hlt, by simp only; omega, fun y hy => ?_, fun he j hj => ?_⟩ (by simp only; omega) (by (simp (disch := first | omega | (simp only [vlen]; first | done | omega)) only [Fits_u, Fits_m, Fits_nil, List.length_append, ↓vAq, vBq, ↓reduceIte, Nat.reduceBEq, Nat.reduceEqDiff, Nat.reduceLT, Nat.reduceLeDiff, Nat.reduceAdd, Nat.reduceMul, Nat.reduceSub, reduceCtorEq, Int.reduceToNat] <;> (repeat' first | rfl | apply And.intro)))
          · rw [or_bit, Bool.or_eq_true] at hy
            rcases hy with hy | hy
            · exact h4 y hy
            · rw [decide_eq_true_eq] at hy; rw [hy]; exact sound_step hv hm h4 ha
          · simp only at he hj
            have e3 : S = W := by omega
            intro hja
            by_cases ej : j = i
            · subst ej
              rw [← he, or_bit]; simp
            · exact h5 e3 j (by omega) hja
        · have ha : allOf g (!void) S.testBit (g.rules.getD i default).right = false := by assumption
          refine loopK.mk (S, i + 1) (by simp (disch := first | omega | (simp only [vlen]; first | done | omega)) only [↓vAq, vBq, ↓reduceIte, Nat.reduceBEq, Nat.reduceEqDiff, Nat.reduceLT, Nat.reduceLeDiff, Nat.reduceAdd, Nat.reduceMul, Nat.reduceSub, reduceCtorEq, Int.reduceToNat]) ⟨by simp only; omega, h2, h3, h4, fun he j hj => ?_⟩ (by simp only; omega) (by (simp (disch := first | omega | (simp only [vlen]; first | done | omega)) only [Fits_u, Fits_m, Fits_nil, List.length_append, ↓vAq, vBq, ↓reduceIte, Nat.reduceBEq, Nat.reduceEqDiff, Nat.reduceLT, Nat.reduceLeDiff, Nat.reduceAdd, Nat.reduceMul, Nat.reduceSub, reduceCtorEq, Int.reduceToNat] <;> (repeat' first | rfl | apply And.intro)))
          simp only at he hj
          by_cases ej : j = i
          · subst ej; subst he; intro hja; rw [ha] at hja; cases hja
          · exact h5 he j (by omega)
      · have e : S = W := by omega
        subst e
        have hc : ∀ r, r ∈ g.rules → allOf g (!void) S.testBit r.right = true → S.testBit r.left.toNat = true := fun r hr => by
          obtain ⟨j, hj, ej⟩ := mem_getD hr
          rw [← ej]; exact h5 rfl j (by omega)
        refine fin_mk ?_
        have hx : S = nameSet g void := set_ext h2 fun x hx => by
          rw [Bool.eq_iff_iff]
          constructor
          · intro hb
            obtain ⟨d, hd⟩ := h4 x hb
            exact mkN_stable hv (by omega) hd
          · intro hb
            exact closed_all hv hc hb
        rw [hx]
      · refine loopK.mk S (by simp (disch := first | omega | (simp only [vlen]; first | done | omega)) only [↓vAq, vBq, ↓reduceIte, Nat.reduceBEq, Nat.reduceEqDiff, Nat.reduceLT, Nat.reduceLeDiff, Nat.reduceAdd, Nat.reduceMul, Nat.reduceSub, reduceCtorEq, Int.reduceToNat]) ⟨h2, h4⟩ (by omega) (by (simp (disch := first | omega | (simp only [vlen]; first | done | omega)) only [Fits_u, Fits_m, Fits_nil, List.length_append, ↓vAq, vBq, ↓reduceIte, Nat.reduceBEq, Nat.reduceEqDiff, Nat.reduceLT, Nat.reduceLeDiff, Nat.reduceAdd, Nat.reduceMul, Nat.reduceSub, reduceCtorEq, Int.reduceToNat] <;> (repeat' first | rfl | apply And.intro)))
set_option maxRecDepth 10000 in
set_option maxHeartbeats 4000000 in
theorem productive_spec (g : Grammar) (hv : Valid g) : Dm.Spec Try.prog 28 [.ag (graD g)] (· = iv .u32 (nameSet g false)) := by
  refine spec_of_vc mixed Try.func28 c28 (by rw [show Try.f28.ntmps = _ from Try.ntmps28]; simp) ?_
  unfold m28 r28
  repeat' first | ((first | refine Br.dec ?_ ?_ | refine Br.eqi ?_ ?_) <;> intro h <;> try (exfalso; omega)) | (simp (disch := first | omega | (simp only [vlen]; first | done | omega)) only [↓vAq, vBq, ↓reduceIte, Nat.reduceBEq, Nat.reduceEqDiff, Nat.reduceLT, Nat.reduceLeDiff, Nat.reduceAdd, Nat.reduceMul, Nat.reduceSub, reduceCtorEq, Int.reduceToNat]) | (refine Br.mk ?_ ?_ <;> intro h) | (refine BrN.mk (fun h => ?_) ?_) | (refine AltVC.mk ?_ ?_)
  refine CallVC.eq (derive_spec g hv false) ?_
  repeat' first | ((first | refine Br.dec ?_ ?_ | refine Br.eqi ?_ ?_) <;> intro h <;> try (exfalso; omega)) | (simp (disch := first | omega | (simp only [vlen]; first | done | omega)) only [↓vAq, vBq, ↓reduceIte, Nat.reduceBEq, Nat.reduceEqDiff, Nat.reduceLT, Nat.reduceLeDiff, Nat.reduceAdd, Nat.reduceMul, Nat.reduceSub, reduceCtorEq, Int.reduceToNat]) | (refine Br.mk ?_ ?_ <;> intro h) | (refine BrN.mk (fun h => ?_) ?_) | (refine AltVC.mk ?_ ?_)
  exact fin_mk rfl
end Go.Proofs.Ytplkkacfjepgpaa

namespace Go.Dm
set_option linter.unusedSimpArgs false
set_option linter.defProp false
theorem kBldS_ii {cells : List D} {off : Nat} {k k' : IntKind} {a b : Int} {go : List D → Prop} : kBldS off 2 cells go [.v (.int k a), .v (.int k' b)] = ChkD (off + 2 ≤ cells.length) (splice cells off [.v (.int k a), .v (.int k' b)]) go := by
  rw [kBldS_n]; unfold ChkD; simp [D.one, Value.one]
theorem kBldS_is {cells : List D} {off : Nat} {k : IntKind} {a : Int} {sz : Nat} {es : List (List D)} {go : List D → Prop} : kBldS off 2 cells go [.v (.int k a), .sl sz es] = ChkD (off + 2 ≤ cells.length) (splice cells off [.v (.int k a), .sl sz es]) go := by
  rw [kBldS_n]; unfold ChkD; simp [D.one, Value.one]
theorem kBldS_iiis {cells : List D} {off : Nat} {k k' k'' : IntKind} {a b c : Int} {sz : Nat} {es : List (List D)} {go : List D → Prop} : kBldS off 4 cells go [.v (.int k a), .v (.int k' b), .v (.int k'' c), .sl sz es] = ChkD (off + 4 ≤ cells.length) (splice cells off [.v (.int k a), .v (.int k' b), .v (.int k'' c), .sl sz es]) go := by
  rw [kBldS_n]; unfold ChkD; simp [D.one, Value.one]
section
variable {P : Program} {s : S}
theorem fold_kill {σ τ i o : Nat} {fl : Bool} {K : S → Prop} (h : kFold σ τ i o fl K s) : ∃ s', Gho s (D.kill σ) s' ∧ K s' := by
  unfold kFold kM at h
  split at h
  · next ob hM =>
    unfold kFoldA kM at h
    split at h
    · next ob' hM' =>
      obtain ⟨⟨h1, h1', h2, h3, h4, h6, h7⟩, hk⟩ := h
      unfold kFoldC at hk
      split at hk
      · next υ sz off n hc =>
        obtain ⟨rfl, rfl, rfl, k4, k5, h5, k6⟩ := hk
        exact ⟨_, .fold s υ τ i o n fl ob ob' ⟨h1, h1'⟩ hM hM' h2 h3 h4 h5 h6 h7 hc k4 k5, k6⟩
      · next υ hc =>
        obtain ⟨rfl, k1, k2, k5, k6⟩ := hk
        exact ⟨_, .foldm s υ τ i o fl ob ob' ⟨h1, h1'⟩ hM hM' h2 h3 h4 k1 k2 h6 h7 hc k5, k6⟩
      · exact hk.elim
    · exact h.elim
  · exact h.elim
def callFd (P : Program) (f : FuncId) (d : Option Nat) (K : S → Prop) (σ : Nat) (raws : List D) (s' : S) : Prop := CallVC P f d K (raws.map (D.kill σ)) s'
theorem callFd_eq {f : FuncId} {d : Option Nat} {K : S → Prop} {σ : Nat} {raws : List D} : callFd P f d K σ raws s = kD (raws.map (D.kill σ)) (kCallw P f d K s) := (rfl)
theorem nlo_id {τ i o z : Nat} {K : S → Prop} (h : kNlo τ i o z K s) : ∃ s', Gho s (fun d => d) s' ∧ K s' := by
  unfold kNlo kM at h
  split at h
  · next ob hM =>
    obtain ⟨⟨h1, h2, h3, h4⟩, hk⟩ := h
    exact ⟨_, .nlo s τ i o z ob h1 hM h2 h3 h4, hk⟩
  · exact h.elim
def callNd (P : Program) (f : FuncId) (d : Option Nat) (K : S → Prop) (raws : List D) (s' : S) : Prop := CallVC P f d K (raws.map fun d => d) s'
theorem callNd_eq {f : FuncId} {d : Option Nat} {K : S → Prop} {raws : List D} : callNd P f d K raws s = kD raws (kCallw P f d K s) := by
  unfold callNd; rw [List.map_id']; rfl
theorem CallVC.nlo {f : FuncId} {d : Option Nat} {K : S → Prop} {raws views : List D} {own : Bool} (τ i o z : Nat) (h : kNlo τ i o z (callNd P f d K raws) s) : CallV P f views own raws s d K := fun _ _ => by
  obtain ⟨s', hg, hk⟩ := nlo_id h
  exact .ghost raws s _ _ hg hk
theorem CallVC.fold {f : FuncId} {d : Option Nat} {K : S → Prop} {raws views : List D} {own : Bool} (σ τ i o : Nat) (fl : Bool) (h : kFold σ τ i o fl (callFd P f d K σ raws) s) : CallV P f views own raws s d K := fun _ _ => by
  obtain ⟨s', hg, hk⟩ := fold_kill h
  exact .ghost raws s _ _ hg hk
def finHx (n0 : Nat) (R : D → List (Option Ob) → Prop) (d : D) (s' : S) : Prop := FinH n0 R s' d
theorem finHx_eq {n0 : Nat} {R : D → List (Option Ob) → Prop} {d : D} : finHx n0 R d s = FinH n0 R s d := (rfl)
theorem FinH.fold {n0 : Nat} {R : D → List (Option Ob) → Prop} {d : D} (σ τ i o : Nat) (fl : Bool) (hd : d.kill σ = d) (h : kFold σ τ i o fl (finHx n0 R d) s) : FinH n0 R s d := by
  obtain ⟨s', hg, s'', g, l, h1, h2, h3, h4, h5⟩ := fold_kill h
  refine ⟨s'', _, l, .step _ _ _ _ _ hg h1, h2, h3, h4, ?_⟩
  show R ((g (d.kill σ)).trim l.length) l
  rw [hd]; exact h5
end
def vmr := And.intro @callFd_eq <| And.intro @callNd_eq <| And.intro @finHx_eq <| And.intro @kBldS_ii <| And.intro @kBldS_is @kBldS_iiis
end Go.Dm

namespace Go.Dm
set_option linter.unusedSimpArgs false
set_option linter.defProp false
def ltAll : List Nat → Nat → Prop
  | [], _ => True
  | x :: r, N => x < N ∧ ltAll r N
theorem ltAll_nil {N : Nat} : ltAll [] N = True := (rfl)
theorem ltAll_cons {x N : Nat} {r : List Nat} : ltAll (x :: r) N = (x < N ∧ ltAll r N) := (rfl)
theorem ltAll_spec {N : Nat} : ∀ {l : List Nat}, ltAll l N → ∀ x, x ∈ l → x < N
  | y :: r, h, x, hx => by
    rcases List.mem_cons.1 hx with rfl | hx
    · exact h.1
    · exact ltAll_spec h.2 x hx
def lentM (s : S) (ι : List Nat) : List Nat → List Ob → Prop
  | [], _ => True
  | _, [] => True
  | x :: r, ob :: q => s.M x = some (ob.ren (iotaO ι s.N)) ∧ lentM s ι r q
theorem lentM_nil {s : S} {ι : List Nat} {q : List Ob} : lentM s ι [] q = True := (rfl)
theorem lentM_cons {s : S} {ι : List Nat} {x : Nat} {r : List Nat} {ob : Ob} {q : List Ob} : lentM s ι (x :: r) (ob :: q) = (s.M x = some (ob.ren (iotaO ι s.N)) ∧ lentM s ι r q) := (rfl)
theorem lentM_spec {s : S} {ι : List Nat} : ∀ {l : List Nat} {q : List Ob}, l.length = q.length → lentM s ι l q → ∀ k ob, q[k]? = some ob → s.M (l.getD k 0) = some (ob.ren (iotaO ι s.N))
  | [], [], _, _, k, ob, h => by simp at h
  | [], _ :: _, hl, _, _, _, _ => by simp at hl
  | _ :: _, [], hl, _, _, _, _ => by simp at hl
  | x :: r, o :: q, hl, hm, k, ob, h => by
    cases k with
    | zero => simp at h; subst h; exact hm.1
    | succ k => simpa using lentM_spec (by simpa using hl) hm.2 k ob (by simpa using h)
theorem CallVC.lendE {P : Program} {f : FuncId} {views raws : List D} {own : Bool} {s : S} {d : Option Nat} {K : S → Prop} (ι : List Nat) (ds : List D) (obs : List Ob) {R : D → List (Option Ob) → Prop} (h : SpecH P f ds obs R) (hn : ι.Nodup) (hl : ι.length = obs.length)
    (hq : ltAll ι s.N ∧ raws = ds.map (D.ren (iotaO ι s.N)) ∧ lentM s ι ι obs) (hk : ∀ r l, R r l → K ((s.after ι l).put d (r.ren (iotaO ι s.N)))) : CallV P f views own raws s d K :=
  CallVC.lend ι ds obs h hn (ltAll_spec hq.1) hl hq.2.1 (lentM_spec hl hq.2.2) hk
def vle0 := And.intro @ltAll_nil <| And.intro @ltAll_cons <| And.intro @lentM_nil @lentM_cons
end Go.Dm
