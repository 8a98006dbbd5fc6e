/-
 Texts of this claim, one behind another.
-/
import Derived.Test.YtplkkacfjepgpaaMg9
import Derived.Test.YtplkkacfjepgpaaMg11
import Derived.Test.YtplkkacfjepgpaaCode
namespace Go.Proofs.Ytplkkacfjepgpaa
open Go.Dm
set_option linter.unusedSimpArgs false
set_option linter.unnecessarySimpa false
set_option linter.unusedVariables false
theorem mixed : Try.prog.follows .mixedOrders = true := by kernel_rfl
end Go.Proofs.Ytplkkacfjepgpaa

namespace Go.Proofs.Ytplkkacfjepgpaa
open Go.Dm
set_option linter.unusedSimpArgs false
set_option linter.unnecessarySimpa false
set_option linter.unusedVariables false
def idxOf {α : Type} (p : α → Bool) (l : List α) : Int := if l.any p = true then ((l.findIdx p : Nat) : Int) else -1
theorem idxOf_hit {α : Type} [Inhabited α] {p : α → Bool} {l : List α} {i : Nat} (hi : i < l.length) (h : p (l.getD i default) = true) (hn : ∀ j, j < i → p (l.getD j default) = false) : idxOf p l = i := by
  have e : ∀ j (hj : j < l.length), l.getD j default = l[j] := fun j hj => by simp [List.getD, hj]
  unfold idxOf
  rw [if_pos (List.any_eq_true.2 ⟨l[i], List.getElem_mem hi, by rw [← e i hi]; exact h⟩)]
  rw [(List.findIdx_eq hi).2 ⟨by rw [← e i hi]; exact h, fun j hj => by rw [← e j (by omega)]; exact hn j hj⟩]
theorem any_none {α : Type} [Inhabited α] {p : α → Bool} {l : List α} {i : Nat} (hi : l.length ≤ i) (hn : ∀ j, j < i → p (l.getD j default) = false) : l.any p = false := by
  rw [List.any_eq_false]
  intro x hx
  obtain ⟨j, hj, e⟩ := mem_getD hx
  rw [← e, hn j (by omega)]
  simp
theorem idxOf_miss {α : Type} [Inhabited α] {p : α → Bool} {l : List α} {i : Nat} (hi : l.length ≤ i) (hn : ∀ j, j < i → p (l.getD j default) = false) : idxOf p l = -1 := by
  unfold idxOf
  rw [if_neg (by rw [any_none hi hn]; simp)]
theorem idxOf_geq {α : Type} {p : α → Bool} {l : List α} : decide (0 ≤ idxOf p l) = l.any p := by
  unfold idxOf
  by_cases h : l.any p = true
  · rw [if_pos h, h]; exact decide_eq_true (by omega)
  · rw [if_neg h, Bool.not_eq_true] at *; rw [h]; rfl
theorem cl_lf {f : D → D} (hf : ∀ d, clL d = true → f d = d) : ∀ d : D, d.cl = true → d.lf f = d
  | .ag ds, h => by
    have hd : ∀ d, d ∈ ds → d.cl = true := fun d hm => by rw [D.cl, alls_ag] at h; exact List.all_eq_true.1 h d hm
    have ih : ∀ d, d ∈ ds → d.lf f = d := fun d hm => cl_lf hf d (hd d hm)
    rw [lf_ag, List.map_congr_left ih, List.map_id']
  | .tu ds, h => by
    have hd : ∀ d, d ∈ ds → d.cl = true := fun d hm => by rw [D.cl, alls_tu] at h; exact List.all_eq_true.1 h d hm
    have ih : ∀ d, d ∈ ds → d.lf f = d := fun d hm => cl_lf hf d (hd d hm)
    rw [lf_tu, List.map_congr_left ih, List.map_id']
  | .clo g ds, h => by
    have hd : ∀ d, d ∈ ds → d.cl = true := fun d hm => by rw [cl_clo] at h; exact List.all_eq_true.1 h d hm
    have ih : ∀ d, d ∈ ds → d.lf f = d := fun d hm => cl_lf hf d (hd d hm)
    rw [lf_clo, List.map_congr_left ih, List.map_id']
  | .v x, h => by rw [lf_leaf rfl]; exact hf _ rfl
  | .nl, h => by rw [lf_leaf rfl]; exact hf _ rfl
  | .sl _ _, h => by rw [lf_leaf rfl]; exact hf _ rfl
  | .ip _ _, h => by rw [lf_leaf rfl]; exact hf _ rfl
  | .ref _ _ _ _, h => by rw [D.cl, alls_leaf rfl] at h; cases h
  | .ptr _ _ _ _, h => by rw [D.cl, alls_leaf rfl] at h; cases h
  | .mp _, h => by rw [D.cl, alls_leaf rfl] at h; cases h
  | .own _ _ _, h => by rw [D.cl, alls_leaf rfl] at h; cases h
  | .omp _ _ _, h => by rw [D.cl, alls_leaf rfl] at h; cases h
  | .junk, h => by rw [D.cl, alls_leaf rfl] at h; cases h
termination_by d => SizeOf.sizeOf d
decreasing_by all_goals (have := List.sizeOf_lt_of_mem hm; simp; omega)
theorem cl_J : ∀ d : D, d.alls clL = true → d.alls clJ = true
  | .ag ds, h => by
    rw [alls_ag] at h ⊢
    exact List.all_eq_true.2 fun d hm => cl_J d (List.all_eq_true.1 h d hm)
  | .tu ds, h => by
    rw [alls_tu] at h ⊢
    exact List.all_eq_true.2 fun d hm => cl_J d (List.all_eq_true.1 h d hm)
  | .clo g ds, h => by
    rw [alls_clo] at h ⊢
    exact List.all_eq_true.2 fun d hm => cl_J d (List.all_eq_true.1 h d hm)
  | .v x, h => by rw [alls_leaf rfl]; rfl
  | .nl, h => by rw [alls_leaf rfl]; rfl
  | .sl _ _, h => by rw [alls_leaf rfl]; rfl
  | .ip _ _, h => by rw [alls_leaf rfl]; rfl
  | .ref _ _ _ _, h => by rw [alls_leaf rfl] at h; cases h
  | .ptr _ _ _ _, h => by rw [alls_leaf rfl] at h; cases h
  | .mp _, h => by rw [alls_leaf rfl] at h; cases h
  | .own _ _ _, h => by rw [alls_leaf rfl] at h; cases h
  | .omp _ _ _, h => by rw [alls_leaf rfl] at h; cases h
  | .junk, h => by rw [alls_leaf rfl] at h; cases h
termination_by d => SizeOf.sizeOf d
decreasing_by all_goals (have := List.sizeOf_lt_of_mem hm; simp; omega)
section
variable {ds : List D} (hd : ds.all D.cl = true)
include hd
theorem map_lf {f : D → D} (hf : ∀ d, clL d = true → f d = d) : ds.map (D.lf f) = ds := by
  rw [List.map_congr_left (fun d hm => cl_lf hf d (List.all_eq_true.1 hd d hm)), List.map_id']
theorem cl_trims (n : Nat) : (ds.map fun d => d.trim n) = ds := map_lf hd (f := trimL n) (fun d h => by cases d <;> first | rfl | cases h)
theorem cl_views (s : S) : ds.map s.view = ds := map_lf hd (f := s.viewL) (fun d h => by cases d <;> first | rfl | cases h)
theorem cl_owned : ds.any D.owned = false := by
  rw [List.any_eq_false]
  intro d hm
  have h := List.all_eq_true.1 hd d hm
  have : d.alls clJ = true := by
    revert h
    unfold D.cl
    exact cl_J d
  simp [D.owned, this]
end
set_option maxRecDepth 10000 in
set_option maxHeartbeats 4000000 in
theorem idxF_rule (l : List (Rule)) (p : Rule → Bool) (f : FuncId) (ds : List D) (hl : l.length ≤ 9223372036854775807) (hd : ds.all D.cl = true) (hp : ∀ a, a ∈ l → Dm.Spec Try.prog f (.ag (rulD a) :: ds) (· = .v (.bool (p a)))) : Dm.Spec Try.prog 45 [.sl 2 (tbl rulD l), .clo f ds] (· = .v (.int .i64 (idxOf p l))) := by
  refine spec_of_vc mixed Try.func45 c45 (by rw [show Try.f45.ntmps = _ from Try.ntmps45]; simp) ?_
  unfold m45 r45
  repeat' first | ((first | refine Br.dec ?_ ?_ | refine Br.eqi ?_ ?_) <;> intro h <;> try (exfalso; omega)) | (simp (disch := first | omega | (simp only [vlen]; first | done | omega)) only [↓vAq, vBq, ↓reduceIte, Nat.reduceBEq, Nat.reduceEqDiff, Nat.reduceLT, Nat.reduceLeDiff, Nat.reduceAdd, Nat.reduceMul, Nat.reduceSub, reduceCtorEq, Int.reduceToNat]) | (refine Br.mk ?_ ?_ <;> intro h) | (refine BrN.mk (fun h => ?_) ?_) | (refine AltVC.mk ?_ ?_)
  refine LoopVC.mk (X := Nat) (fun i => [(1, .clo f ds), (8, iv .i64 i)]) (fun _ => []) (fun i => l.length - i) (fun i => i ≤ l.length ∧ ∀ j, j < i → p (l.getD j default) = false) 0 ⟨by omega, by omega⟩ ?_ ?_
  · (simp (disch := first | omega | (simp only [vlen]; first | done | omega)) only [Fits_u, Fits_m, Fits_nil, List.length_append, ↓vAq, vBq, ↓reduceIte, Nat.reduceBEq, Nat.reduceEqDiff, Nat.reduceLT, Nat.reduceLeDiff, Nat.reduceAdd, Nat.reduceMul, Nat.reduceSub, reduceCtorEq, Int.reduceToNat] <;> (repeat' first | rfl | apply And.intro))
  · rintro i ⟨hi, hn⟩
    repeat' first | ((first | refine Br.dec ?_ ?_ | refine Br.eqi ?_ ?_) <;> intro h <;> try (exfalso; omega)) | (simp (disch := first | omega | (simp only [vlen]; first | done | omega)) only [↓vAq, vBq, ↓reduceIte, Nat.reduceBEq, Nat.reduceEqDiff, Nat.reduceLT, Nat.reduceLeDiff, Nat.reduceAdd, Nat.reduceMul, Nat.reduceSub, reduceCtorEq, Int.reduceToNat]) | (refine Br.mk ?_ ?_ <;> intro h) | (refine BrN.mk (fun h => ?_) ?_) | (refine AltVC.mk ?_ ?_)
    · rw [cl_views hd, cl_owned hd]
      refine CallVC.eq (hp (l.getD i default) (getD_mem' (by omega))) ?_
      repeat' first | ((first | refine Br.dec ?_ ?_ | refine Br.eqi ?_ ?_) <;> intro h <;> try (exfalso; omega)) | (simp (disch := first | omega | (simp only [vlen]; first | done | omega)) only [↓vAq, vBq, ↓reduceIte, Nat.reduceBEq, Nat.reduceEqDiff, Nat.reduceLT, Nat.reduceLeDiff, Nat.reduceAdd, Nat.reduceMul, Nat.reduceSub, reduceCtorEq, Int.reduceToNat]) | (refine Br.mk ?_ ?_ <;> intro h) | (refine BrN.mk (fun h => ?_) ?_) | (refine AltVC.mk ?_ ?_)
      · refine fin_mk (viEq ?_)
        rw [idxOf_hit (by omega) (by assumption) hn]
      · refine loopK.mk (i + 1) (by simp (disch := first | omega | (simp only [vlen]; first | done | omega)) only [↓vAq, vBq, ↓reduceIte, Nat.reduceBEq, Nat.reduceEqDiff, Nat.reduceLT, Nat.reduceLeDiff, Nat.reduceAdd, Nat.reduceMul, Nat.reduceSub, reduceCtorEq, Int.reduceToNat]) ⟨by omega, fun j hj => ?_⟩ (by omega) ?_
        · by_cases e : j = i
          · subst e; assumption
          · exact hn j (by omega)
        · (simp (disch := first | omega | (simp only [vlen]; first | done | omega)) only [Fits_u, Fits_m, Fits_nil, List.length_append, ↓vAq, vBq, ↓reduceIte, Nat.reduceBEq, Nat.reduceEqDiff, Nat.reduceLT, Nat.reduceLeDiff, Nat.reduceAdd, Nat.reduceMul, Nat.reduceSub, reduceCtorEq, Int.reduceToNat] <;> (repeat' first | rfl | apply And.intro))
          rw [cl_trims hd]
    · refine fin_mk (viEq ?_)
      rw [idxOf_miss (by omega) hn]
set_option maxRecDepth 10000 in
set_option maxHeartbeats 4000000 in
theorem conF_rule (l : List (Rule)) (p : Rule → Bool) (f : FuncId) (ds : List D) (hl : l.length ≤ 9223372036854775807) (hd : ds.all D.cl = true) (hp : ∀ a, a ∈ l → Dm.Spec Try.prog f (.ag (rulD a) :: ds) (· = .v (.bool (p a)))) : Dm.Spec Try.prog 55 [.sl 2 (tbl rulD l), .clo f ds] (· = .v (.bool (l.any p))) := by
  refine spec_of_vc mixed Try.func55 c55 (by rw [show Try.f55.ntmps = _ from Try.ntmps55]; simp) ?_
  unfold m55 r55
  repeat' first | ((first | refine Br.dec ?_ ?_ | refine Br.eqi ?_ ?_) <;> intro h <;> try (exfalso; omega)) | (simp (disch := first | omega | (simp only [vlen]; first | done | omega)) only [↓vAq, vBq, ↓reduceIte, Nat.reduceBEq, Nat.reduceEqDiff, Nat.reduceLT, Nat.reduceLeDiff, Nat.reduceAdd, Nat.reduceMul, Nat.reduceSub, reduceCtorEq, Int.reduceToNat]) | (refine Br.mk ?_ ?_ <;> intro h) | (refine BrN.mk (fun h => ?_) ?_) | (refine AltVC.mk ?_ ?_)
  rw [cl_views hd, cl_owned hd]
  refine CallVC.eq (idxF_rule l p f ds hl hd hp) ?_
  repeat' first | ((first | refine Br.dec ?_ ?_ | refine Br.eqi ?_ ?_) <;> intro h <;> try (exfalso; omega)) | (simp (disch := first | omega | (simp only [vlen]; first | done | omega)) only [↓vAq, vBq, ↓reduceIte, Nat.reduceBEq, Nat.reduceEqDiff, Nat.reduceLT, Nat.reduceLeDiff, Nat.reduceAdd, Nat.reduceMul, Nat.reduceSub, reduceCtorEq, Int.reduceToNat]) | (refine Br.mk ?_ ?_ <;> intro h) | (refine BrN.mk (fun h => ?_) ?_) | (refine AltVC.mk ?_ ?_)
  exact fin_mk (vbEq idxOf_geq)
set_option maxRecDepth 10000 in
set_option maxHeartbeats 4000000 in
theorem idxF_int (l : List (Int)) (p : Int → Bool) (f : FuncId) (ds : List D) (hl : l.length ≤ 9223372036854775807) (hd : ds.all D.cl = true) (hp : ∀ a, a ∈ l → Dm.Spec Try.prog f (iv .i64 a :: ds) (· = .v (.bool (p a)))) : Dm.Spec Try.prog 80 [.sl 1 (i64s l), .clo f ds] (· = .v (.int .i64 (idxOf p l))) := by
  refine spec_of_vc mixed Try.func80 c80 (by rw [show Try.f80.ntmps = _ from Try.ntmps80]; simp) ?_
  unfold m80 r80
  repeat' first | ((first | refine Br.dec ?_ ?_ | refine Br.eqi ?_ ?_) <;> intro h <;> try (exfalso; omega)) | (simp (disch := first | omega | (simp only [vlen]; first | done | omega)) only [↓vAq, vBq, ↓reduceIte, Nat.reduceBEq, Nat.reduceEqDiff, Nat.reduceLT, Nat.reduceLeDiff, Nat.reduceAdd, Nat.reduceMul, Nat.reduceSub, reduceCtorEq, Int.reduceToNat]) | (refine Br.mk ?_ ?_ <;> intro h) | (refine BrN.mk (fun h => ?_) ?_) | (refine AltVC.mk ?_ ?_)
  refine LoopVC.mk (X := Nat) (fun i => [(1, .clo f ds), (8, iv .i64 i)]) (fun _ => []) (fun i => l.length - i) (fun i => i ≤ l.length ∧ ∀ j, j < i → p (l.getD j default) = false) 0 ⟨by omega, by omega⟩ ?_ ?_
  · (simp (disch := first | omega | (simp only [vlen]; first | done | omega)) only [Fits_u, Fits_m, Fits_nil, List.length_append, ↓vAq, vBq, ↓reduceIte, Nat.reduceBEq, Nat.reduceEqDiff, Nat.reduceLT, Nat.reduceLeDiff, Nat.reduceAdd, Nat.reduceMul, Nat.reduceSub, reduceCtorEq, Int.reduceToNat] <;> (repeat' first | rfl | apply And.intro))
  · rintro i ⟨hi, hn⟩
    repeat' first | ((first | refine Br.dec ?_ ?_ | refine Br.eqi ?_ ?_) <;> intro h <;> try (exfalso; omega)) | (simp (disch := first | omega | (simp only [vlen]; first | done | omega)) only [↓vAq, vBq, ↓reduceIte, Nat.reduceBEq, Nat.reduceEqDiff, Nat.reduceLT, Nat.reduceLeDiff, Nat.reduceAdd, Nat.reduceMul, Nat.reduceSub, reduceCtorEq, Int.reduceToNat]) | (refine Br.mk ?_ ?_ <;> intro h) | (refine BrN.mk (fun h => ?_) ?_) | (refine AltVC.mk ?_ ?_)
    · rw [cl_views hd, cl_owned hd]
      refine CallVC.eq (hp (l.getD i default) (getD_mem' (by omega))) ?_
      repeat' first | ((first | refine Br.dec ?_ ?_ | refine Br.eqi ?_ ?_) <;> intro h <;> try (exfalso; omega)) | (simp (disch := first | omega | (simp only [vlen]; first | done | omega)) only [↓vAq, vBq, ↓reduceIte, Nat.reduceBEq, Nat.reduceEqDiff, Nat.reduceLT, Nat.reduceLeDiff, Nat.reduceAdd, Nat.reduceMul, Nat.reduceSub, reduceCtorEq, Int.reduceToNat]) | (refine Br.mk ?_ ?_ <;> intro h) | (refine BrN.mk (fun h => ?_) ?_) | (refine AltVC.mk ?_ ?_)
      · refine fin_mk (viEq ?_)
        rw [idxOf_hit (by omega) (by assumption) hn]
      · refine loopK.mk (i + 1) (by simp (disch := first | omega | (simp only [vlen]; first | done | omega)) only [↓vAq, vBq, ↓reduceIte, Nat.reduceBEq, Nat.reduceEqDiff, Nat.reduceLT, Nat.reduceLeDiff, Nat.reduceAdd, Nat.reduceMul, Nat.reduceSub, reduceCtorEq, Int.reduceToNat]) ⟨by omega, fun j hj => ?_⟩ (by omega) ?_
        · by_cases e : j = i
          · subst e; assumption
          · exact hn j (by omega)
        · (simp (disch := first | omega | (simp only [vlen]; first | done | omega)) only [Fits_u, Fits_m, Fits_nil, List.length_append, ↓vAq, vBq, ↓reduceIte, Nat.reduceBEq, Nat.reduceEqDiff, Nat.reduceLT, Nat.reduceLeDiff, Nat.reduceAdd, Nat.reduceMul, Nat.reduceSub, reduceCtorEq, Int.reduceToNat] <;> (repeat' first | rfl | apply And.intro))
          rw [cl_trims hd]
    · refine fin_mk (viEq ?_)
      rw [idxOf_miss (by omega) hn]
set_option maxRecDepth 10000 in
set_option maxHeartbeats 4000000 in
theorem conF_int (l : List (Int)) (p : Int → Bool) (f : FuncId) (ds : List D) (hl : l.length ≤ 9223372036854775807) (hd : ds.all D.cl = true) (hp : ∀ a, a ∈ l → Dm.Spec Try.prog f (iv .i64 a :: ds) (· = .v (.bool (p a)))) : Dm.Spec Try.prog 60 [.sl 1 (i64s l), .clo f ds] (· = .v (.bool (l.any p))) := by
  refine spec_of_vc mixed Try.func60 c60 (by rw [show Try.f60.ntmps = _ from Try.ntmps60]; simp) ?_
  unfold m60 r60
  repeat' first | ((first | refine Br.dec ?_ ?_ | refine Br.eqi ?_ ?_) <;> intro h <;> try (exfalso; omega)) | (simp (disch := first | omega | (simp only [vlen]; first | done | omega)) only [↓vAq, vBq, ↓reduceIte, Nat.reduceBEq, Nat.reduceEqDiff, Nat.reduceLT, Nat.reduceLeDiff, Nat.reduceAdd, Nat.reduceMul, Nat.reduceSub, reduceCtorEq, Int.reduceToNat]) | (refine Br.mk ?_ ?_ <;> intro h) | (refine BrN.mk (fun h => ?_) ?_) | (refine AltVC.mk ?_ ?_)
  rw [cl_views hd, cl_owned hd]
  refine CallVC.eq (idxF_int l p f ds hl hd hp) ?_
  repeat' first | ((first | refine Br.dec ?_ ?_ | refine Br.eqi ?_ ?_) <;> intro h <;> try (exfalso; omega)) | (simp (disch := first | omega | (simp only [vlen]; first | done | omega)) only [↓vAq, vBq, ↓reduceIte, Nat.reduceBEq, Nat.reduceEqDiff, Nat.reduceLT, Nat.reduceLeDiff, Nat.reduceAdd, Nat.reduceMul, Nat.reduceSub, reduceCtorEq, Int.reduceToNat]) | (refine Br.mk ?_ ?_ <;> intro h) | (refine BrN.mk (fun h => ?_) ?_) | (refine AltVC.mk ?_ ?_)
  exact fin_mk (vbEq idxOf_geq)
end Go.Proofs.Ytplkkacfjepgpaa

namespace Go.Proofs.Ytplkkacfjepgpaa
open Go.Dm
set_option linter.unusedSimpArgs false
set_option linter.unnecessarySimpa false
set_option linter.unusedVariables false
def isSign (g : Grammar) (x : Int) : Bool := decide (0 ≤ x ∧ x < g.k + g.n)
def isSigns (g : Grammar) (l : List Int) : Bool := l.all (isSign g)
def gcode (g : Grammar) : Int :=
  if ¬ (1 ≤ g.k ∧ g.k ≤ 3) ∨ ¬ (1 ≤ g.n ∧ g.n ≤ 5) ∨ 10 < g.rules.length then 1
  else if g.rules.any (fun r => decide (4 < r.right.length)) = true then 1
  else if ¬ (0 ≤ g.start ∧ g.start < g.n) then 2
  else if g.rules.any (fun r => !(decide (0 ≤ r.left ∧ r.left < g.n) && isSigns g r.right)) = true then 2
  else 0
set_option maxRecDepth 10000 in
set_option maxHeartbeats 4000000 in
theorem gWithin_spec (n lo hi : Int) : Dm.Spec Try.prog 66 [iv .i64 n, iv .i64 lo, iv .i64 hi] (· = .v (.bool (decide (lo ≤ n ∧ n ≤ hi)))) := by
  refine spec_of_vc mixed Try.func66 c66 (by rw [show Try.f66.ntmps = _ from Try.ntmps66]; simp) ?_
  unfold m66 r66
  repeat' first | ((first | refine Br.dec ?_ ?_ | refine Br.eqi ?_ ?_) <;> intro h <;> try (exfalso; omega)) | (simp (disch := first | omega | (simp only [vlen]; first | done | omega)) only [↓vAq, vBq, ↓reduceIte, Nat.reduceBEq, Nat.reduceEqDiff, Nat.reduceLT, Nat.reduceLeDiff, Nat.reduceAdd, Nat.reduceMul, Nat.reduceSub, reduceCtorEq, Int.reduceToNat]) | (refine Br.mk ?_ ?_ <;> intro h) | (refine BrN.mk (fun h => ?_) ?_) | (refine AltVC.mk ?_ ?_)
  · exact fin_mk (vbEq (by congr 1; exact propext ⟨fun h => ⟨by assumption, h⟩, fun h => h.2⟩))
  · exact fin_mk (vbEq (by rw [decide_eq_false (fun h => by omega)]))
set_option maxRecDepth 10000 in
set_option maxHeartbeats 4000000 in
theorem gLong_spec (r : Rule) (h : r.right.length ≤ 9223372036854775807) : Dm.Spec Try.prog 67 [.ag (rulD r)] (· = .v (.bool (decide (4 < r.right.length)))) := by
  refine spec_of_vc mixed Try.func67 c67 (by rw [show Try.f67.ntmps = _ from Try.ntmps67]; simp) ?_
  unfold m67 r67
  repeat' first | ((first | refine Br.dec ?_ ?_ | refine Br.eqi ?_ ?_) <;> intro h <;> try (exfalso; omega)) | (simp (disch := first | omega | (simp only [vlen]; first | done | omega)) only [↓vAq, vBq, ↓reduceIte, Nat.reduceBEq, Nat.reduceEqDiff, Nat.reduceLT, Nat.reduceLeDiff, Nat.reduceAdd, Nat.reduceMul, Nat.reduceSub, reduceCtorEq, Int.reduceToNat]) | (refine Br.mk ?_ ?_ <;> intro h) | (refine BrN.mk (fun h => ?_) ?_) | (refine AltVC.mk ?_ ?_)
  exact fin_mk (vbEq (dec_iff (by omega)))
set_option maxRecDepth 10000 in
set_option maxHeartbeats 4000000 in
theorem isSign_spec (g : Grammar) (hk : 0 ≤ g.k ∧ g.k ≤ 1000) (hn : 0 ≤ g.n ∧ g.n ≤ 1000) (s : Int) : Dm.Spec Try.prog 82 [iv .i64 s, .ip (graD g) 0] (· = .v (.bool (!isSign g s))) := by
  refine spec_of_vc mixed Try.func82 c82 (by rw [show Try.f82.ntmps = _ from Try.ntmps82]; simp) ?_
  unfold m82 r82
  repeat' first | ((first | refine Br.dec ?_ ?_ | refine Br.eqi ?_ ?_) <;> intro h <;> try (exfalso; omega)) | (simp (disch := first | omega | (simp only [vlen]; first | done | omega)) only [↓vAq, vBq, ↓reduceIte, Nat.reduceBEq, Nat.reduceEqDiff, Nat.reduceLT, Nat.reduceLeDiff, Nat.reduceAdd, Nat.reduceMul, Nat.reduceSub, reduceCtorEq, Int.reduceToNat]) | (refine Br.mk ?_ ?_ <;> intro h) | (refine BrN.mk (fun h => ?_) ?_) | (refine AltVC.mk ?_ ?_)
  · refine fin_mk (vbEq ?_)
    rw [isSign, decide_eq_false (by omega)]; rfl
  · refine fin_mk (vbEq ?_)
    rw [isSign, ← decide_not]
    exact dec_iff (by omega)
theorem all_not' {α : Type} {p : α → Bool} {l : List α} : (!(l.any fun a => !p a)) = l.all p := by
  rw [List.not_any_eq_all_not]; simp
set_option maxRecDepth 10000 in
set_option maxHeartbeats 4000000 in
theorem isSigns_spec (g : Grammar) (hk : 0 ≤ g.k ∧ g.k ≤ 1000) (hn : 0 ≤ g.n ∧ g.n ≤ 1000) (l : List Int) (hl : l.length ≤ 9223372036854775807) : Dm.Spec Try.prog 68 [.ag (graD g), .sl 1 (i64s l)] (· = .v (.bool (isSigns g l))) := by
  refine spec_of_vc mixed Try.func68 c68 (by rw [show Try.f68.ntmps = _ from Try.ntmps68]; simp) ?_
  unfold m68 r68
  repeat' first | ((first | refine Br.dec ?_ ?_ | refine Br.eqi ?_ ?_) <;> intro h <;> try (exfalso; omega)) | (simp (disch := first | omega | (simp only [vlen]; first | done | omega)) only [↓vAq, vBq, ↓reduceIte, Nat.reduceBEq, Nat.reduceEqDiff, Nat.reduceLT, Nat.reduceLeDiff, Nat.reduceAdd, Nat.reduceMul, Nat.reduceSub, reduceCtorEq, Int.reduceToNat]) | (refine Br.mk ?_ ?_ <;> intro h) | (refine BrN.mk (fun h => ?_) ?_) | (refine AltVC.mk ?_ ?_)
  refine CallVC.eqo (conF_int l (fun s => !isSign g s) _ [.ip (graD g) 0] hl (by simp (disch := first | omega | (simp only [vlen]; first | done | omega)) only [↓vAq, vBq, ↓reduceIte, Nat.reduceBEq, Nat.reduceEqDiff, Nat.reduceLT, Nat.reduceLeDiff, Nat.reduceAdd, Nat.reduceMul, Nat.reduceSub, reduceCtorEq, Int.reduceToNat]) fun a ha => isSign_spec g hk hn a) (by simp (disch := first | omega | (simp only [vlen]; first | done | omega)) only [↓vAq, vBq, ↓reduceIte, Nat.reduceBEq, Nat.reduceEqDiff, Nat.reduceLT, Nat.reduceLeDiff, Nat.reduceAdd, Nat.reduceMul, Nat.reduceSub, reduceCtorEq, Int.reduceToNat]) ?_
  repeat' first | ((first | refine Br.dec ?_ ?_ | refine Br.eqi ?_ ?_) <;> intro h <;> try (exfalso; omega)) | (simp (disch := first | omega | (simp only [vlen]; first | done | omega)) only [↓vAq, vBq, ↓reduceIte, Nat.reduceBEq, Nat.reduceEqDiff, Nat.reduceLT, Nat.reduceLeDiff, Nat.reduceAdd, Nat.reduceMul, Nat.reduceSub, reduceCtorEq, Int.reduceToNat]) | (refine Br.mk ?_ ?_ <;> intro h) | (refine BrN.mk (fun h => ?_) ?_) | (refine AltVC.mk ?_ ?_)
  exact fin_mk (vbEq all_not')
def badRule (g : Grammar) (r : Rule) : Bool := !(decide (0 ≤ r.left ∧ r.left < g.n) && isSigns g r.right)
theorem gcode_b {g : Grammar} : gcode g = if ¬ (1 ≤ g.k ∧ g.k ≤ 3) ∨ ¬ (1 ≤ g.n ∧ g.n ≤ 5) ∨ 10 < g.rules.length then 1
  else if g.rules.any (fun r => decide (4 < r.right.length)) = true then 1
  else if ¬ (0 ≤ g.start ∧ g.start < g.n) then 2
  else if g.rules.any (badRule g) = true then 2 else 0 := rfl
theorem any_hit {α : Type} [Inhabited α] {p : α → Bool} {l : List α} {i : Nat} (hi : i < l.length) (h : p (l.getD i default) = true) : l.any p = true :=
  List.any_eq_true.2 ⟨_, getD_mem' hi, h⟩
set_option maxRecDepth 10000 in
set_option maxHeartbeats 4000000 in
theorem gCheck_spec (g : Grammar) (hg : g.ok) : Dm.Spec Try.prog 37 [.ag (graD g)] (· = iv .i64 (gcode g)) := by
  refine spec_of_vc mixed Try.func37 c37 (by rw [show Try.f37.ntmps = _ from Try.ntmps37]; simp) ?_
  unfold m37 r37
  have hr : g.rules.length ≤ 9223372036854775807 := maxLen_le hg.2.2.2.1
  have hk : -9223372036854775808 ≤ g.k ∧ g.k ≤ 9223372036854775807 := hg.1
  have hn : -9223372036854775808 ≤ g.n ∧ g.n ≤ 9223372036854775807 := hg.2.1
  have hq : ∀ r, r ∈ g.rules → r.right.length ≤ 9223372036854775807 := fun r h => maxLen_le (hg.2.2.2.2 r h).2.1
  have r1 : ¬ (1 ≤ g.k ∧ g.k ≤ 3) ∨ ¬ (1 ≤ g.n ∧ g.n ≤ 5) ∨ 10 < g.rules.length → gcode g = 1 := fun h => by rw [gcode, if_pos h]
  repeat' first | ((first | refine Br.dec ?_ ?_ | refine Br.eqi ?_ ?_) <;> intro h <;> try (exfalso; omega)) | (simp (disch := first | omega | (simp only [vlen]; first | done | omega)) only [↓vAq, vBq, ↓reduceIte, Nat.reduceBEq, Nat.reduceEqDiff, Nat.reduceLT, Nat.reduceLeDiff, Nat.reduceAdd, Nat.reduceMul, Nat.reduceSub, reduceCtorEq, Int.reduceToNat]) | (refine Br.mk ?_ ?_ <;> intro h) | (refine BrN.mk (fun h => ?_) ?_) | (refine AltVC.mk ?_ ?_)
  refine CallVC.eq (gWithin_spec _ _ _) ?_
  repeat' first | ((first | refine Br.dec ?_ ?_ | refine Br.eqi ?_ ?_) <;> intro h <;> try (exfalso; omega)) | (simp (disch := first | omega | (simp only [vlen]; first | done | omega)) only [↓vAq, vBq, ↓reduceIte, Nat.reduceBEq, Nat.reduceEqDiff, Nat.reduceLT, Nat.reduceLeDiff, Nat.reduceAdd, Nat.reduceMul, Nat.reduceSub, reduceCtorEq, Int.reduceToNat]) | (refine Br.mk ?_ ?_ <;> intro h) | (refine BrN.mk (fun h => ?_) ?_) | (refine AltVC.mk ?_ ?_)
  · refine CallVC.eq (gWithin_spec _ _ _) ?_
    repeat' first | ((first | refine Br.dec ?_ ?_ | refine Br.eqi ?_ ?_) <;> intro h <;> try (exfalso; omega)) | (simp (disch := first | omega | (simp only [vlen]; first | done | omega)) only [↓vAq, vBq, ↓reduceIte, Nat.reduceBEq, Nat.reduceEqDiff, Nat.reduceLT, Nat.reduceLeDiff, Nat.reduceAdd, Nat.reduceMul, Nat.reduceSub, reduceCtorEq, Int.reduceToNat]) | (refine Br.mk ?_ ?_ <;> intro h) | (refine BrN.mk (fun h => ?_) ?_) | (refine AltVC.mk ?_ ?_)
    · exact fin_mk (by rw [r1 (by omega)])
    · refine CallVC.eqo (conF_rule g.rules (fun r => decide (4 < r.right.length)) _ [] hr rfl fun r h => gLong_spec r (hq r h)) (by simp (disch := first | omega | (simp only [vlen]; first | done | omega)) only [↓vAq, vBq, ↓reduceIte, Nat.reduceBEq, Nat.reduceEqDiff, Nat.reduceLT, Nat.reduceLeDiff, Nat.reduceAdd, Nat.reduceMul, Nat.reduceSub, reduceCtorEq, Int.reduceToNat]) ?_
      repeat' first | ((first | refine Br.dec ?_ ?_ | refine Br.eqi ?_ ?_) <;> intro h <;> try (exfalso; omega)) | (simp (disch := first | omega | (simp only [vlen]; first | done | omega)) only [↓vAq, vBq, ↓reduceIte, Nat.reduceBEq, Nat.reduceEqDiff, Nat.reduceLT, Nat.reduceLeDiff, Nat.reduceAdd, Nat.reduceMul, Nat.reduceSub, reduceCtorEq, Int.reduceToNat]) | (refine Br.mk ?_ ?_ <;> intro h) | (refine BrN.mk (fun h => ?_) ?_) | (refine AltVC.mk ?_ ?_)
      · exact fin_mk (by rw [gcode, if_neg (by omega), if_pos (by assumption)])
      · have h4 : (g.rules.any fun r => decide (4 < r.right.length)) = false := by assumption
        refine CallVC.eq (gWithin_spec _ _ _) ?_
        repeat' first | ((first | refine Br.dec ?_ ?_ | refine Br.eqi ?_ ?_) <;> intro h <;> try (exfalso; omega)) | (simp (disch := first | omega | (simp only [vlen]; first | done | omega)) only [↓vAq, vBq, ↓reduceIte, Nat.reduceBEq, Nat.reduceEqDiff, Nat.reduceLT, Nat.reduceLeDiff, Nat.reduceAdd, Nat.reduceMul, Nat.reduceSub, reduceCtorEq, Int.reduceToNat]) | (refine Br.mk ?_ ?_ <;> intro h) | (refine BrN.mk (fun h => ?_) ?_) | (refine AltVC.mk ?_ ?_)
        · refine LoopVC.mk (X := Nat) (fun i => [(38, iv .i64 i)]) (fun i => [(0, ⟨4, [[iv .i64 g.k, iv .i64 g.n, iv .i64 g.start, .sl 2 (tbl rulD g.rules)]], true, false, .fix⟩)]) (fun i => g.rules.length - i) (fun i => i ≤ g.rules.length ∧ ∀ j, j < i → badRule g (g.rules.getD j default) = false) 0 ⟨by omega, by omega⟩ ?_ ?_
          · (simp (disch := first | omega | (simp only [vlen]; first | done | omega)) only [Fits_u, Fits_m, Fits_nil, List.length_append, ↓vAq, vBq, ↓reduceIte, Nat.reduceBEq, Nat.reduceEqDiff, Nat.reduceLT, Nat.reduceLeDiff, Nat.reduceAdd, Nat.reduceMul, Nat.reduceSub, reduceCtorEq, Int.reduceToNat] <;> (repeat' first | rfl | apply And.intro))
          · rintro i ⟨hi, hb⟩
            repeat' first | ((first | refine Br.dec ?_ ?_ | refine Br.eqi ?_ ?_) <;> intro h <;> try (exfalso; omega)) | (simp (disch := first | omega | (simp only [vlen]; first | done | omega)) only [↓vAq, vBq, ↓reduceIte, Nat.reduceBEq, Nat.reduceEqDiff, Nat.reduceLT, Nat.reduceLeDiff, Nat.reduceAdd, Nat.reduceMul, Nat.reduceSub, reduceCtorEq, Int.reduceToNat]) | (refine Br.mk ?_ ?_ <;> intro h) | (refine BrN.mk (fun h => ?_) ?_) | (refine AltVC.mk ?_ ?_)
            · have hm : g.rules.getD i default ∈ g.rules := getD_mem' (by omega)
              refine CallVC.eq (gWithin_spec _ _ _) ?_
              repeat' first | ((first | refine Br.dec ?_ ?_ | refine Br.eqi ?_ ?_) <;> intro h <;> try (exfalso; omega)) | (simp (disch := first | omega | (simp only [vlen]; first | done | omega)) only [↓vAq, vBq, ↓reduceIte, Nat.reduceBEq, Nat.reduceEqDiff, Nat.reduceLT, Nat.reduceLeDiff, Nat.reduceAdd, Nat.reduceMul, Nat.reduceSub, reduceCtorEq, Int.reduceToNat]) | (refine Br.mk ?_ ?_ <;> intro h) | (refine BrN.mk (fun h => ?_) ?_) | (refine AltVC.mk ?_ ?_)
              · refine CallVC.eq (isSigns_spec g (by omega) (by omega) _ (hq _ hm)) ?_
                repeat' first | ((first | refine Br.dec ?_ ?_ | refine Br.eqi ?_ ?_) <;> intro h <;> try (exfalso; omega)) | (simp (disch := first | omega | (simp only [vlen]; first | done | omega)) only [↓vAq, vBq, ↓reduceIte, Nat.reduceBEq, Nat.reduceEqDiff, Nat.reduceLT, Nat.reduceLeDiff, Nat.reduceAdd, Nat.reduceMul, Nat.reduceSub, reduceCtorEq, Int.reduceToNat]) | (refine Br.mk ?_ ?_ <;> intro h) | (refine BrN.mk (fun h => ?_) ?_) | (refine AltVC.mk ?_ ?_)
                · have e : isSigns g (g.rules.getD i default).right = true := by assumption
                  refine loopK.mk (i + 1) (by simp (disch := first | omega | (simp only [vlen]; first | done | omega)) only [↓vAq, vBq, ↓reduceIte, Nat.reduceBEq, Nat.reduceEqDiff, Nat.reduceLT, Nat.reduceLeDiff, Nat.reduceAdd, Nat.reduceMul, Nat.reduceSub, reduceCtorEq, Int.reduceToNat]) ⟨by omega, fun j hj => ?_⟩ (by omega) ?_
                  · by_cases e2 : j = i
                    · subst e2; rw [badRule, e, decide_eq_true (by omega)]; rfl
                    · exact hb j (by omega)
                  · (simp (disch := first | omega | (simp only [vlen]; first | done | omega)) only [Fits_u, Fits_m, Fits_nil, List.length_append, ↓vAq, vBq, ↓reduceIte, Nat.reduceBEq, Nat.reduceEqDiff, Nat.reduceLT, Nat.reduceLeDiff, Nat.reduceAdd, Nat.reduceMul, Nat.reduceSub, reduceCtorEq, Int.reduceToNat] <;> (repeat' first | rfl | apply And.intro))
                · have e : isSigns g (g.rules.getD i default).right = false := by assumption
                  exact fin_mk (by rw [gcode_b, if_neg (by omega), if_neg (by rw [h4]; simp), if_neg (by omega), if_pos (any_hit (i := i) (by omega) (by rw [badRule, e]; simp))])
              · exact fin_mk (by rw [gcode_b, if_neg (by omega), if_neg (by rw [h4]; simp), if_neg (by omega), if_pos (any_hit (i := i) (by omega) (by rw [badRule, decide_eq_false (by omega)]; rfl))])
            · exact fin_mk (by rw [gcode_b, if_neg (by omega), if_neg (by rw [h4]; simp), if_neg (by omega), if_neg (by rw [any_none (i := i) (by omega) hb]; simp)])
        · exact fin_mk (by rw [gcode, if_neg (by omega), if_neg (by rw [h4]; simp), if_pos (by omega)])
    · exact fin_mk (by rw [r1 (by omega)])
  · exact fin_mk (by rw [r1 (by omega)])
theorem all_hit {α : Type} [Inhabited α] {p : α → Bool} {l : List α} {i : Nat} (hi : i < l.length) (h : p (l.getD i default) = false) : l.all p = false :=
  List.all_eq_false.2 ⟨_, getD_mem' hi, by rw [h]; simp⟩
theorem all_none {α : Type} [Inhabited α] {p : α → Bool} {l : List α} {i : Nat} (hi : l.length ≤ i) (hn : ∀ j, j < i → p (l.getD j default) = true) : l.all p = true := by
  rw [List.all_eq_true]
  intro x hx
  obtain ⟨j, hj, e⟩ := mem_getD hx
  rw [← e, hn j (by omega)]
theorem succ_all {p : Nat → Prop} {i : Nat} (h : ∀ j, j < i → p j) (hi : p i) : ∀ j, j < i + 1 → p j := fun j hj => by
  by_cases e : j = i
  · rw [e]; exact hi
  · exact h j (by omega)
set_option maxRecDepth 10000 in
set_option maxHeartbeats 4000000 in
theorem signs_spec (g : Grammar) (hk : 0 ≤ g.k ∧ g.k ≤ 1000) (hn : 0 ≤ g.n ∧ g.n ≤ 1000) (l : List Int) (hl : l.length ≤ 9223372036854775807) : Dm.Spec Try.prog 25 [.ag (graD g), .sl 1 (i64s l)] (· = .v (.bool (isSigns g l))) := by
  refine spec_of_vc mixed Try.func25 c25 (by rw [show Try.f25.ntmps = _ from Try.ntmps25]; simp) ?_
  unfold m25 r25
  repeat' first | ((first | refine Br.dec ?_ ?_ | refine Br.eqi ?_ ?_) <;> intro h <;> try (exfalso; omega)) | (simp (disch := first | omega | (simp only [vlen]; first | done | omega)) only [↓vAq, vBq, ↓reduceIte, Nat.reduceBEq, Nat.reduceEqDiff, Nat.reduceLT, Nat.reduceLeDiff, Nat.reduceAdd, Nat.reduceMul, Nat.reduceSub, reduceCtorEq, Int.reduceToNat]) | (refine Br.mk ?_ ?_ <;> intro h) | (refine BrN.mk (fun h => ?_) ?_) | (refine AltVC.mk ?_ ?_)
  refine LoopVC.mk (X := Nat) (fun i => [(9, iv .i64 i)]) (fun _ => [(0, ⟨4, [[iv .i64 g.k, iv .i64 g.n, iv .i64 g.start, .sl 2 (tbl rulD g.rules)]], true, false, .fix⟩)]) (fun i => l.length - i) (fun i => i ≤ l.length ∧ ∀ j, j < i → isSign g (l.getD j 0) = true) 0 ⟨by omega, by omega⟩ ?_ ?_
  · (simp (disch := first | omega | (simp only [vlen]; first | done | omega)) only [Fits_u, Fits_m, Fits_nil, List.length_append, ↓vAq, vBq, ↓reduceIte, Nat.reduceBEq, Nat.reduceEqDiff, Nat.reduceLT, Nat.reduceLeDiff, Nat.reduceAdd, Nat.reduceMul, Nat.reduceSub, reduceCtorEq, Int.reduceToNat] <;> (repeat' first | rfl | apply And.intro))
  · rintro i ⟨hi, hb⟩
    repeat' first | ((first | refine Br.dec ?_ ?_ | refine Br.eqi ?_ ?_) <;> intro h <;> try (exfalso; omega)) | (simp (disch := first | omega | (simp only [vlen]; first | done | omega)) only [↓vAq, vBq, ↓reduceIte, Nat.reduceBEq, Nat.reduceEqDiff, Nat.reduceLT, Nat.reduceLeDiff, Nat.reduceAdd, Nat.reduceMul, Nat.reduceSub, reduceCtorEq, Int.reduceToNat]) | (refine Br.mk ?_ ?_ <;> intro h) | (refine BrN.mk (fun h => ?_) ?_) | (refine AltVC.mk ?_ ?_)
    · exact fin_mk (vbEq (all_hit (p := isSign g) (l := l) (i := i) (by omega) (decide_eq_false (by show ¬ (0 ≤ l.getD i 0 ∧ l.getD i 0 < g.k + g.n); omega))).symm)
    · exact fin_mk (vbEq (all_hit (p := isSign g) (l := l) (i := i) (by omega) (decide_eq_false (by show ¬ (0 ≤ l.getD i 0 ∧ l.getD i 0 < g.k + g.n); omega))).symm)
    · refine loopK.mk (i + 1) (by simp (disch := first | omega | (simp only [vlen]; first | done | omega)) only [↓vAq, vBq, ↓reduceIte, Nat.reduceBEq, Nat.reduceEqDiff, Nat.reduceLT, Nat.reduceLeDiff, Nat.reduceAdd, Nat.reduceMul, Nat.reduceSub, reduceCtorEq, Int.reduceToNat]) ⟨by omega, succ_all hb (decide_eq_true (by omega))⟩ (by omega) (by (simp (disch := first | omega | (simp only [vlen]; first | done | omega)) only [Fits_u, Fits_m, Fits_nil, List.length_append, ↓vAq, vBq, ↓reduceIte, Nat.reduceBEq, Nat.reduceEqDiff, Nat.reduceLT, Nat.reduceLeDiff, Nat.reduceAdd, Nat.reduceMul, Nat.reduceSub, reduceCtorEq, Int.reduceToNat] <;> (repeat' first | rfl | apply And.intro)))
    · exact fin_mk (vbEq (all_none (i := i) (by omega) hb).symm)
set_option maxRecDepth 10000 in
set_option maxHeartbeats 4000000 in
theorem refGCheck_spec (g : Grammar) (hg : g.ok) : Dm.Spec Try.prog 13 [.ag (graD g)] (· = iv .i64 (gcode g)) := by
  refine spec_of_vc mixed Try.func13 c13 (by rw [show Try.f13.ntmps = _ from Try.ntmps13]; simp) ?_
  unfold m13 r13
  have hr : g.rules.length ≤ 9223372036854775807 := maxLen_le hg.2.2.2.1
  have hk : -9223372036854775808 ≤ g.k ∧ g.k ≤ 9223372036854775807 := hg.1
  have hn : -9223372036854775808 ≤ g.n ∧ g.n ≤ 9223372036854775807 := hg.2.1
  have hq : ∀ r, r ∈ g.rules → r.right.length ≤ 9223372036854775807 := fun r h => maxLen_le (hg.2.2.2.2 r h).2.1
  have r1 : ¬ (1 ≤ g.k ∧ g.k ≤ 3) ∨ ¬ (1 ≤ g.n ∧ g.n ≤ 5) ∨ 10 < g.rules.length → gcode g = 1 := fun h => by rw [gcode, if_pos h]
  repeat' first | ((first | refine Br.dec ?_ ?_ | refine Br.eqi ?_ ?_) <;> intro h <;> try (exfalso; omega)) | (simp (disch := first | omega | (simp only [vlen]; first | done | omega)) only [↓vAq, vBq, ↓reduceIte, Nat.reduceBEq, Nat.reduceEqDiff, Nat.reduceLT, Nat.reduceLeDiff, Nat.reduceAdd, Nat.reduceMul, Nat.reduceSub, reduceCtorEq, Int.reduceToNat]) | (refine Br.mk ?_ ?_ <;> intro h) | (refine BrN.mk (fun h => ?_) ?_) | (refine AltVC.mk ?_ ?_)
  all_goals first | exact fin_mk (by rw [r1 (by omega)]) | skip
  refine LoopVC.mk (X := Nat) (fun i => [(34, iv .i64 i)]) (fun _ => [(0, ⟨4, [[iv .i64 g.k, iv .i64 g.n, iv .i64 g.start, .sl 2 (tbl rulD g.rules)]], true, false, .fix⟩)]) (fun i => g.rules.length - i) (fun i => i ≤ g.rules.length ∧ ∀ j, j < i → decide (4 < (g.rules.getD j default).right.length) = false) 0 ⟨by omega, by omega⟩ ?_ ?_
  · (simp (disch := first | omega | (simp only [vlen]; first | done | omega)) only [Fits_u, Fits_m, Fits_nil, List.length_append, ↓vAq, vBq, ↓reduceIte, Nat.reduceBEq, Nat.reduceEqDiff, Nat.reduceLT, Nat.reduceLeDiff, Nat.reduceAdd, Nat.reduceMul, Nat.reduceSub, reduceCtorEq, Int.reduceToNat] <;> (repeat' first | rfl | apply And.intro))
  · rintro i ⟨hi, hb⟩
    repeat' first | ((first | refine Br.dec ?_ ?_ | refine Br.eqi ?_ ?_) <;> intro h <;> try (exfalso; omega)) | (simp (disch := first | omega | (simp only [vlen]; first | done | omega)) only [↓vAq, vBq, ↓reduceIte, Nat.reduceBEq, Nat.reduceEqDiff, Nat.reduceLT, Nat.reduceLeDiff, Nat.reduceAdd, Nat.reduceMul, Nat.reduceSub, reduceCtorEq, Int.reduceToNat]) | (refine Br.mk ?_ ?_ <;> intro h) | (refine BrN.mk (fun h => ?_) ?_) | (refine AltVC.mk ?_ ?_)
    · exact fin_mk (by rw [gcode, if_neg (by omega), if_pos (any_hit (p := fun r : Rule => decide (4 < r.right.length)) (l := g.rules) (i := i) (by omega) (decide_eq_true (by omega)))])
    · refine loopK.mk (i + 1) (by simp (disch := first | omega | (simp only [vlen]; first | done | omega)) only [↓vAq, vBq, ↓reduceIte, Nat.reduceBEq, Nat.reduceEqDiff, Nat.reduceLT, Nat.reduceLeDiff, Nat.reduceAdd, Nat.reduceMul, Nat.reduceSub, reduceCtorEq, Int.reduceToNat]) ⟨by omega, succ_all hb (decide_eq_false (by omega))⟩ (by omega) (by (simp (disch := first | omega | (simp only [vlen]; first | done | omega)) only [Fits_u, Fits_m, Fits_nil, List.length_append, ↓vAq, vBq, ↓reduceIte, Nat.reduceBEq, Nat.reduceEqDiff, Nat.reduceLT, Nat.reduceLeDiff, Nat.reduceAdd, Nat.reduceMul, Nat.reduceSub, reduceCtorEq, Int.reduceToNat] <;> (repeat' first | rfl | apply And.intro)))
    · exact fin_mk (by rw [gcode, if_neg (by omega), if_neg (by rw [any_none (i := i) (by omega) hb]; simp), if_pos (by omega)])
    · exact fin_mk (by rw [gcode, if_neg (by omega), if_neg (by rw [any_none (i := i) (by omega) hb]; simp), if_pos (by omega)])
    · have h4 := any_none (p := fun r : Rule => decide (4 < r.right.length)) (i := i) (l := g.rules) (by omega) hb
      refine LoopVC.mk (X := Nat) (fun i => [(56, iv .i64 i)]) (fun _ => [(0, ⟨4, [[iv .i64 g.k, iv .i64 g.n, iv .i64 g.start, .sl 2 (tbl rulD g.rules)]], true, false, .fix⟩)]) (fun i => g.rules.length - i) (fun i => i ≤ g.rules.length ∧ ∀ j, j < i → badRule g (g.rules.getD j default) = false) 0 ⟨by omega, by omega⟩ ?_ ?_
      · (simp (disch := first | omega | (simp only [vlen]; first | done | omega)) only [Fits_u, Fits_m, Fits_nil, List.length_append, ↓vAq, vBq, ↓reduceIte, Nat.reduceBEq, Nat.reduceEqDiff, Nat.reduceLT, Nat.reduceLeDiff, Nat.reduceAdd, Nat.reduceMul, Nat.reduceSub, reduceCtorEq, Int.reduceToNat] <;> (repeat' first | rfl | apply And.intro))
      · rintro k ⟨hk1, hb1⟩
        repeat' first | ((first | refine Br.dec ?_ ?_ | refine Br.eqi ?_ ?_) <;> intro h <;> try (exfalso; omega)) | (simp (disch := first | omega | (simp only [vlen]; first | done | omega)) only [↓vAq, vBq, ↓reduceIte, Nat.reduceBEq, Nat.reduceEqDiff, Nat.reduceLT, Nat.reduceLeDiff, Nat.reduceAdd, Nat.reduceMul, Nat.reduceSub, reduceCtorEq, Int.reduceToNat]) | (refine Br.mk ?_ ?_ <;> intro h) | (refine BrN.mk (fun h => ?_) ?_) | (refine AltVC.mk ?_ ?_)
        · exact fin_mk (by rw [gcode_b, if_neg (by omega), if_neg (by rw [h4]; simp), if_neg (by omega), if_pos (any_hit (i := k) (by omega) (by rw [badRule, decide_eq_false (by omega)]; rfl))])
        · exact fin_mk (by rw [gcode_b, if_neg (by omega), if_neg (by rw [h4]; simp), if_neg (by omega), if_pos (any_hit (i := k) (by omega) (by rw [badRule, decide_eq_false (by omega)]; rfl))])
        · have hm : g.rules.getD k default ∈ g.rules := getD_mem' (by omega)
          refine CallVC.eq (signs_spec g (by omega) (by omega) _ (hq _ hm)) ?_
          repeat' first | ((first | refine Br.dec ?_ ?_ | refine Br.eqi ?_ ?_) <;> intro h <;> try (exfalso; omega)) | (simp (disch := first | omega | (simp only [vlen]; first | done | omega)) only [↓vAq, vBq, ↓reduceIte, Nat.reduceBEq, Nat.reduceEqDiff, Nat.reduceLT, Nat.reduceLeDiff, Nat.reduceAdd, Nat.reduceMul, Nat.reduceSub, reduceCtorEq, Int.reduceToNat]) | (refine Br.mk ?_ ?_ <;> intro h) | (refine BrN.mk (fun h => ?_) ?_) | (refine AltVC.mk ?_ ?_)
          · have e : isSigns g (g.rules.getD k default).right = true := by assumption
            refine loopK.mk (k + 1) (by simp (disch := first | omega | (simp only [vlen]; first | done | omega)) only [↓vAq, vBq, ↓reduceIte, Nat.reduceBEq, Nat.reduceEqDiff, Nat.reduceLT, Nat.reduceLeDiff, Nat.reduceAdd, Nat.reduceMul, Nat.reduceSub, reduceCtorEq, Int.reduceToNat]) ⟨by omega, succ_all hb1 (by rw [badRule, e, decide_eq_true (by omega)]; rfl)⟩ (by omega) (by (simp (disch := first | omega | (simp only [vlen]; first | done | omega)) only [Fits_u, Fits_m, Fits_nil, List.length_append, ↓vAq, vBq, ↓reduceIte, Nat.reduceBEq, Nat.reduceEqDiff, Nat.reduceLT, Nat.reduceLeDiff, Nat.reduceAdd, Nat.reduceMul, Nat.reduceSub, reduceCtorEq, Int.reduceToNat] <;> (repeat' first | rfl | apply And.intro)))
          · have e : isSigns g (g.rules.getD k default).right = false := by assumption
            exact fin_mk (by rw [gcode_b, if_neg (by omega), if_neg (by rw [h4]; simp), if_neg (by omega), if_pos (any_hit (i := k) (by omega) (by rw [badRule, e]; simp))])
        · exact fin_mk (by rw [gcode_b, if_neg (by omega), if_neg (by rw [h4]; simp), if_neg (by omega), if_neg (by rw [any_none (i := k) (by omega) hb1]; simp)])
end Go.Proofs.Ytplkkacfjepgpaa

namespace Go.Proofs.Ytplkkacfjepgpaa
open Go.Dm
set_option linter.unusedSimpArgs false
set_option linter.unnecessarySimpa false
set_option linter.unusedVariables false
theorem and_one (n : Nat) : n &&& 1 = n % 2 := by
  have := Nat.and_two_pow_sub_one_eq_mod n 1
  simpa using this
theorem bit_eq {S n : Nat} : decide ((((S >>> n) &&& 1 : Nat) : Int) = 1) = S.testBit n := by
  rw [and_one, Nat.testBit_eq_decide_div_mod_eq, Nat.shiftRight_eq_div_pow]
  exact dec_iff (by omega)
theorem or_two_lt {S l n : Nat} (hS : S < 2 ^ n) (hl : l < n) : S ||| 2 ^ l < 2 ^ n := Nat.or_lt_two_pow hS (Nat.pow_lt_pow_right (by omega) hl)
theorem le_or {S T : Nat} : S ≤ S ||| T := Nat.left_le_or
theorem or_bit {S l x : Nat} : (S ||| 2 ^ l).testBit x = (S.testBit x || decide (x = l)) := by
  rw [Nat.testBit_or]
  by_cases e : x = l
  · subst e; rw [Nat.testBit_two_pow_self]; simp
  · rw [Nat.testBit_two_pow_of_ne (by omega)]; simp [e]
theorem shrN {S n : Nat} (hn : n ≤ 32) : ((S : Nat) : Int).fdiv (2 ^ (min n IntKind.u32.bits)) = ((S >>> n : Nat) : Int) := by
  have e : min n IntKind.u32.bits = n := Nat.min_eq_left (by show n ≤ 32; omega)
  rw [e, Int.fdiv_eq_ediv_of_nonneg _ (Int.le_of_lt (Int.pow_pos (by omega))), Nat.shiftRight_eq_div_pow, Int.natCast_ediv]
  congr 1
theorem andN {S T : Nat} (hS : (S : Int) ≤ 4294967295) (hT : (T : Int) ≤ 4294967295) : IntKind.u32.wrap ((BitVec.ofInt IntKind.u32.bits (S : Int) &&& BitVec.ofInt IntKind.u32.bits (T : Int)).toNat : Int) = ((S &&& T : Nat) : Int) := by
  rw [and32 (by omega) (by omega), Int.toNat_natCast, Int.toNat_natCast]
theorem orN {S T : Nat} (hS : (S : Int) ≤ 4294967295) (hT : (T : Int) ≤ 4294967295) : IntKind.u32.wrap ((BitVec.ofInt IntKind.u32.bits (S : Int) ||| BitVec.ofInt IntKind.u32.bits (T : Int)).toNat : Int) = ((S ||| T : Nat) : Int) := by
  rw [or32 (by omega) (by omega), Int.toNat_natCast, Int.toNat_natCast]
theorem shlN {n : Nat} (hn : n ≤ 31) : IntKind.u32.wrap (1 * 2 ^ (min n IntKind.u32.bits)) = ((2 ^ n : Nat) : Int) := by
  have := shl32_1 (n := n) (by omega)
  rwa [Int.toNat_natCast] at this
theorem shr_le {S n : Nat} : S >>> n ≤ S := by rw [Nat.shiftRight_eq_div_pow]; exact Nat.div_le_self _ _
theorem pow_le31 {n : Nat} (hn : n ≤ 31) : ((2 ^ n : Nat) : Int) ≤ 2147483648 := by
  have h : 2 ^ n ≤ 2 ^ 31 := Nat.pow_le_pow_right (by omega) hn
  omega
set_option maxRecDepth 10000 in
set_option maxHeartbeats 4000000 in
theorem has_spec (S n : Nat) (hS : (S : Int) ≤ 4294967295) (hn : n ≤ 31) : Dm.Spec Try.prog 29 [iv .u32 S, iv .i64 n] (· = .v (.bool (S.testBit n))) := by
  refine spec_of_vc mixed Try.func29 c29 (by rw [show Try.f29.ntmps = _ from Try.ntmps29]; simp) ?_
  unfold m29 r29
  repeat' first | ((first | refine Br.dec ?_ ?_ | refine Br.eqi ?_ ?_) <;> intro h <;> try (exfalso; omega)) | (simp (disch := first | omega | (simp only [vlen]; first | done | omega)) only [↓vAq, vBq, ↓reduceIte, Nat.reduceBEq, Nat.reduceEqDiff, Nat.reduceLT, Nat.reduceLeDiff, Nat.reduceAdd, Nat.reduceMul, Nat.reduceSub, reduceCtorEq, Int.reduceToNat]) | (refine Br.mk ?_ ?_ <;> intro h) | (refine BrN.mk (fun h => ?_) ?_) | (refine AltVC.mk ?_ ?_)
  refine fin_mk (vbEq ?_)
  have := @shr_le S n
  rw [shrN (by omega), show (1 : Int) = ((1 : Nat) : Int) from rfl, andN (by omega) (by omega), ← bit_eq]
  rfl
end Go.Proofs.Ytplkkacfjepgpaa

namespace Go.Proofs.Ytplkkacfjepgpaa
open Go.Dm
set_option linter.unusedSimpArgs false
set_option linter.unnecessarySimpa false
set_option linter.unusedVariables false
def mkS (g : Grammar) (void : Bool) : Nat → Int → Bool
  | 0, x => decide (x < g.k) && !void
  | d + 1, x => if x < g.k then !void else g.rules.any fun r => decide (r.left = x - g.k) && r.right.all fun y => mkS g void d y
theorem mkS_sym {g : Grammar} {void : Bool} {d : Nat} {x : Int} (h : x < g.k) : mkS g void d x = !void := by
  cases d
  · rw [mkS, decide_eq_true h, Bool.true_and]
  · rw [mkS, if_pos h]
theorem mkS_mono {g : Grammar} {void : Bool} : ∀ {d : Nat} {x : Int}, mkS g void d x = true → mkS g void (d + 1) x = true
  | 0, x, h => by
    rw [mkS, Bool.and_eq_true, decide_eq_true_eq] at h
    rw [mkS_sym h.1]; exact h.2
  | d + 1, x, h => by
    rw [mkS] at h ⊢
    split
    · next hx => rw [if_pos hx] at h; exact h
    · next hx =>
      rw [if_neg hx] at h
      simp only [List.any_eq_true, Bool.and_eq_true, List.all_eq_true] at h ⊢
      obtain ⟨r, hr, h1, h2⟩ := h
      exact ⟨r, hr, h1, fun y hy => mkS_mono (h2 y hy)⟩
def mkN (g : Grammar) (void : Bool) (d i : Nat) : Bool := mkS g void d (g.k + i)
def allOf (g : Grammar) (symbols : Bool) (S : Nat → Bool) (l : List Int) : Bool := l.all fun y => if y < g.k then symbols else S (y - g.k).toNat
theorem mkN_succ {g : Grammar} {void : Bool} {d i : Nat} : mkN g void (d + 1) i = g.rules.any fun r => decide (r.left = (i : Int)) && allOf g (!void) (mkN g void d) r.right := by
  unfold mkN
  rw [mkS, if_neg (by omega)]
  congr 1
  funext r
  rw [show g.k + (i : Int) - g.k = i by omega]
  congr 1
  unfold allOf
  congr 1
  funext y
  split
  · next h => exact mkS_sym h
  · next h =>
    show _ = mkS g void d (g.k + ((y - g.k).toNat : Int))
    rw [show g.k + ((y - g.k).toNat : Int) = y by omega]
theorem mkN_zero {g : Grammar} {void : Bool} {i : Nat} : mkN g void 0 i = false := by
  unfold mkN
  rw [mkS, decide_eq_false (by omega)]; rfl
theorem mkN_mono {g : Grammar} {void : Bool} {d i : Nat} (h : mkN g void d i = true) : mkN g void (d + 1) i = true := mkS_mono h
theorem mkN_le {g : Grammar} {void : Bool} {d e i : Nat} (he : d ≤ e) (h : mkN g void d i = true) : mkN g void e i = true := by
  obtain ⟨c, rfl⟩ := Nat.exists_eq_add_of_le he
  induction c with
  | zero => exact h
  | succ c ih => exact mkN_mono (ih (by omega))
structure Valid (g : Grammar) : Prop where
  k : 1 ≤ g.k ∧ g.k ≤ 3
  n : 1 ≤ g.n ∧ g.n ≤ 5
  start : 0 ≤ g.start ∧ g.start < g.n
  len : g.rules.length ≤ 10
  left : ∀ r, r ∈ g.rules → 0 ≤ r.left ∧ r.left < g.n
  long : ∀ r, r ∈ g.rules → r.right.length ≤ 4
  right : ∀ r, r ∈ g.rules → ∀ y, y ∈ r.right → 0 ≤ y ∧ y < g.k + g.n
theorem valid_of {g : Grammar} (h : gcode g = 0) : Valid g := by
  rw [gcode_b] at h
  split at h
  · omega
  · next h1 =>
    split at h
    · omega
    · next h2 =>
      split at h
      · omega
      · next h3 =>
        split at h
        · omega
        · next h4 =>
          have hr : ∀ r, r ∈ g.rules → badRule g r = false := fun r hm => by
            cases hb : badRule g r
            · rfl
            · exact absurd (List.any_eq_true.2 ⟨r, hm, hb⟩) h4
          have hs : ∀ r, r ∈ g.rules → (0 ≤ r.left ∧ r.left < g.n) ∧ isSigns g r.right = true := fun r hm => by
            have := hr r hm
            simpa [badRule] using this
          refine ⟨by omega, by omega, by omega, by omega, fun r hm => (hs r hm).1, fun r hm => ?_, fun r hm y hy => ?_⟩
          · have : ¬ (4 < r.right.length) := fun hl => h2 (List.any_eq_true.2 ⟨r, hm, decide_eq_true hl⟩)
            omega
          · have := List.all_eq_true.1 (hs r hm).2 y hy
            exact of_decide_eq_true this
set_option maxRecDepth 10000 in
set_option maxHeartbeats 4000000 in
theorem allOf1_spec (g : Grammar) (hk : 0 ≤ g.k ∧ g.k ≤ 1000) (S : Nat) (hS : (S : Int) ≤ 4294967295) (b : Bool) (y : Int) (hy : -1000 ≤ y ∧ y < g.k + 32) : Dm.Spec Try.prog 61 [iv .i64 y, .ip (graD g) 0, .ip [.v (.bool b)] 0, .ip [iv .u32 S] 0] (· = .v (.bool (!(if y < g.k then b else S.testBit (y - g.k).toNat)))) := by
  refine spec_of_vc mixed Try.func61 c61 (by rw [show Try.f61.ntmps = _ from Try.ntmps61]; simp) ?_
  unfold m61 r61
  repeat' first | ((first | refine Br.dec ?_ ?_ | refine Br.eqi ?_ ?_) <;> intro h <;> try (exfalso; omega)) | (simp (disch := first | omega | (simp only [vlen]; first | done | omega)) only [↓vAq, vBq, ↓reduceIte, Nat.reduceBEq, Nat.reduceEqDiff, Nat.reduceLT, Nat.reduceLeDiff, Nat.reduceAdd, Nat.reduceMul, Nat.reduceSub, reduceCtorEq, Int.reduceToNat]) | (refine Br.mk ?_ ?_ <;> intro h) | (refine BrN.mk (fun h => ?_) ?_) | (refine AltVC.mk ?_ ?_)
  · exact fin_mk (by rw [if_pos (by assumption)])
  · have e : y - g.k = ((y - g.k).toNat : Int) := by omega
    rw [e]
    refine CallVC.eq (has_spec S _ hS (by omega)) ?_
    repeat' first | ((first | refine Br.dec ?_ ?_ | refine Br.eqi ?_ ?_) <;> intro h <;> try (exfalso; omega)) | (simp (disch := first | omega | (simp only [vlen]; first | done | omega)) only [↓vAq, vBq, ↓reduceIte, Nat.reduceBEq, Nat.reduceEqDiff, Nat.reduceLT, Nat.reduceLeDiff, Nat.reduceAdd, Nat.reduceMul, Nat.reduceSub, reduceCtorEq, Int.reduceToNat]) | (refine Br.mk ?_ ?_ <;> intro h) | (refine BrN.mk (fun h => ?_) ?_) | (refine AltVC.mk ?_ ?_)
    exact fin_mk (by rw [if_neg (by assumption)])
set_option maxRecDepth 10000 in
set_option maxHeartbeats 4000000 in
theorem allOf_spec (g : Grammar) (hk : 0 ≤ g.k ∧ g.k ≤ 1000) (l : List Int) (hl : l.length ≤ 9223372036854775807) (S : Nat) (hS : (S : Int) ≤ 4294967295) (b : Bool) (hy : ∀ y, y ∈ l → -1000 ≤ y ∧ y < g.k + 32) : Dm.Spec Try.prog 30 [.ag (graD g), .sl 1 (i64s l), iv .u32 S, .v (.bool b)] (· = .v (.bool (allOf g b S.testBit l))) := by
  refine spec_of_vc mixed Try.func30 c30 (by rw [show Try.f30.ntmps = _ from Try.ntmps30]; simp) ?_
  unfold m30 r30
  repeat' first | ((first | refine Br.dec ?_ ?_ | refine Br.eqi ?_ ?_) <;> intro h <;> try (exfalso; omega)) | (simp (disch := first | omega | (simp only [vlen]; first | done | omega)) only [↓vAq, vBq, ↓reduceIte, Nat.reduceBEq, Nat.reduceEqDiff, Nat.reduceLT, Nat.reduceLeDiff, Nat.reduceAdd, Nat.reduceMul, Nat.reduceSub, reduceCtorEq, Int.reduceToNat]) | (refine Br.mk ?_ ?_ <;> intro h) | (refine BrN.mk (fun h => ?_) ?_) | (refine AltVC.mk ?_ ?_)
  refine CallVC.eqo (conF_int l (fun y => !(if y < g.k then b else S.testBit (y - g.k).toNat)) _ [.ip (graD g) 0, .ip [.v (.bool b)] 0, .ip [iv .u32 S] 0] hl (by simp (disch := first | omega | (simp only [vlen]; first | done | omega)) only [↓vAq, vBq, ↓reduceIte, Nat.reduceBEq, Nat.reduceEqDiff, Nat.reduceLT, Nat.reduceLeDiff, Nat.reduceAdd, Nat.reduceMul, Nat.reduceSub, reduceCtorEq, Int.reduceToNat]) fun a ha => allOf1_spec g hk S hS b a (hy a ha)) (by simp (disch := first | omega | (simp only [vlen]; first | done | omega)) only [↓vAq, vBq, ↓reduceIte, Nat.reduceBEq, Nat.reduceEqDiff, Nat.reduceLT, Nat.reduceLeDiff, Nat.reduceAdd, Nat.reduceMul, Nat.reduceSub, reduceCtorEq, Int.reduceToNat]) ?_
  repeat' first | ((first | refine Br.dec ?_ ?_ | refine Br.eqi ?_ ?_) <;> intro h <;> try (exfalso; omega)) | (simp (disch := first | omega | (simp only [vlen]; first | done | omega)) only [↓vAq, vBq, ↓reduceIte, Nat.reduceBEq, Nat.reduceEqDiff, Nat.reduceLT, Nat.reduceLeDiff, Nat.reduceAdd, Nat.reduceMul, Nat.reduceSub, reduceCtorEq, Int.reduceToNat]) | (refine Br.mk ?_ ?_ <;> intro h) | (refine BrN.mk (fun h => ?_) ?_) | (refine AltVC.mk ?_ ?_)
  exact fin_mk (vbEq all_not')
end Go.Proofs.Ytplkkacfjepgpaa

namespace Go.Dm
set_option linter.unusedSimpArgs false
set_option linter.defProp false
theorem kBldS_ii {cells : List D} {off : Nat} {k k' : IntKind} {a b : Int} {go : List D → Prop} : kBldS off 2 cells go [.v (.int k a), .v (.int k' b)] = ChkD (off + 2 ≤ cells.length) (splice cells off [.v (.int k a), .v (.int k' b)]) go := by
  rw [kBldS_n]; unfold ChkD; simp [D.one, Value.one]
theorem kBldS_is {cells : List D} {off : Nat} {k : IntKind} {a : Int} {sz : Nat} {es : List (List D)} {go : List D → Prop} : kBldS off 2 cells go [.v (.int k a), .sl sz es] = ChkD (off + 2 ≤ cells.length) (splice cells off [.v (.int k a), .sl sz es]) go := by
  rw [kBldS_n]; unfold ChkD; simp [D.one, Value.one]
theorem kBldS_iiis {cells : List D} {off : Nat} {k k' k'' : IntKind} {a b c : Int} {sz : Nat} {es : List (List D)} {go : List D → Prop} : kBldS off 4 cells go [.v (.int k a), .v (.int k' b), .v (.int k'' c), .sl sz es] = ChkD (off + 4 ≤ cells.length) (splice cells off [.v (.int k a), .v (.int k' b), .v (.int k'' c), .sl sz es]) go := by
  rw [kBldS_n]; unfold ChkD; simp [D.one, Value.one]
section
variable {P : Program} {s : S}
theorem fold_kill {σ τ i o : Nat} {fl : Bool} {K : S → Prop} (h : kFold σ τ i o fl K s) : ∃ s', Gho s (D.kill σ) s' ∧ K s' := by
  unfold kFold kM at h
  split at h
  · next ob hM =>
    unfold kFoldA kM at h
    split at h
    · next ob' hM' =>
      obtain ⟨⟨h1, h1', h2, h3, h4, h6, h7⟩, hk⟩ := h
      unfold kFoldC at hk
      split at hk
      · next υ sz off n hc =>
        obtain ⟨rfl, rfl, rfl, k4, k5, h5, k6⟩ := hk
        exact ⟨_, .fold s υ τ i o n fl ob ob' ⟨h1, h1'⟩ hM hM' h2 h3 h4 h5 h6 h7 hc k4 k5, k6⟩
      · next υ hc =>
        obtain ⟨rfl, k1, k2, k5, k6⟩ := hk
        exact ⟨_, .foldm s υ τ i o fl ob ob' ⟨h1, h1'⟩ hM hM' h2 h3 h4 k1 k2 h6 h7 hc k5, k6⟩
      · exact hk.elim
    · exact h.elim
  · exact h.elim
def callFd (P : Program) (f : FuncId) (d : Option Nat) (K : S → Prop) (σ : Nat) (raws : List D) (s' : S) : Prop := CallVC P f d K (raws.map (D.kill σ)) s'
theorem callFd_eq {f : FuncId} {d : Option Nat} {K : S → Prop} {σ : Nat} {raws : List D} : callFd P f d K σ raws s = kD (raws.map (D.kill σ)) (kCallw P f d K s) := (rfl)
theorem nlo_id {τ i o z : Nat} {K : S → Prop} (h : kNlo τ i o z K s) : ∃ s', Gho s (fun d => d) s' ∧ K s' := by
  unfold kNlo kM at h
  split at h
  · next ob hM =>
    obtain ⟨⟨h1, h2, h3, h4⟩, hk⟩ := h
    exact ⟨_, .nlo s τ i o z ob h1 hM h2 h3 h4, hk⟩
  · exact h.elim
def callNd (P : Program) (f : FuncId) (d : Option Nat) (K : S → Prop) (raws : List D) (s' : S) : Prop := CallVC P f d K (raws.map fun d => d) s'
theorem callNd_eq {f : FuncId} {d : Option Nat} {K : S → Prop} {raws : List D} : callNd P f d K raws s = kD raws (kCallw P f d K s) := by
  unfold callNd; rw [List.map_id']; rfl
theorem CallVC.nlo {f : FuncId} {d : Option Nat} {K : S → Prop} {raws views : List D} {own : Bool} (τ i o z : Nat) (h : kNlo τ i o z (callNd P f d K raws) s) : CallV P f views own raws s d K := fun _ _ => by
  obtain ⟨s', hg, hk⟩ := nlo_id h
  exact .ghost raws s _ _ hg hk
theorem CallVC.fold {f : FuncId} {d : Option Nat} {K : S → Prop} {raws views : List D} {own : Bool} (σ τ i o : Nat) (fl : Bool) (h : kFold σ τ i o fl (callFd P f d K σ raws) s) : CallV P f views own raws s d K := fun _ _ => by
  obtain ⟨s', hg, hk⟩ := fold_kill h
  exact .ghost raws s _ _ hg hk
def finHx (n0 : Nat) (R : D → List (Option Ob) → Prop) (d : D) (s' : S) : Prop := FinH n0 R s' d
theorem finHx_eq {n0 : Nat} {R : D → List (Option Ob) → Prop} {d : D} : finHx n0 R d s = FinH n0 R s d := (rfl)
theorem FinH.fold {n0 : Nat} {R : D → List (Option Ob) → Prop} {d : D} (σ τ i o : Nat) (fl : Bool) (hd : d.kill σ = d) (h : kFold σ τ i o fl (finHx n0 R d) s) : FinH n0 R s d := by
  obtain ⟨s', hg, s'', g, l, h1, h2, h3, h4, h5⟩ := fold_kill h
  refine ⟨s'', _, l, .step _ _ _ _ _ hg h1, h2, h3, h4, ?_⟩
  show R ((g (d.kill σ)).trim l.length) l
  rw [hd]; exact h5
end
def vmr := And.intro @callFd_eq <| And.intro @callNd_eq <| And.intro @finHx_eq <| And.intro @kBldS_ii <| And.intro @kBldS_is @kBldS_iiis
end Go.Dm

namespace Go.Dm
set_option linter.unusedSimpArgs false
set_option linter.unusedVariables false
inductive Der (g : Grammar) (w : List Int) : List Int → Nat → Nat → Prop
  | nil {i : Nat} : Der g w [] i i
  | sym {x : Int} {s : List Int} {i j : Nat} (hx : x < g.k) (hi : i < w.length) (hw : w.getD i 0 = x) (h : Der g w s (i + 1) j) : Der g w (x :: s) i j
  | name {x : Int} {s : List Int} {i m j q : Nat} (hx : ¬ x < g.k) (hq : q < g.rules.length) (hl : (g.rules.getD q default).left = x - g.k) (h1 : Der g w (g.rules.getD q default).right i m) (h2 : Der g w s m j) : Der g w (x :: s) i j
theorem Der.le {g : Grammar} {w : List Int} {s : List Int} {i j : Nat} (h : Der g w s i j) : i ≤ j ∧ (i ≤ w.length → j ≤ w.length) := by
  induction h with
  | nil => exact ⟨Nat.le_refl _, fun h => h⟩
  | sym _ hi _ _ ih => exact ⟨by omega, fun _ => ih.2 (by omega)⟩
  | name _ _ _ _ _ ih1 ih2 => exact ⟨by omega, fun h => ih2.2 (ih1.2 h)⟩
theorem Der.app {g : Grammar} {w : List Int} {a b : List Int} {i m j : Nat} (h : Der g w a i m) (k : Der g w b m j) : Der g w (a ++ b) i j := by
  induction h with
  | nil => exact k
  | sym hx hi hw _ ih => exact .sym hx hi hw (ih k)
  | name hx hq hl h1 _ _ ih2 => exact .name hx hq hl h1 (ih2 k)
theorem Der.cons {g : Grammar} {w : List Int} {x : Int} {s : List Int} {i j : Nat} (h : Der g w (x :: s) i j) : ∃ m, Der g w [x] i m ∧ Der g w s m j := by
  cases h with
  | sym hx hi hw h => exact ⟨_, .sym hx hi hw .nil, h⟩
  | name hx hq hl h1 h2 => exact ⟨_, .name hx hq hl h1 .nil, h2⟩
theorem Der.split {g : Grammar} {w : List Int} {b : List Int} : ∀ {a : List Int} {i j : Nat}, Der g w (a ++ b) i j → ∃ m, Der g w a i m ∧ Der g w b m j
  | [], i, j, h => ⟨i, .nil, h⟩
  | x :: a, i, j, h => by
    obtain ⟨m, h1, h2⟩ := Der.cons (s := a ++ b) h
    obtain ⟨m', h3, h4⟩ := Der.split h2
    exact ⟨m', Der.app h1 h3, h4⟩
theorem der_sym {g : Grammar} {w : List Int} {x : Int} {i j : Nat} (hx : x < g.k) : Der g w [x] i j ↔ j = i + 1 ∧ i < w.length ∧ w.getD i 0 = x := by
  constructor
  · intro h
    cases h with
    | sym _ hi hw h => cases h; exact ⟨rfl, hi, hw⟩
    | name h => exact absurd hx h
  · rintro ⟨rfl, hi, hw⟩; exact .sym hx hi hw .nil
theorem der_name {g : Grammar} {w : List Int} {x : Int} {i j : Nat} (hx : ¬ x < g.k) : Der g w [x] i j ↔ ∃ q, q < g.rules.length ∧ (g.rules.getD q default).left = x - g.k ∧ Der g w (g.rules.getD q default).right i j := by
  constructor
  · intro h
    cases h with
    | sym h => exact absurd h hx
    | name _ hq hl h1 h2 => cases h2; exact ⟨_, hq, hl, h1⟩
  · rintro ⟨q, hq, hl, h⟩; exact .name hx hq hl h .nil
def oneB (g : Grammar) (w : List Int) (t : Nat → Nat → Nat → Bool) (x : Int) (i m : Nat) : Bool := if x < g.k then decide (m = i + 1 ∧ i < w.length ∧ w.getD i 0 = x) else t (x - g.k).toNat i m
def ovB (g : Grammar) (w : List Int) (t : Nat → Nat → Nat → Bool) : List Int → Nat → Nat → Bool
  | [], i, j => decide (i = j)
  | x :: s, i, j => (List.range (j + 1)).any fun m => decide (i ≤ m) && oneB g w t x i m && ovB g w t s m j
theorem ovB_cons {g : Grammar} {w : List Int} {t : Nat → Nat → Nat → Bool} {x : Int} {s : List Int} {i j : Nat} : ovB g w t (x :: s) i j = true ↔ ∃ m, i ≤ m ∧ m ≤ j ∧ oneB g w t x i m = true ∧ ovB g w t s m j = true := by
  simp only [ovB, List.any_eq_true, List.mem_range, Bool.and_eq_true, decide_eq_true_eq]
  constructor
  · rintro ⟨m, h1, ⟨h2, h3⟩, h4⟩; exact ⟨m, h2, by omega, h3, h4⟩
  · rintro ⟨m, h1, h2, h3, h4⟩; exact ⟨m, by omega, ⟨h1, h3⟩, h4⟩
theorem ovB_sound {g : Grammar} {w : List Int} {t : Nat → Nat → Nat → Bool} (hs : ∀ a i j, i ≤ j → t a i j = true → Der g w [g.k + a] i j) : ∀ {s : List Int} {i j : Nat}, ovB g w t s i j = true → Der g w s i j
  | [], i, j, h => by have : i = j := by simpa [ovB] using h
                      subst this; exact .nil
  | x :: s, i, j, h => by
    obtain ⟨m, h1, h2, h3, h4⟩ := ovB_cons.mp h
    have k := ovB_sound hs h4
    unfold oneB at h3
    split at h3
    · next hx =>
      have h5 := of_decide_eq_true h3
      exact Der.app ((der_sym hx).mpr h5) k
    · next hx =>
      have h5 := hs _ _ _ h1 h3
      rw [show g.k + ((x - g.k).toNat : Int) = x by omega] at h5
      exact Der.app h5 k
theorem ovB_all {g : Grammar} {w : List Int} {t : Nat → Nat → Nat → Bool} (hc : ∀ q, q < g.rules.length → ∀ i j, i ≤ j → j ≤ w.length → ovB g w t (g.rules.getD q default).right i j = true → t (g.rules.getD q default).left.toNat i j = true)
    {s : List Int} {i j : Nat} (h : Der g w s i j) : i ≤ w.length → ovB g w t s i j = true := by
  induction h with
  | nil => intro _; simp [ovB]
  | sym hx hi hw h ih =>
    intro _
    exact ovB_cons.mpr ⟨_, Nat.le_succ _, h.le.1, by unfold oneB; rw [if_pos hx]; exact decide_eq_true ⟨rfl, hi, hw⟩, ih (by omega)⟩
  | name hx hq hl h1 h2 ih1 ih2 =>
    intro hi
    have hm := h1.le.2 hi
    refine ovB_cons.mpr ⟨_, h1.le.1, h2.le.1, ?_, ih2 hm⟩
    unfold oneB
    rw [if_neg hx, ← hl]
    exact hc _ hq _ _ h1.le.1 hm (ih1 hi)
end Go.Dm

namespace Go.Dm
set_option linter.unusedSimpArgs false
set_option linter.unusedVariables false
def nsum (f : Nat → Nat) : Nat → Nat
  | 0 => 0
  | n + 1 => nsum f n + f n
theorem nsum_le_of {f g : Nat → Nat} : ∀ {n : Nat}, (∀ m, m < n → f m ≤ g m) → nsum f n ≤ nsum g n
  | 0, _ => Nat.le_refl _
  | n + 1, h => by
    have h1 := @nsum_le_of f g n fun m hm => h m (by omega)
    have h2 := h n (by omega)
    show nsum f n + f n ≤ nsum g n + g n
    omega
theorem nsum_lt_of {f g : Nat → Nat} : ∀ {n m : Nat}, (∀ m, m < n → f m ≤ g m) → m < n → f m < g m → nsum f n < nsum g n
  | 0, m, _, h, _ => absurd h (Nat.not_lt_zero _)
  | n + 1, m, h, hm, hl => by
    show nsum f n + f n < nsum g n + g n
    by_cases e : m = n
    · subst e
      have h1 := @nsum_le_of f g m fun k hk => h k (by omega)
      omega
    · have h1 := @nsum_lt_of f g n m (fun k hk => h k (by omega)) (by omega) hl
      have h2 := h n (by omega)
      omega
theorem nsum_const {c : Nat} {f : Nat → Nat} : ∀ {n : Nat}, (∀ m, m < n → f m ≤ c) → nsum f n ≤ n * c
  | 0, _ => Nat.zero_le _
  | n + 1, h => by
    have h1 := @nsum_const c f n fun m hm => h m (by omega)
    have h2 := h n (by omega)
    show nsum f n + f n ≤ (n + 1) * c
    rw [Nat.succ_mul]; omega
def tsum (f : Nat → Nat) (a b : Nat) : Nat := nsum (fun m => if a ≤ m then f m else 0) b
def rowT (T : Int → Nat → Nat → Nat) : List Int → Nat → Nat → Nat
  | [], i, j => if i = j then 1 else 0
  | [s], i, j => T s i j
  | s :: s' :: l, i, j => tsum (fun m => T s i m * rowT T (s' :: l) m j) (i + 1) j
def symV (w : List Int) (x : Int) (i j : Nat) : Nat := if j = i + 1 ∧ w.getD i 0 = x then 1 else 0
def treeF (g : Grammar) (w : List Int) : Nat → Int → Nat → Nat → Nat
  | 0, x, i, j => if x < g.k then symV w x i j else 0
  | f + 1, x, i, j => if x < g.k then symV w x i j else nsum (fun q => if (g.rules.getD q default).left = x - g.k then rowT (treeF g w f) (g.rules.getD q default).right i j else 0) g.rules.length
def trees (g : Grammar) (w : List Int) (x : Int) (i j : Nat) : Nat := treeF g w (j - i + 1) x i j
end Go.Dm

namespace Go.Proofs.Ytplkkacfjepgpaa
open Go.Dm
set_option linter.unusedSimpArgs false
set_option linter.unnecessarySimpa false
set_option linter.unusedVariables false
set_option linter.defProp false
def tbb (n : Nat) (f : Nat → Bool) : List Bool := (List.range n).map f
theorem tbb_rep {n : Nat} : List.replicate n false = tbb n fun _ => false := by apply List.ext_getElem <;> simp [tbb]
theorem tbb_len {n : Nat} {f : Nat → Bool} : (tbb n f).length = n := by simp [tbb]
theorem tbb_get {n i : Nat} {f : Nat → Bool} {d : Bool} (h : i < n) : (tbb n f).getD i d = f i := by simp [tbb, List.getD, h]
theorem tbb_set {n i : Nat} {f : Nat → Bool} {x : Bool} : (tbb n f).set i x = tbb n fun j => if j = i then x else f j := by
  apply List.ext_getElem
  · simp [tbb]
  · intro j h1 h2
    simp only [tbb, List.getElem_set, List.getElem_map, List.getElem_range]
    by_cases e : i = j
    · rw [if_pos e, if_pos e.symm]
    · rw [if_neg e, if_neg (fun h => e h.symm)]
theorem tbb_ext {n : Nat} {f g : Nat → Bool} (h : ∀ j, j < n → f j = g j) : tbb n f = tbb n g := by
  unfold tbb
  exact List.map_congr_left fun j hj => h j (List.mem_range.1 hj)
theorem tbb_bls {n : Nat} {f : Nat → Bool} : (bls (tbb n f)).length = n := by simp [bls, tbb]
def cuV (T : Nat → Nat → Nat → Bool) (N n : Nat) : D := .sl 1 (tabD N fun a => .sl 1 (tabD n fun i => .sl 1 (bls (tbb n fun j => T a i j))))
theorem cuV_eq {T : Nat → Nat → Nat → Bool} {N n : Nat} : cuV T N n = .sl 1 (tabD N fun a => .sl 1 (tabD n fun i => .sl 1 (bls (tbb n fun j => T a i j)))) := (rfl)
def vcu := And.intro vmr <| And.intro @tbb_len <| And.intro @tbb_get <| And.intro @tbb_set <| And.intro @tbb_bls <| And.intro @cuV_eq <| And.intro @rulD_eq @Int.add_sub_cancel
theorem ovB_no {g : Grammar} {w : List Int} {t : Nat → Nat → Nat → Bool} {x : Int} {l : List Int} {i j : Nat} (h : ∀ m, i ≤ m → m ≤ j → ¬ (oneB g w t x i m = true ∧ ovB g w t l m j = true)) : ovB g w t (x :: l) i j = false := by
  rw [Bool.eq_false_iff]; intro ho
  obtain ⟨m, h1, h2, h3, h4⟩ := ovB_cons.mp ho
  exact h m h1 h2 ⟨h3, h4⟩
def rwC (T : Nat → Nat → Nat → Bool) (n a i : Nat) : D := .own false 1 (bls (tbb n fun j => T a i j))
def plC (T : Nat → Nat → Nat → Bool) (n a : Nat) : D := .own true 1 (tabD n fun i => rwC T n a i)
theorem rwC_eq {T : Nat → Nat → Nat → Bool} {n a i : Nat} : rwC T n a i = .own false 1 (bls (tbb n fun j => T a i j)) := (rfl)
theorem plC_eq {T : Nat → Nat → Nat → Bool} {n a : Nat} : plC T n a = .own true 1 (tabD n fun i => rwC T n a i) := (rfl)
section
variable {T : Nat → Nat → Nat → Bool} {n a i : Nat} {s : S} {τ m : Nat} {ob : Ob}
theorem rwC_kill : (rwC T n a i).kill τ = rwC T n a i := by simp [rwC, kill_oo]
theorem plC_kill : (plC T n a).kill τ = plC T n a := by simp [plC, kill_oo]
theorem rwC_trim : (rwC T n a i).trim m = rwC T n a i := by simp [rwC, trim_oo]
theorem plC_trim : (plC T n a).trim m = plC T n a := by simp [plC, trim_oo]
theorem rwC_kOwn {τ' i' o' : Nat} {k : S → D → Prop} : kOwn s τ' i' o' ob k (rwC T n a i) = Chk (τ' ≠ s.N) (kRefN k 1 (bls (tbb n fun j => T a i j)).length) (s.unfold τ' i' o' ob false 1 (bls (tbb n fun j => T a i j))) := (rfl)
theorem plC_kOwn {τ' i' o' : Nat} {k : S → D → Prop} : kOwn s τ' i' o' ob k (plC T n a) = Chk (τ' ≠ s.N) (kRefN k 1 (tabD n fun i => rwC T n a i).length) (s.unfold τ' i' o' ob true 1 (tabD n fun i => rwC T n a i)) := (rfl)
end
theorem tbb_take {n : Nat} {f : Nat → Bool} : (tbb n f).take n = tbb n f := List.take_of_length_le (by rw [tbb_len]; exact Nat.le_refl _)
theorem tabD_takeA {n : Nat} {f : Nat → D} : (tabD n f).take n = tabD n f := List.take_of_length_le (by rw [tabD_len]; exact Nat.le_refl _)
theorem tbb_takeB {n : Nat} {f : Nat → Bool} : (bls (tbb n f)).take n = bls (tbb n f) := List.take_of_length_le (by rw [tbb_bls]; exact Nat.le_refl _)
theorem vwR_cu {T : Nat → Nat → Nat → Bool} {N n : Nat} : vwR (tabD N fun b => plC T n b) = tabD N fun a => .sl 1 (tabD n fun i => .sl 1 (bls (tbb n fun j => T a i j))) := by
  simp only [vwR, tabD, List.map_map]
  refine List.map_congr_left fun a _ => ?_
  simp only [Function.comp, List.map_cons, List.map_nil, plC, vw_own, if_true, tabD, List.map_map]
  congr 2
  refine List.map_congr_left fun i _ => ?_
  simp only [Function.comp, List.map_cons, List.map_nil, rwC, vw_own, Bool.false_eq_true, if_false]
def vct := And.intro vcu <| And.intro @vwR_cu <| And.intro @tbb_take <| And.intro @tabD_takeA <| And.intro @tbb_takeB <| And.intro @rwC_kill <| And.intro @plC_kill <| And.intro @rwC_trim <| And.intro @plC_trim <| And.intro @rwC_kOwn <| And.intro @plC_kOwn @Int.add_sub_cancel
def F3 : Nat → Nat → Nat → Bool := fun _ _ _ => false
theorem obTabW {n : Nat} {f g : Nat → D} {a b b' : Bool} {c : Kd} (h : ∀ j, j < n → f j = g j) (hb : b = b') : some (⟨1, tabD n f, a, b, c⟩ : Ob) = some ⟨1, tabD n g, a, b', c⟩ := by rw [tabD_ext h, hb]
def upd3 (T : Nat → Nat → Nat → Bool) (a i j : Nat) : Nat → Nat → Nat → Bool := fun b k m => if b = a ∧ k = i ∧ m = j then true else T b k m
theorem upd3_at {T : Nat → Nat → Nat → Bool} {a i j : Nat} : upd3 T a i j a i j = true := if_pos ⟨rfl, rfl, rfl⟩
theorem upd3_ne {T : Nat → Nat → Nat → Bool} {a i j b k m : Nat} (h : ¬ (b = a ∧ k = i ∧ m = j)) : upd3 T a i j b k m = T b k m := if_neg h
def cwt (N n : Nat) (T : Nat → Nat → Nat → Bool) : Nat := nsum (fun a => nsum (fun i => nsum (fun j => if T a i j = true then 1 else 0) n) n) N
theorem cwt_upd {N n a i j : Nat} {T : Nat → Nat → Nat → Bool} (ha : a < N) (hi : i < n) (hj : j < n) (h : T a i j = false) : cwt N n T < cwt N n (upd3 T a i j) := by
  have hle : ∀ b k m, (if T b k m = true then 1 else 0) ≤ (if upd3 T a i j b k m = true then 1 else 0) := fun b k m => by
    by_cases e : b = a ∧ k = i ∧ m = j
    · obtain ⟨rfl, rfl, rfl⟩ := e; rw [upd3_at, h]; simp
    · rw [upd3_ne e]; exact Nat.le_refl _
  refine nsum_lt_of (m := a) (fun b _ => nsum_le_of fun k _ => nsum_le_of fun m _ => hle b k m) ha ?_
  refine nsum_lt_of (m := i) (fun k _ => nsum_le_of fun m _ => hle a k m) hi ?_
  exact nsum_lt_of (m := j) (fun m _ => hle a i m) hj (by rw [upd3_at, h]; simp)
def Snd3 (g : Grammar) (w : List Int) (T : Nat → Nat → Nat → Bool) : Prop := ∀ a i j, T a i j = true → i ≤ j ∧ Der g w [g.k + a] i j
theorem Snd3.ov {g : Grammar} {w : List Int} {T : Nat → Nat → Nat → Bool} (h : Snd3 g w T) {l : List Int} {i j : Nat} (ho : ovB g w T l i j = true) : Der g w l i j := ovB_sound (fun a i j _ ht => (h a i j ht).2) ho
theorem Snd3.add {g : Grammar} {w : List Int} {T : Nat → Nat → Nat → Bool} (h : Snd3 g w T) {q a i j : Nat} (hk : 1 ≤ g.k) (hq : q < g.rules.length) (ha : (g.rules.getD q default).left = a) (hij : i ≤ j) (hd : Der g w (g.rules.getD q default).right i j) : Snd3 g w (upd3 T a i j) := fun b k m hb => by
  by_cases e : b = a ∧ k = i ∧ m = j
  · obtain ⟨rfl, rfl, rfl⟩ := e
    exact ⟨hij, (der_name (by omega)).mpr ⟨q, hq, by omega, hd⟩⟩
  · rw [upd3_ne e] at hb
    exact h b k m hb
def CLT (g : Grammar) (w : List Int) (T : Nat → Nat → Nat → Bool) (q i j : Nat) : Prop := i ≤ j → ovB g w T (g.rules.getD q default).right i j = true → T (g.rules.getD q default).left.toNat i j = true
def tbO (g : Grammar) (N n : Nat) (T : Nat → Nat → Nat → Bool) : List (Nat × Ob) := [(0, ⟨4, [[iv .i64 g.k, iv .i64 N, iv .i64 g.start, .sl 2 (tbl rulD g.rules)]], true, false, .fix⟩), (2, ⟨1, tabD N fun b => plC T n b, true, true, .arr⟩)]
end Go.Proofs.Ytplkkacfjepgpaa
