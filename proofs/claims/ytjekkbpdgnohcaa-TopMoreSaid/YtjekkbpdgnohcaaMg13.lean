/-
 Texts of this claim, one behind another.
-/
import Derived.Test.YtjekkbpdgnohcaaMg9
import Derived.Test.YtjekkbpdgnohcaaMg11
import Derived.Test.YtjekkbpdgnohcaaCode
namespace Go.Proofs.Ytjekkbpdgnohcaa
open Go.Dm
set_option linter.unusedSimpArgs false
set_option linter.unnecessarySimpa false
set_option linter.unusedVariables false
theorem mixed : Try.prog.follows .mixedOrders = true := by kernel_rfl
end Go.Proofs.Ytjekkbpdgnohcaa

namespace Go.Proofs.Ytjekkbpdgnohcaa
open Go.Dm
set_option linter.unusedSimpArgs false
set_option linter.unnecessarySimpa false
set_option linter.unusedVariables false
def idxOf {α : Type} (p : α → Bool) (l : List α) : Int := if l.any p = true then ((l.findIdx p : Nat) : Int) else -1
theorem idxOf_hit {α : Type} [Inhabited α] {p : α → Bool} {l : List α} {i : Nat} (hi : i < l.length) (h : p (l.getD i default) = true) (hn : ∀ j, j < i → p (l.getD j default) = false) : idxOf p l = i := by
  have e : ∀ j (hj : j < l.length), l.getD j default = l[j] := fun j hj => by simp [List.getD, hj]
  unfold idxOf
  rw [if_pos (List.any_eq_true.2 ⟨l[i], List.getElem_mem hi, by rw [← e i hi]; exact h⟩)]
  rw [(List.findIdx_eq hi).2 ⟨by rw [← e i hi]; exact h, fun j hj => by rw [← e j (by omega)]; exact hn j hj⟩]
theorem any_none {α : Type} [Inhabited α] {p : α → Bool} {l : List α} {i : Nat} (hi : l.length ≤ i) (hn : ∀ j, j < i → p (l.getD j default) = false) : l.any p = false := by
  rw [List.any_eq_false]
  intro x hx
  obtain ⟨j, hj, e⟩ := mem_getD hx
  rw [← e, hn j (by omega)]
  simp
theorem idxOf_miss {α : Type} [Inhabited α] {p : α → Bool} {l : List α} {i : Nat} (hi : l.length ≤ i) (hn : ∀ j, j < i → p (l.getD j default) = false) : idxOf p l = -1 := by
  unfold idxOf
  rw [if_neg (by rw [any_none hi hn]; simp)]
theorem idxOf_geq {α : Type} {p : α → Bool} {l : List α} : decide (0 ≤ idxOf p l) = l.any p := by
  unfold idxOf
  by_cases h : l.any p = true
  · rw [if_pos h, h]; exact decide_eq_true (by omega)
  · rw [if_neg h, Bool.not_eq_true] at *; rw [h]; rfl
theorem cl_lf {f : D → D} (hf : ∀ d, clL d = true → f d = d) : ∀ d : D, d.cl = true → d.lf f = d
  | .ag ds, h => by
    have hd : ∀ d, d ∈ ds → d.cl = true := fun d hm => by rw [D.cl, alls_ag] at h; exact List.all_eq_true.1 h d hm
    have ih : ∀ d, d ∈ ds → d.lf f = d := fun d hm => cl_lf hf d (hd d hm)
    rw [lf_ag, List.map_congr_left ih, List.map_id']
  | .tu ds, h => by
    have hd : ∀ d, d ∈ ds → d.cl = true := fun d hm => by rw [D.cl, alls_tu] at h; exact List.all_eq_true.1 h d hm
    have ih : ∀ d, d ∈ ds → d.lf f = d := fun d hm => cl_lf hf d (hd d hm)
    rw [lf_tu, List.map_congr_left ih, List.map_id']
  | .clo g ds, h => by
    have hd : ∀ d, d ∈ ds → d.cl = true := fun d hm => by rw [cl_clo] at h; exact List.all_eq_true.1 h d hm
    have ih : ∀ d, d ∈ ds → d.lf f = d := fun d hm => cl_lf hf d (hd d hm)
    rw [lf_clo, List.map_congr_left ih, List.map_id']
  | .v x, h => by rw [lf_leaf rfl]; exact hf _ rfl
  | .nl, h => by rw [lf_leaf rfl]; exact hf _ rfl
  | .sl _ _, h => by rw [lf_leaf rfl]; exact hf _ rfl
  | .ip _ _, h => by rw [lf_leaf rfl]; exact hf _ rfl
  | .ref _ _ _ _, h => by rw [D.cl, alls_leaf rfl] at h; cases h
  | .ptr _ _ _ _, h => by rw [D.cl, alls_leaf rfl] at h; cases h
  | .mp _, h => by rw [D.cl, alls_leaf rfl] at h; cases h
  | .own _ _ _, h => by rw [D.cl, alls_leaf rfl] at h; cases h
  | .omp _ _ _, h => by rw [D.cl, alls_leaf rfl] at h; cases h
  | .junk, h => by rw [D.cl, alls_leaf rfl] at h; cases h
termination_by d => SizeOf.sizeOf d
decreasing_by all_goals (have := List.sizeOf_lt_of_mem hm; simp; omega)
theorem cl_J : ∀ d : D, d.alls clL = true → d.alls clJ = true
  | .ag ds, h => by
    rw [alls_ag] at h ⊢
    exact List.all_eq_true.2 fun d hm => cl_J d (List.all_eq_true.1 h d hm)
  | .tu ds, h => by
    rw [alls_tu] at h ⊢
    exact List.all_eq_true.2 fun d hm => cl_J d (List.all_eq_true.1 h d hm)
  | .clo g ds, h => by
    rw [alls_clo] at h ⊢
    exact List.all_eq_true.2 fun d hm => cl_J d (List.all_eq_true.1 h d hm)
  | .v x, h => by rw [alls_leaf rfl]; rfl
  | .nl, h => by rw [alls_leaf rfl]; rfl
  | .sl _ _, h => by rw [alls_leaf rfl]; rfl
  | .ip _ _, h => by rw [alls_leaf rfl]; rfl
  | .ref _ _ _ _, h => by rw [alls_leaf rfl] at h; cases h
  | .ptr _ _ _ _, h => by rw [alls_leaf rfl] at h; cases h
  | .mp _, h => by rw [alls_leaf rfl] at h; cases h
  | .own _ _ _, h => by rw [alls_leaf rfl] at h; cases h
  | .omp _ _ _, h => by rw [alls_leaf rfl] at h; cases h
  | .junk, h => by rw [alls_leaf rfl] at h; cases h
termination_by d => SizeOf.sizeOf d
decreasing_by all_goals (have := List.sizeOf_lt_of_mem hm; simp; omega)
section
variable {ds : List D} (hd : ds.all D.cl = true)
include hd
theorem map_lf {f : D → D} (hf : ∀ d, clL d = true → f d = d) : ds.map (D.lf f) = ds := by
  rw [List.map_congr_left (fun d hm => cl_lf hf d (List.all_eq_true.1 hd d hm)), List.map_id']
theorem cl_trims (n : Nat) : (ds.map fun d => d.trim n) = ds := map_lf hd (f := trimL n) (fun d h => by cases d <;> first | rfl | cases h)
theorem cl_views (s : S) : ds.map s.view = ds := map_lf hd (f := s.viewL) (fun d h => by cases d <;> first | rfl | cases h)
theorem cl_owned : ds.any D.owned = false := by
  rw [List.any_eq_false]
  intro d hm
  have h := List.all_eq_true.1 hd d hm
  have : d.alls clJ = true := by
    revert h
    unfold D.cl
    exact cl_J d
  simp [D.owned, this]
end
set_option maxRecDepth 10000 in
set_option maxHeartbeats 4000000 in
theorem idxF_rule (l : List (Rule)) (p : Rule → Bool) (f : FuncId) (ds : List D) (hl : l.length ≤ 9223372036854775807) (hd : ds.all D.cl = true) (hp : ∀ a, a ∈ l → Dm.Spec Try.prog f (.ag (rulD a) :: ds) (· = .v (.bool (p a)))) : Dm.Spec Try.prog 54 [.sl 2 (tbl rulD l), .clo f ds] (· = .v (.int .i64 (idxOf p l))) := by
  refine spec_of_vc mixed Try.func54 c54 (by rw [show Try.f54.ntmps = _ from Try.ntmps54]; simp) ?_
  unfold m54 r54
  repeat' first | ((first | refine Br.dec ?_ ?_ | refine Br.eqi ?_ ?_) <;> intro h <;> try (exfalso; omega)) | (simp (disch := first | omega | (simp only [vlen]; first | done | omega)) only [↓vAq, vBq, ↓reduceIte, Nat.reduceBEq, Nat.reduceEqDiff, Nat.reduceLT, Nat.reduceLeDiff, Nat.reduceAdd, Nat.reduceMul, Nat.reduceSub, reduceCtorEq, Int.reduceToNat]) | (refine Br.mk ?_ ?_ <;> intro h) | (refine BrN.mk (fun h => ?_) ?_) | (refine AltVC.mk ?_ ?_)
  refine LoopVC.mk (X := Nat) (fun i => [(1, .clo f ds), (8, iv .i64 i)]) (fun _ => []) (fun i => l.length - i) (fun i => i ≤ l.length ∧ ∀ j, j < i → p (l.getD j default) = false) 0 ⟨by omega, by omega⟩ ?_ ?_
  · (simp (disch := first | omega | (simp only [vlen]; first | done | omega)) only [Fits_u, Fits_m, Fits_nil, List.length_append, ↓vAq, vBq, ↓reduceIte, Nat.reduceBEq, Nat.reduceEqDiff, Nat.reduceLT, Nat.reduceLeDiff, Nat.reduceAdd, Nat.reduceMul, Nat.reduceSub, reduceCtorEq, Int.reduceToNat] <;> (repeat' first | rfl | apply And.intro))
  · rintro i ⟨hi, hn⟩
    repeat' first | ((first | refine Br.dec ?_ ?_ | refine Br.eqi ?_ ?_) <;> intro h <;> try (exfalso; omega)) | (simp (disch := first | omega | (simp only [vlen]; first | done | omega)) only [↓vAq, vBq, ↓reduceIte, Nat.reduceBEq, Nat.reduceEqDiff, Nat.reduceLT, Nat.reduceLeDiff, Nat.reduceAdd, Nat.reduceMul, Nat.reduceSub, reduceCtorEq, Int.reduceToNat]) | (refine Br.mk ?_ ?_ <;> intro h) | (refine BrN.mk (fun h => ?_) ?_) | (refine AltVC.mk ?_ ?_)
    · rw [cl_views hd, cl_owned hd]
      refine CallVC.eq (hp (l.getD i default) (getD_mem' (by omega))) ?_
      repeat' first | ((first | refine Br.dec ?_ ?_ | refine Br.eqi ?_ ?_) <;> intro h <;> try (exfalso; omega)) | (simp (disch := first | omega | (simp only [vlen]; first | done | omega)) only [↓vAq, vBq, ↓reduceIte, Nat.reduceBEq, Nat.reduceEqDiff, Nat.reduceLT, Nat.reduceLeDiff, Nat.reduceAdd, Nat.reduceMul, Nat.reduceSub, reduceCtorEq, Int.reduceToNat]) | (refine Br.mk ?_ ?_ <;> intro h) | (refine BrN.mk (fun h => ?_) ?_) | (refine AltVC.mk ?_ ?_)
      · refine fin_mk (viEq ?_)
        rw [idxOf_hit (by omega) (by assumption) hn]
      · refine loopK.mk (i + 1) (by simp (disch := first | omega | (simp only [vlen]; first | done | omega)) only [↓vAq, vBq, ↓reduceIte, Nat.reduceBEq, Nat.reduceEqDiff, Nat.reduceLT, Nat.reduceLeDiff, Nat.reduceAdd, Nat.reduceMul, Nat.reduceSub, reduceCtorEq, Int.reduceToNat]) ⟨by omega, fun j hj => ?_⟩ (by omega) ?_
        · by_cases e : j = i
          · subst e; assumption
          · exact hn j (by omega)
        · (simp (disch := first | omega | (simp only [vlen]; first | done | omega)) only [Fits_u, Fits_m, Fits_nil, List.length_append, ↓vAq, vBq, ↓reduceIte, Nat.reduceBEq, Nat.reduceEqDiff, Nat.reduceLT, Nat.reduceLeDiff, Nat.reduceAdd, Nat.reduceMul, Nat.reduceSub, reduceCtorEq, Int.reduceToNat] <;> (repeat' first | rfl | apply And.intro))
          rw [cl_trims hd]
    · refine fin_mk (viEq ?_)
      rw [idxOf_miss (by omega) hn]
set_option maxRecDepth 10000 in
set_option maxHeartbeats 4000000 in
theorem conF_rule (l : List (Rule)) (p : Rule → Bool) (f : FuncId) (ds : List D) (hl : l.length ≤ 9223372036854775807) (hd : ds.all D.cl = true) (hp : ∀ a, a ∈ l → Dm.Spec Try.prog f (.ag (rulD a) :: ds) (· = .v (.bool (p a)))) : Dm.Spec Try.prog 36 [.sl 2 (tbl rulD l), .clo f ds] (· = .v (.bool (l.any p))) := by
  refine spec_of_vc mixed Try.func36 c36 (by rw [show Try.f36.ntmps = _ from Try.ntmps36]; simp) ?_
  unfold m36 r36
  repeat' first | ((first | refine Br.dec ?_ ?_ | refine Br.eqi ?_ ?_) <;> intro h <;> try (exfalso; omega)) | (simp (disch := first | omega | (simp only [vlen]; first | done | omega)) only [↓vAq, vBq, ↓reduceIte, Nat.reduceBEq, Nat.reduceEqDiff, Nat.reduceLT, Nat.reduceLeDiff, Nat.reduceAdd, Nat.reduceMul, Nat.reduceSub, reduceCtorEq, Int.reduceToNat]) | (refine Br.mk ?_ ?_ <;> intro h) | (refine BrN.mk (fun h => ?_) ?_) | (refine AltVC.mk ?_ ?_)
  rw [cl_views hd, cl_owned hd]
  refine CallVC.eq (idxF_rule l p f ds hl hd hp) ?_
  repeat' first | ((first | refine Br.dec ?_ ?_ | refine Br.eqi ?_ ?_) <;> intro h <;> try (exfalso; omega)) | (simp (disch := first | omega | (simp only [vlen]; first | done | omega)) only [↓vAq, vBq, ↓reduceIte, Nat.reduceBEq, Nat.reduceEqDiff, Nat.reduceLT, Nat.reduceLeDiff, Nat.reduceAdd, Nat.reduceMul, Nat.reduceSub, reduceCtorEq, Int.reduceToNat]) | (refine Br.mk ?_ ?_ <;> intro h) | (refine BrN.mk (fun h => ?_) ?_) | (refine AltVC.mk ?_ ?_)
  exact fin_mk (vbEq idxOf_geq)
set_option maxRecDepth 10000 in
set_option maxHeartbeats 4000000 in
theorem idxF_int (l : List (Int)) (p : Int → Bool) (f : FuncId) (ds : List D) (hl : l.length ≤ 9223372036854775807) (hd : ds.all D.cl = true) (hp : ∀ a, a ∈ l → Dm.Spec Try.prog f (iv .i64 a :: ds) (· = .v (.bool (p a)))) : Dm.Spec Try.prog 65 [.sl 1 (i64s l), .clo f ds] (· = .v (.int .i64 (idxOf p l))) := by
  refine spec_of_vc mixed Try.func65 c65 (by rw [show Try.f65.ntmps = _ from Try.ntmps65]; simp) ?_
  unfold m65 r65
  repeat' first | ((first | refine Br.dec ?_ ?_ | refine Br.eqi ?_ ?_) <;> intro h <;> try (exfalso; omega)) | (simp (disch := first | omega | (simp only [vlen]; first | done | omega)) only [↓vAq, vBq, ↓reduceIte, Nat.reduceBEq, Nat.reduceEqDiff, Nat.reduceLT, Nat.reduceLeDiff, Nat.reduceAdd, Nat.reduceMul, Nat.reduceSub, reduceCtorEq, Int.reduceToNat]) | (refine Br.mk ?_ ?_ <;> intro h) | (refine BrN.mk (fun h => ?_) ?_) | (refine AltVC.mk ?_ ?_)
  refine LoopVC.mk (X := Nat) (fun i => [(1, .clo f ds), (8, iv .i64 i)]) (fun _ => []) (fun i => l.length - i) (fun i => i ≤ l.length ∧ ∀ j, j < i → p (l.getD j default) = false) 0 ⟨by omega, by omega⟩ ?_ ?_
  · (simp (disch := first | omega | (simp only [vlen]; first | done | omega)) only [Fits_u, Fits_m, Fits_nil, List.length_append, ↓vAq, vBq, ↓reduceIte, Nat.reduceBEq, Nat.reduceEqDiff, Nat.reduceLT, Nat.reduceLeDiff, Nat.reduceAdd, Nat.reduceMul, Nat.reduceSub, reduceCtorEq, Int.reduceToNat] <;> (repeat' first | rfl | apply And.intro))
  · rintro i ⟨hi, hn⟩
    repeat' first | ((first | refine Br.dec ?_ ?_ | refine Br.eqi ?_ ?_) <;> intro h <;> try (exfalso; omega)) | (simp (disch := first | omega | (simp only [vlen]; first | done | omega)) only [↓vAq, vBq, ↓reduceIte, Nat.reduceBEq, Nat.reduceEqDiff, Nat.reduceLT, Nat.reduceLeDiff, Nat.reduceAdd, Nat.reduceMul, Nat.reduceSub, reduceCtorEq, Int.reduceToNat]) | (refine Br.mk ?_ ?_ <;> intro h) | (refine BrN.mk (fun h => ?_) ?_) | (refine AltVC.mk ?_ ?_)
    · rw [cl_views hd, cl_owned hd]
      refine CallVC.eq (hp (l.getD i default) (getD_mem' (by omega))) ?_
      repeat' first | ((first | refine Br.dec ?_ ?_ | refine Br.eqi ?_ ?_) <;> intro h <;> try (exfalso; omega)) | (simp (disch := first | omega | (simp only [vlen]; first | done | omega)) only [↓vAq, vBq, ↓reduceIte, Nat.reduceBEq, Nat.reduceEqDiff, Nat.reduceLT, Nat.reduceLeDiff, Nat.reduceAdd, Nat.reduceMul, Nat.reduceSub, reduceCtorEq, Int.reduceToNat]) | (refine Br.mk ?_ ?_ <;> intro h) | (refine BrN.mk (fun h => ?_) ?_) | (refine AltVC.mk ?_ ?_)
      · refine fin_mk (viEq ?_)
        rw [idxOf_hit (by omega) (by assumption) hn]
      · refine loopK.mk (i + 1) (by simp (disch := first | omega | (simp only [vlen]; first | done | omega)) only [↓vAq, vBq, ↓reduceIte, Nat.reduceBEq, Nat.reduceEqDiff, Nat.reduceLT, Nat.reduceLeDiff, Nat.reduceAdd, Nat.reduceMul, Nat.reduceSub, reduceCtorEq, Int.reduceToNat]) ⟨by omega, fun j hj => ?_⟩ (by omega) ?_
        · by_cases e : j = i
          · subst e; assumption
          · exact hn j (by omega)
        · (simp (disch := first | omega | (simp only [vlen]; first | done | omega)) only [Fits_u, Fits_m, Fits_nil, List.length_append, ↓vAq, vBq, ↓reduceIte, Nat.reduceBEq, Nat.reduceEqDiff, Nat.reduceLT, Nat.reduceLeDiff, Nat.reduceAdd, Nat.reduceMul, Nat.reduceSub, reduceCtorEq, Int.reduceToNat] <;> (repeat' first | rfl | apply And.intro))
          rw [cl_trims hd]
    · refine fin_mk (viEq ?_)
      rw [idxOf_miss (by omega) hn]
set_option maxRecDepth 10000 in
set_option maxHeartbeats 4000000 in
theorem conF_int (l : List (Int)) (p : Int → Bool) (f : FuncId) (ds : List D) (hl : l.length ≤ 9223372036854775807) (hd : ds.all D.cl = true) (hp : ∀ a, a ∈ l → Dm.Spec Try.prog f (iv .i64 a :: ds) (· = .v (.bool (p a)))) : Dm.Spec Try.prog 55 [.sl 1 (i64s l), .clo f ds] (· = .v (.bool (l.any p))) := by
  refine spec_of_vc mixed Try.func55 c55 (by rw [show Try.f55.ntmps = _ from Try.ntmps55]; simp) ?_
  unfold m55 r55
  repeat' first | ((first | refine Br.dec ?_ ?_ | refine Br.eqi ?_ ?_) <;> intro h <;> try (exfalso; omega)) | (simp (disch := first | omega | (simp only [vlen]; first | done | omega)) only [↓vAq, vBq, ↓reduceIte, Nat.reduceBEq, Nat.reduceEqDiff, Nat.reduceLT, Nat.reduceLeDiff, Nat.reduceAdd, Nat.reduceMul, Nat.reduceSub, reduceCtorEq, Int.reduceToNat]) | (refine Br.mk ?_ ?_ <;> intro h) | (refine BrN.mk (fun h => ?_) ?_) | (refine AltVC.mk ?_ ?_)
  rw [cl_views hd, cl_owned hd]
  refine CallVC.eq (idxF_int l p f ds hl hd hp) ?_
  repeat' first | ((first | refine Br.dec ?_ ?_ | refine Br.eqi ?_ ?_) <;> intro h <;> try (exfalso; omega)) | (simp (disch := first | omega | (simp only [vlen]; first | done | omega)) only [↓vAq, vBq, ↓reduceIte, Nat.reduceBEq, Nat.reduceEqDiff, Nat.reduceLT, Nat.reduceLeDiff, Nat.reduceAdd, Nat.reduceMul, Nat.reduceSub, reduceCtorEq, Int.reduceToNat]) | (refine Br.mk ?_ ?_ <;> intro h) | (refine BrN.mk (fun h => ?_) ?_) | (refine AltVC.mk ?_ ?_)
  exact fin_mk (vbEq idxOf_geq)
end Go.Proofs.Ytjekkbpdgnohcaa

namespace Go.Proofs.Ytjekkbpdgnohcaa
open Go.Dm
set_option linter.unusedSimpArgs false
set_option linter.unnecessarySimpa false
set_option linter.unusedVariables false
def isSign (g : Grammar) (x : Int) : Bool := decide (0 ≤ x ∧ x < g.k + g.n)
def isSigns (g : Grammar) (l : List Int) : Bool := l.all (isSign g)
def gcode (g : Grammar) : Int :=
  if ¬ (1 ≤ g.k ∧ g.k ≤ 3) ∨ ¬ (1 ≤ g.n ∧ g.n ≤ 5) ∨ 10 < g.rules.length then 1
  else if g.rules.any (fun r => decide (4 < r.right.length)) = true then 1
  else if ¬ (0 ≤ g.start ∧ g.start < g.n) then 2
  else if g.rules.any (fun r => !(decide (0 ≤ r.left ∧ r.left < g.n) && isSigns g r.right)) = true then 2
  else 0
set_option maxRecDepth 10000 in
set_option maxHeartbeats 4000000 in
theorem gWithin_spec (n lo hi : Int) : Dm.Spec Try.prog 35 [iv .i64 n, iv .i64 lo, iv .i64 hi] (· = .v (.bool (decide (lo ≤ n ∧ n ≤ hi)))) := by
  refine spec_of_vc mixed Try.func35 c35 (by rw [show Try.f35.ntmps = _ from Try.ntmps35]; simp) ?_
  unfold m35 r35
  repeat' first | ((first | refine Br.dec ?_ ?_ | refine Br.eqi ?_ ?_) <;> intro h <;> try (exfalso; omega)) | (simp (disch := first | omega | (simp only [vlen]; first | done | omega)) only [↓vAq, vBq, ↓reduceIte, Nat.reduceBEq, Nat.reduceEqDiff, Nat.reduceLT, Nat.reduceLeDiff, Nat.reduceAdd, Nat.reduceMul, Nat.reduceSub, reduceCtorEq, Int.reduceToNat]) | (refine Br.mk ?_ ?_ <;> intro h) | (refine BrN.mk (fun h => ?_) ?_) | (refine AltVC.mk ?_ ?_)
  · exact fin_mk (vbEq (by congr 1; exact propext ⟨fun h => ⟨by assumption, h⟩, fun h => h.2⟩))
  · exact fin_mk (vbEq (by rw [decide_eq_false (fun h => by omega)]))
set_option maxRecDepth 10000 in
set_option maxHeartbeats 4000000 in
theorem gLong_spec (r : Rule) (h : r.right.length ≤ 9223372036854775807) : Dm.Spec Try.prog 37 [.ag (rulD r)] (· = .v (.bool (decide (4 < r.right.length)))) := by
  refine spec_of_vc mixed Try.func37 c37 (by rw [show Try.f37.ntmps = _ from Try.ntmps37]; simp) ?_
  unfold m37 r37
  repeat' first | ((first | refine Br.dec ?_ ?_ | refine Br.eqi ?_ ?_) <;> intro h <;> try (exfalso; omega)) | (simp (disch := first | omega | (simp only [vlen]; first | done | omega)) only [↓vAq, vBq, ↓reduceIte, Nat.reduceBEq, Nat.reduceEqDiff, Nat.reduceLT, Nat.reduceLeDiff, Nat.reduceAdd, Nat.reduceMul, Nat.reduceSub, reduceCtorEq, Int.reduceToNat]) | (refine Br.mk ?_ ?_ <;> intro h) | (refine BrN.mk (fun h => ?_) ?_) | (refine AltVC.mk ?_ ?_)
  exact fin_mk (vbEq (dec_iff (by omega)))
set_option maxRecDepth 10000 in
set_option maxHeartbeats 4000000 in
theorem isSign_spec (g : Grammar) (hk : 0 ≤ g.k ∧ g.k ≤ 1000) (hn : 0 ≤ g.n ∧ g.n ≤ 1000) (s : Int) : Dm.Spec Try.prog 56 [iv .i64 s, .ip (graD g) 0] (· = .v (.bool (!isSign g s))) := by
  refine spec_of_vc mixed Try.func56 c56 (by rw [show Try.f56.ntmps = _ from Try.ntmps56]; simp) ?_
  unfold m56 r56
  repeat' first | ((first | refine Br.dec ?_ ?_ | refine Br.eqi ?_ ?_) <;> intro h <;> try (exfalso; omega)) | (simp (disch := first | omega | (simp only [vlen]; first | done | omega)) only [↓vAq, vBq, ↓reduceIte, Nat.reduceBEq, Nat.reduceEqDiff, Nat.reduceLT, Nat.reduceLeDiff, Nat.reduceAdd, Nat.reduceMul, Nat.reduceSub, reduceCtorEq, Int.reduceToNat]) | (refine Br.mk ?_ ?_ <;> intro h) | (refine BrN.mk (fun h => ?_) ?_) | (refine AltVC.mk ?_ ?_)
  · refine fin_mk (vbEq ?_)
    rw [isSign, decide_eq_false (by omega)]; rfl
  · refine fin_mk (vbEq ?_)
    rw [isSign, ← decide_not]
    exact dec_iff (by omega)
theorem all_not' {α : Type} {p : α → Bool} {l : List α} : (!(l.any fun a => !p a)) = l.all p := by
  rw [List.not_any_eq_all_not]; simp
set_option maxRecDepth 10000 in
set_option maxHeartbeats 4000000 in
theorem isSigns_spec (g : Grammar) (hk : 0 ≤ g.k ∧ g.k ≤ 1000) (hn : 0 ≤ g.n ∧ g.n ≤ 1000) (l : List Int) (hl : l.length ≤ 9223372036854775807) : Dm.Spec Try.prog 38 [.ag (graD g), .sl 1 (i64s l)] (· = .v (.bool (isSigns g l))) := by
  refine spec_of_vc mixed Try.func38 c38 (by rw [show Try.f38.ntmps = _ from Try.ntmps38]; simp) ?_
  unfold m38 r38
  repeat' first | ((first | refine Br.dec ?_ ?_ | refine Br.eqi ?_ ?_) <;> intro h <;> try (exfalso; omega)) | (simp (disch := first | omega | (simp only [vlen]; first | done | omega)) only [↓vAq, vBq, ↓reduceIte, Nat.reduceBEq, Nat.reduceEqDiff, Nat.reduceLT, Nat.reduceLeDiff, Nat.reduceAdd, Nat.reduceMul, Nat.reduceSub, reduceCtorEq, Int.reduceToNat]) | (refine Br.mk ?_ ?_ <;> intro h) | (refine BrN.mk (fun h => ?_) ?_) | (refine AltVC.mk ?_ ?_)
  refine CallVC.eqo (conF_int l (fun s => !isSign g s) _ [.ip (graD g) 0] hl (by simp (disch := first | omega | (simp only [vlen]; first | done | omega)) only [↓vAq, vBq, ↓reduceIte, Nat.reduceBEq, Nat.reduceEqDiff, Nat.reduceLT, Nat.reduceLeDiff, Nat.reduceAdd, Nat.reduceMul, Nat.reduceSub, reduceCtorEq, Int.reduceToNat]) fun a ha => isSign_spec g hk hn a) (by simp (disch := first | omega | (simp only [vlen]; first | done | omega)) only [↓vAq, vBq, ↓reduceIte, Nat.reduceBEq, Nat.reduceEqDiff, Nat.reduceLT, Nat.reduceLeDiff, Nat.reduceAdd, Nat.reduceMul, Nat.reduceSub, reduceCtorEq, Int.reduceToNat]) ?_
  repeat' first | ((first | refine Br.dec ?_ ?_ | refine Br.eqi ?_ ?_) <;> intro h <;> try (exfalso; omega)) | (simp (disch := first | omega | (simp only [vlen]; first | done | omega)) only [↓vAq, vBq, ↓reduceIte, Nat.reduceBEq, Nat.reduceEqDiff, Nat.reduceLT, Nat.reduceLeDiff, Nat.reduceAdd, Nat.reduceMul, Nat.reduceSub, reduceCtorEq, Int.reduceToNat]) | (refine Br.mk ?_ ?_ <;> intro h) | (refine BrN.mk (fun h => ?_) ?_) | (refine AltVC.mk ?_ ?_)
  exact fin_mk (vbEq all_not')
def badRule (g : Grammar) (r : Rule) : Bool := !(decide (0 ≤ r.left ∧ r.left < g.n) && isSigns g r.right)
theorem gcode_b {g : Grammar} : gcode g = if ¬ (1 ≤ g.k ∧ g.k ≤ 3) ∨ ¬ (1 ≤ g.n ∧ g.n ≤ 5) ∨ 10 < g.rules.length then 1
  else if g.rules.any (fun r => decide (4 < r.right.length)) = true then 1
  else if ¬ (0 ≤ g.start ∧ g.start < g.n) then 2
  else if g.rules.any (badRule g) = true then 2 else 0 := rfl
theorem any_hit {α : Type} [Inhabited α] {p : α → Bool} {l : List α} {i : Nat} (hi : i < l.length) (h : p (l.getD i default) = true) : l.any p = true :=
  List.any_eq_true.2 ⟨_, getD_mem' hi, h⟩
set_option maxRecDepth 10000 in
set_option maxHeartbeats 4000000 in
theorem gCheck_spec (g : Grammar) (hg : g.ok) : Dm.Spec Try.prog 22 [.ag (graD g)] (· = iv .i64 (gcode g)) := by
  refine spec_of_vc mixed Try.func22 c22 (by rw [show Try.f22.ntmps = _ from Try.ntmps22]; simp) ?_
  unfold m22 r22
  have hr : g.rules.length ≤ 9223372036854775807 := maxLen_le hg.2.2.2.1
  have hk : -9223372036854775808 ≤ g.k ∧ g.k ≤ 9223372036854775807 := hg.1
  have hn : -9223372036854775808 ≤ g.n ∧ g.n ≤ 9223372036854775807 := hg.2.1
  have hq : ∀ r, r ∈ g.rules → r.right.length ≤ 9223372036854775807 := fun r h => maxLen_le (hg.2.2.2.2 r h).2.1
  have r1 : ¬ (1 ≤ g.k ∧ g.k ≤ 3) ∨ ¬ (1 ≤ g.n ∧ g.n ≤ 5) ∨ 10 < g.rules.length → gcode g = 1 := fun h => by rw [gcode, if_pos h]
  repeat' first | ((first | refine Br.dec ?_ ?_ | refine Br.eqi ?_ ?_) <;> intro h <;> try (exfalso; omega)) | (simp (disch := first | omega | (simp only [vlen]; first | done | omega)) only [↓vAq, vBq, ↓reduceIte, Nat.reduceBEq, Nat.reduceEqDiff, Nat.reduceLT, Nat.reduceLeDiff, Nat.reduceAdd, Nat.reduceMul, Nat.reduceSub, reduceCtorEq, Int.reduceToNat]) | (refine Br.mk ?_ ?_ <;> intro h) | (refine BrN.mk (fun h => ?_) ?_) | (refine AltVC.mk ?_ ?_)
  refine CallVC.eq (gWithin_spec _ _ _) ?_
  repeat' first | ((first | refine Br.dec ?_ ?_ | refine Br.eqi ?_ ?_) <;> intro h <;> try (exfalso; omega)) | (simp (disch := first | omega | (simp only [vlen]; first | done | omega)) only [↓vAq, vBq, ↓reduceIte, Nat.reduceBEq, Nat.reduceEqDiff, Nat.reduceLT, Nat.reduceLeDiff, Nat.reduceAdd, Nat.reduceMul, Nat.reduceSub, reduceCtorEq, Int.reduceToNat]) | (refine Br.mk ?_ ?_ <;> intro h) | (refine BrN.mk (fun h => ?_) ?_) | (refine AltVC.mk ?_ ?_)
  · refine CallVC.eq (gWithin_spec _ _ _) ?_
    repeat' first | ((first | refine Br.dec ?_ ?_ | refine Br.eqi ?_ ?_) <;> intro h <;> try (exfalso; omega)) | (simp (disch := first | omega | (simp only [vlen]; first | done | omega)) only [↓vAq, vBq, ↓reduceIte, Nat.reduceBEq, Nat.reduceEqDiff, Nat.reduceLT, Nat.reduceLeDiff, Nat.reduceAdd, Nat.reduceMul, Nat.reduceSub, reduceCtorEq, Int.reduceToNat]) | (refine Br.mk ?_ ?_ <;> intro h) | (refine BrN.mk (fun h => ?_) ?_) | (refine AltVC.mk ?_ ?_)
    · exact fin_mk (by rw [r1 (by omega)])
    · refine CallVC.eqo (conF_rule g.rules (fun r => decide (4 < r.right.length)) _ [] hr rfl fun r h => gLong_spec r (hq r h)) (by simp (disch := first | omega | (simp only [vlen]; first | done | omega)) only [↓vAq, vBq, ↓reduceIte, Nat.reduceBEq, Nat.reduceEqDiff, Nat.reduceLT, Nat.reduceLeDiff, Nat.reduceAdd, Nat.reduceMul, Nat.reduceSub, reduceCtorEq, Int.reduceToNat]) ?_
      repeat' first | ((first | refine Br.dec ?_ ?_ | refine Br.eqi ?_ ?_) <;> intro h <;> try (exfalso; omega)) | (simp (disch := first | omega | (simp only [vlen]; first | done | omega)) only [↓vAq, vBq, ↓reduceIte, Nat.reduceBEq, Nat.reduceEqDiff, Nat.reduceLT, Nat.reduceLeDiff, Nat.reduceAdd, Nat.reduceMul, Nat.reduceSub, reduceCtorEq, Int.reduceToNat]) | (refine Br.mk ?_ ?_ <;> intro h) | (refine BrN.mk (fun h => ?_) ?_) | (refine AltVC.mk ?_ ?_)
      · exact fin_mk (by rw [gcode, if_neg (by omega), if_pos (by assumption)])
      · have h4 : (g.rules.any fun r => decide (4 < r.right.length)) = false := by assumption
        refine CallVC.eq (gWithin_spec _ _ _) ?_
        repeat' first | ((first | refine Br.dec ?_ ?_ | refine Br.eqi ?_ ?_) <;> intro h <;> try (exfalso; omega)) | (simp (disch := first | omega | (simp only [vlen]; first | done | omega)) only [↓vAq, vBq, ↓reduceIte, Nat.reduceBEq, Nat.reduceEqDiff, Nat.reduceLT, Nat.reduceLeDiff, Nat.reduceAdd, Nat.reduceMul, Nat.reduceSub, reduceCtorEq, Int.reduceToNat]) | (refine Br.mk ?_ ?_ <;> intro h) | (refine BrN.mk (fun h => ?_) ?_) | (refine AltVC.mk ?_ ?_)
        · refine LoopVC.mk (X := Nat) (fun i => [(38, iv .i64 i)]) (fun i => [(0, ⟨4, [[iv .i64 g.k, iv .i64 g.n, iv .i64 g.start, .sl 2 (tbl rulD g.rules)]], true, false, .fix⟩)]) (fun i => g.rules.length - i) (fun i => i ≤ g.rules.length ∧ ∀ j, j < i → badRule g (g.rules.getD j default) = false) 0 ⟨by omega, by omega⟩ ?_ ?_
          · (simp (disch := first | omega | (simp only [vlen]; first | done | omega)) only [Fits_u, Fits_m, Fits_nil, List.length_append, ↓vAq, vBq, ↓reduceIte, Nat.reduceBEq, Nat.reduceEqDiff, Nat.reduceLT, Nat.reduceLeDiff, Nat.reduceAdd, Nat.reduceMul, Nat.reduceSub, reduceCtorEq, Int.reduceToNat] <;> (repeat' first | rfl | apply And.intro))
          · rintro i ⟨hi, hb⟩
            repeat' first | ((first | refine Br.dec ?_ ?_ | refine Br.eqi ?_ ?_) <;> intro h <;> try (exfalso; omega)) | (simp (disch := first | omega | (simp only [vlen]; first | done | omega)) only [↓vAq, vBq, ↓reduceIte, Nat.reduceBEq, Nat.reduceEqDiff, Nat.reduceLT, Nat.reduceLeDiff, Nat.reduceAdd, Nat.reduceMul, Nat.reduceSub, reduceCtorEq, Int.reduceToNat]) | (refine Br.mk ?_ ?_ <;> intro h) | (refine BrN.mk (fun h => ?_) ?_) | (refine AltVC.mk ?_ ?_)
            · have hm : g.rules.getD i default ∈ g.rules := getD_mem' (by omega)
              refine CallVC.eq (gWithin_spec _ _ _) ?_
              repeat' first | ((first | refine Br.dec ?_ ?_ | refine Br.eqi ?_ ?_) <;> intro h <;> try (exfalso; omega)) | (simp (disch := first | omega | (simp only [vlen]; first | done | omega)) only [↓vAq, vBq, ↓reduceIte, Nat.reduceBEq, Nat.reduceEqDiff, Nat.reduceLT, Nat.reduceLeDiff, Nat.reduceAdd, Nat.reduceMul, Nat.reduceSub, reduceCtorEq, Int.reduceToNat]) | (refine Br.mk ?_ ?_ <;> intro h) | (refine BrN.mk (fun h => ?_) ?_) | (refine AltVC.mk ?_ ?_)
              · refine CallVC.eq (isSigns_spec g (by omega) (by omega) _ (hq _ hm)) ?_
                repeat' first | ((first | refine Br.dec ?_ ?_ | refine Br.eqi ?_ ?_) <;> intro h <;> try (exfalso; omega)) | (simp (disch := first | omega | (simp only [vlen]; first | done | omega)) only [↓vAq, vBq, ↓reduceIte, Nat.reduceBEq, Nat.reduceEqDiff, Nat.reduceLT, Nat.reduceLeDiff, Nat.reduceAdd, Nat.reduceMul, Nat.reduceSub, reduceCtorEq, Int.reduceToNat]) | (refine Br.mk ?_ ?_ <;> intro h) | (refine BrN.mk (fun h => ?_) ?_) | (refine AltVC.mk ?_ ?_)
                · have e : isSigns g (g.rules.getD i default).right = true := by assumption
                  refine loopK.mk (i + 1) (by simp (disch := first | omega | (simp only [vlen]; first | done | omega)) only [↓vAq, vBq, ↓reduceIte, Nat.reduceBEq, Nat.reduceEqDiff, Nat.reduceLT, Nat.reduceLeDiff, Nat.reduceAdd, Nat.reduceMul, Nat.reduceSub, reduceCtorEq, Int.reduceToNat]) ⟨by omega, fun j hj => ?_⟩ (by omega) ?_
                  · by_cases e2 : j = i
                    · subst e2; rw [badRule, e, decide_eq_true (by omega)]; rfl
                    · exact hb j (by omega)
                  · (simp (disch := first | omega | (simp only [vlen]; first | done | omega)) only [Fits_u, Fits_m, Fits_nil, List.length_append, ↓vAq, vBq, ↓reduceIte, Nat.reduceBEq, Nat.reduceEqDiff, Nat.reduceLT, Nat.reduceLeDiff, Nat.reduceAdd, Nat.reduceMul, Nat.reduceSub, reduceCtorEq, Int.reduceToNat] <;> (repeat' first | rfl | apply And.intro))
                · have e : isSigns g (g.rules.getD i default).right = false := by assumption
                  exact fin_mk (by rw [gcode_b, if_neg (by omega), if_neg (by rw [h4]; simp), if_neg (by omega), if_pos (any_hit (i := i) (by omega) (by rw [badRule, e]; simp))])
              · exact fin_mk (by rw [gcode_b, if_neg (by omega), if_neg (by rw [h4]; simp), if_neg (by omega), if_pos (any_hit (i := i) (by omega) (by rw [badRule, decide_eq_false (by omega)]; rfl))])
            · exact fin_mk (by rw [gcode_b, if_neg (by omega), if_neg (by rw [h4]; simp), if_neg (by omega), if_neg (by rw [any_none (i := i) (by omega) hb]; simp)])
        · exact fin_mk (by rw [gcode, if_neg (by omega), if_neg (by rw [h4]; simp), if_pos (by omega)])
    · exact fin_mk (by rw [r1 (by omega)])
  · exact fin_mk (by rw [r1 (by omega)])
end Go.Proofs.Ytjekkbpdgnohcaa

namespace Go.Proofs.Ytjekkbpdgnohcaa
open Go.Dm
set_option linter.unusedSimpArgs false
set_option linter.unnecessarySimpa false
set_option linter.unusedVariables false
end Go.Proofs.Ytjekkbpdgnohcaa

namespace Go.Proofs.Ytjekkbpdgnohcaa
open Go.Dm
set_option linter.unusedSimpArgs false
set_option linter.unnecessarySimpa false
set_option linter.unusedVariables false
structure Valid (g : Grammar) : Prop where
  k : 1 ≤ g.k ∧ g.k ≤ 3
  n : 1 ≤ g.n ∧ g.n ≤ 5
  start : 0 ≤ g.start ∧ g.start < g.n
  len : g.rules.length ≤ 10
  left : ∀ r, r ∈ g.rules → 0 ≤ r.left ∧ r.left < g.n
  long : ∀ r, r ∈ g.rules → r.right.length ≤ 4
  right : ∀ r, r ∈ g.rules → ∀ y, y ∈ r.right → 0 ≤ y ∧ y < g.k + g.n
theorem valid_of {g : Grammar} (h : gcode g = 0) : Valid g := by
  rw [gcode_b] at h
  split at h
  · omega
  · next h1 =>
    split at h
    · omega
    · next h2 =>
      split at h
      · omega
      · next h3 =>
        split at h
        · omega
        · next h4 =>
          have hr : ∀ r, r ∈ g.rules → badRule g r = false := fun r hm => by
            cases hb : badRule g r
            · rfl
            · exact absurd (List.any_eq_true.2 ⟨r, hm, hb⟩) h4
          have hs : ∀ r, r ∈ g.rules → (0 ≤ r.left ∧ r.left < g.n) ∧ isSigns g r.right = true := fun r hm => by
            have := hr r hm
            simpa [badRule] using this
          refine ⟨by omega, by omega, by omega, by omega, fun r hm => (hs r hm).1, fun r hm => ?_, fun r hm y hy => ?_⟩
          · have : ¬ (4 < r.right.length) := fun hl => h2 (List.any_eq_true.2 ⟨r, hm, decide_eq_true hl⟩)
            omega
          · have := List.all_eq_true.1 (hs r hm).2 y hy
            exact of_decide_eq_true this
end Go.Proofs.Ytjekkbpdgnohcaa

namespace Go.Proofs.Ytjekkbpdgnohcaa
open Go.Dm
set_option linter.unusedSimpArgs false
set_option linter.unnecessarySimpa false
set_option linter.unusedVariables false
set_option linter.defProp false
def tm (a b : Nat) : Nat := min (a * b) 1099511627777
def ad (a b : Nat) : Nat := min (a + b) 1099511627777
theorem quoN {b : Nat} : (1099511627777 : Int) / (b : Int) = ((1099511627777 / b : Nat) : Int) := by simp
theorem tm_big {a b : Nat} (hb : b ≠ 0) (h : 1099511627777 / b < a) : tm a b = 1099511627777 := by
  unfold tm
  have := (Nat.div_lt_iff_lt_mul (by omega)).mp h
  omega
theorem tm_small {a b : Nat} (hb : b ≠ 0) (h : ¬ 1099511627777 / b < a) : a * b ≤ 1099511627777 := (Nat.le_div_iff_mul_le (by omega)).mp (by omega)
set_option maxRecDepth 10000 in
set_option maxHeartbeats 4000000 in
theorem table.Times_spec (a b : Nat) (ha : a ≤ 1099511627777) (hb : b ≤ 1099511627777) : Dm.Spec Try.prog 64 [iv .i64 a, iv .i64 b] (· = iv .i64 (tm a b)) := by
  refine spec_of_vc mixed Try.func64 c64 (by rw [show Try.f64.ntmps = _ from Try.ntmps64]; simp) ?_
  unfold m64 r64
  by_cases hb0 : b = 0
  · subst hb0
    repeat' first | ((first | refine Br.dec ?_ ?_ | refine Br.eqi ?_ ?_) <;> intro h <;> try (exfalso; omega)) | (simp (disch := first | omega | (simp only [vlen]; first | done | omega)) only [↓vAq, vBq, ↓reduceIte, Nat.reduceBEq, Nat.reduceEqDiff, Nat.reduceLT, Nat.reduceLeDiff, Nat.reduceAdd, Nat.reduceMul, Nat.reduceSub, reduceCtorEq, Int.reduceToNat]) | (refine Br.mk ?_ ?_ <;> intro h) | (refine BrN.mk (fun h => ?_) ?_) | (refine AltVC.mk ?_ ?_)
    all_goals exact fin_mk (by simp [tm])
  · have hq0 := @quoN b
    obtain ⟨q, hqd⟩ : ∃ q, 1099511627777 / b = q := ⟨_, rfl⟩
    have hql : q ≤ 1099511627777 := hqd ▸ Nat.div_le_self ..
    have hbig := @tm_big a b hb0
    have hsml := @tm_small a b hb0
    obtain ⟨m, hmd⟩ : ∃ m, a * b = m := ⟨_, rfl⟩
    have hmi : (a : Int) * (b : Int) = (m : Int) := by rw [← Int.natCast_mul, hmd]
    have htm : tm a b = min m 1099511627777 := by unfold tm; rw [hmd]
    rw [hqd] at hq0 hbig hsml
    rw [hmd] at hsml
    have hm0 : a = 0 → m = 0 := fun h => by rw [← hmd, h, Nat.zero_mul]
    by_cases h : q < a
    · have e := hbig h
      repeat' first | ((first | refine Br.dec ?_ ?_ | refine Br.eqi ?_ ?_) <;> intro h <;> try (exfalso; omega)) | (simp (disch := first | omega | (simp only [vlen]; first | done | omega)) only [hq0, hmi, ↓vAq, vBq, ↓reduceIte, Nat.reduceBEq, Nat.reduceEqDiff, Nat.reduceLT, Nat.reduceLeDiff, Nat.reduceAdd, Nat.reduceMul, Nat.reduceSub, reduceCtorEq, Int.reduceToNat]) | (refine Br.mk ?_ ?_ <;> intro h) | (refine BrN.mk (fun h => ?_) ?_) | (refine AltVC.mk ?_ ?_)
      all_goals first
        | exact fin_mk (by rw [e]; rfl)
        | exact fin_mk (by rw [htm]; exact viEq (by omega))
    · have hs := hsml h
      repeat' first | ((first | refine Br.dec ?_ ?_ | refine Br.eqi ?_ ?_) <;> intro h <;> try (exfalso; omega)) | (simp (disch := first | omega | (simp only [vlen]; first | done | omega)) only [hq0, hmi, ↓vAq, vBq, ↓reduceIte, Nat.reduceBEq, Nat.reduceEqDiff, Nat.reduceLT, Nat.reduceLeDiff, Nat.reduceAdd, Nat.reduceMul, Nat.reduceSub, reduceCtorEq, Int.reduceToNat]) | (refine Br.mk ?_ ?_ <;> intro h) | (refine BrN.mk (fun h => ?_) ?_) | (refine AltVC.mk ?_ ?_)
      all_goals exact fin_mk (by rw [htm]; exact viEq (by (try split) <;> omega))
set_option maxRecDepth 10000 in
set_option maxHeartbeats 4000000 in
theorem add_spec (a b : Nat) (ha : a ≤ 1099511627777) (hb : b ≤ 1099511627777) : Dm.Spec Try.prog 61 [iv .i64 a, iv .i64 b] (· = iv .i64 (ad a b)) := by
  refine spec_of_vc mixed Try.func61 c61 (by rw [show Try.f61.ntmps = _ from Try.ntmps61]; simp) ?_
  unfold m61 r61
  unfold ad
  repeat' first | ((first | refine Br.dec ?_ ?_ | refine Br.eqi ?_ ?_) <;> intro h <;> try (exfalso; omega)) | (simp (disch := first | omega | (simp only [vlen]; first | done | omega)) only [↓vAq, vBq, ↓reduceIte, Nat.reduceBEq, Nat.reduceEqDiff, Nat.reduceLT, Nat.reduceLeDiff, Nat.reduceAdd, Nat.reduceMul, Nat.reduceSub, reduceCtorEq, Int.reduceToNat]) | (refine Br.mk ?_ ?_ <;> intro h) | (refine BrN.mk (fun h => ?_) ?_) | (refine AltVC.mk ?_ ?_)
  exact fin_mk (viEq (by (try split) <;> omega))
theorem times_cp (a b : Nat) : Dm.Spec Try.prog 64 [iv .i64 (cp a), iv .i64 (cp b)] (· = iv .i64 (cp (a * b))) := by
  have h := table.Times_spec (cp a) (cp b) cp_le cp_le
  rwa [show tm (cp a) (cp b) = cp (a * b) from cp_mul] at h
theorem add_cp (a b : Nat) : Dm.Spec Try.prog 61 [iv .i64 (cp a), iv .i64 (cp b)] (· = iv .i64 (cp (a + b))) := by
  have h := add_spec (cp a) (cp b) cp_le cp_le
  rwa [show ad (cp a) (cp b) = cp (a + b) from cp_add] at h
end Go.Proofs.Ytjekkbpdgnohcaa

namespace Go.Dm
set_option linter.unusedSimpArgs false
set_option linter.defProp false
def ltAll : List Nat → Nat → Prop
  | [], _ => True
  | x :: r, N => x < N ∧ ltAll r N
theorem ltAll_nil {N : Nat} : ltAll [] N = True := (rfl)
theorem ltAll_cons {x N : Nat} {r : List Nat} : ltAll (x :: r) N = (x < N ∧ ltAll r N) := (rfl)
theorem ltAll_spec {N : Nat} : ∀ {l : List Nat}, ltAll l N → ∀ x, x ∈ l → x < N
  | y :: r, h, x, hx => by
    rcases List.mem_cons.1 hx with rfl | hx
    · exact h.1
    · exact ltAll_spec h.2 x hx
def lentM (s : S) (ι : List Nat) : List Nat → List Ob → Prop
  | [], _ => True
  | _, [] => True
  | x :: r, ob :: q => s.M x = some (ob.ren (iotaO ι s.N)) ∧ lentM s ι r q
theorem lentM_nil {s : S} {ι : List Nat} {q : List Ob} : lentM s ι [] q = True := (rfl)
theorem lentM_cons {s : S} {ι : List Nat} {x : Nat} {r : List Nat} {ob : Ob} {q : List Ob} : lentM s ι (x :: r) (ob :: q) = (s.M x = some (ob.ren (iotaO ι s.N)) ∧ lentM s ι r q) := (rfl)
theorem lentM_spec {s : S} {ι : List Nat} : ∀ {l : List Nat} {q : List Ob}, l.length = q.length → lentM s ι l q → ∀ k ob, q[k]? = some ob → s.M (l.getD k 0) = some (ob.ren (iotaO ι s.N))
  | [], [], _, _, k, ob, h => by simp at h
  | [], _ :: _, hl, _, _, _, _ => by simp at hl
  | _ :: _, [], hl, _, _, _, _ => by simp at hl
  | x :: r, o :: q, hl, hm, k, ob, h => by
    cases k with
    | zero => simp at h; subst h; exact hm.1
    | succ k => simpa using lentM_spec (by simpa using hl) hm.2 k ob (by simpa using h)
theorem CallVC.lendE {P : Program} {f : FuncId} {views raws : List D} {own : Bool} {s : S} {d : Option Nat} {K : S → Prop} (ι : List Nat) (ds : List D) (obs : List Ob) {R : D → List (Option Ob) → Prop} (h : SpecH P f ds obs R) (hn : ι.Nodup) (hl : ι.length = obs.length)
    (hq : ltAll ι s.N ∧ raws = ds.map (D.ren (iotaO ι s.N)) ∧ lentM s ι ι obs) (hk : ∀ r l, R r l → K ((s.after ι l).put d (r.ren (iotaO ι s.N)))) : CallV P f views own raws s d K :=
  CallVC.lend ι ds obs h hn (ltAll_spec hq.1) hl hq.2.1 (lentM_spec hl hq.2.2) hk
def vle0 := And.intro @ltAll_nil <| And.intro @ltAll_cons <| And.intro @lentM_nil @lentM_cons
end Go.Dm

namespace Go.Dm
set_option linter.unusedSimpArgs false
set_option linter.defProp false
theorem kBldS_ii {cells : List D} {off : Nat} {k k' : IntKind} {a b : Int} {go : List D → Prop} : kBldS off 2 cells go [.v (.int k a), .v (.int k' b)] = ChkD (off + 2 ≤ cells.length) (splice cells off [.v (.int k a), .v (.int k' b)]) go := by
  rw [kBldS_n]; unfold ChkD; simp [D.one, Value.one]
theorem kBldS_is {cells : List D} {off : Nat} {k : IntKind} {a : Int} {sz : Nat} {es : List (List D)} {go : List D → Prop} : kBldS off 2 cells go [.v (.int k a), .sl sz es] = ChkD (off + 2 ≤ cells.length) (splice cells off [.v (.int k a), .sl sz es]) go := by
  rw [kBldS_n]; unfold ChkD; simp [D.one, Value.one]
theorem kBldS_iiis {cells : List D} {off : Nat} {k k' k'' : IntKind} {a b c : Int} {sz : Nat} {es : List (List D)} {go : List D → Prop} : kBldS off 4 cells go [.v (.int k a), .v (.int k' b), .v (.int k'' c), .sl sz es] = ChkD (off + 4 ≤ cells.length) (splice cells off [.v (.int k a), .v (.int k' b), .v (.int k'' c), .sl sz es]) go := by
  rw [kBldS_n]; unfold ChkD; simp [D.one, Value.one]
section
variable {P : Program} {s : S}
theorem fold_kill {σ τ i o : Nat} {fl : Bool} {K : S → Prop} (h : kFold σ τ i o fl K s) : ∃ s', Gho s (D.kill σ) s' ∧ K s' := by
  unfold kFold kM at h
  split at h
  · next ob hM =>
    unfold kFoldA kM at h
    split at h
    · next ob' hM' =>
      obtain ⟨⟨h1, h1', h2, h3, h4, h6, h7⟩, hk⟩ := h
      unfold kFoldC at hk
      split at hk
      · next υ sz off n hc =>
        obtain ⟨rfl, rfl, rfl, k4, k5, h5, k6⟩ := hk
        exact ⟨_, .fold s υ τ i o n fl ob ob' ⟨h1, h1'⟩ hM hM' h2 h3 h4 h5 h6 h7 hc k4 k5, k6⟩
      · next υ hc =>
        obtain ⟨rfl, k1, k2, k5, k6⟩ := hk
        exact ⟨_, .foldm s υ τ i o fl ob ob' ⟨h1, h1'⟩ hM hM' h2 h3 h4 k1 k2 h6 h7 hc k5, k6⟩
      · exact hk.elim
    · exact h.elim
  · exact h.elim
def callFd (P : Program) (f : FuncId) (d : Option Nat) (K : S → Prop) (σ : Nat) (raws : List D) (s' : S) : Prop := CallVC P f d K (raws.map (D.kill σ)) s'
theorem callFd_eq {f : FuncId} {d : Option Nat} {K : S → Prop} {σ : Nat} {raws : List D} : callFd P f d K σ raws s = kD (raws.map (D.kill σ)) (kCallw P f d K s) := (rfl)
theorem nlo_id {τ i o z : Nat} {K : S → Prop} (h : kNlo τ i o z K s) : ∃ s', Gho s (fun d => d) s' ∧ K s' := by
  unfold kNlo kM at h
  split at h
  · next ob hM =>
    obtain ⟨⟨h1, h2, h3, h4⟩, hk⟩ := h
    exact ⟨_, .nlo s τ i o z ob h1 hM h2 h3 h4, hk⟩
  · exact h.elim
def callNd (P : Program) (f : FuncId) (d : Option Nat) (K : S → Prop) (raws : List D) (s' : S) : Prop := CallVC P f d K (raws.map fun d => d) s'
theorem callNd_eq {f : FuncId} {d : Option Nat} {K : S → Prop} {raws : List D} : callNd P f d K raws s = kD raws (kCallw P f d K s) := by
  unfold callNd; rw [List.map_id']; rfl
theorem CallVC.nlo {f : FuncId} {d : Option Nat} {K : S → Prop} {raws views : List D} {own : Bool} (τ i o z : Nat) (h : kNlo τ i o z (callNd P f d K raws) s) : CallV P f views own raws s d K := fun _ _ => by
  obtain ⟨s', hg, hk⟩ := nlo_id h
  exact .ghost raws s _ _ hg hk
theorem CallVC.fold {f : FuncId} {d : Option Nat} {K : S → Prop} {raws views : List D} {own : Bool} (σ τ i o : Nat) (fl : Bool) (h : kFold σ τ i o fl (callFd P f d K σ raws) s) : CallV P f views own raws s d K := fun _ _ => by
  obtain ⟨s', hg, hk⟩ := fold_kill h
  exact .ghost raws s _ _ hg hk
def finHx (n0 : Nat) (R : D → List (Option Ob) → Prop) (d : D) (s' : S) : Prop := FinH n0 R s' d
theorem finHx_eq {n0 : Nat} {R : D → List (Option Ob) → Prop} {d : D} : finHx n0 R d s = FinH n0 R s d := (rfl)
theorem FinH.fold {n0 : Nat} {R : D → List (Option Ob) → Prop} {d : D} (σ τ i o : Nat) (fl : Bool) (hd : d.kill σ = d) (h : kFold σ τ i o fl (finHx n0 R d) s) : FinH n0 R s d := by
  obtain ⟨s', hg, s'', g, l, h1, h2, h3, h4, h5⟩ := fold_kill h
  refine ⟨s'', _, l, .step _ _ _ _ _ hg h1, h2, h3, h4, ?_⟩
  show R ((g (d.kill σ)).trim l.length) l
  rw [hd]; exact h5
end
def vmr := And.intro @callFd_eq <| And.intro @callNd_eq <| And.intro @finHx_eq <| And.intro @kBldS_ii <| And.intro @kBldS_is @kBldS_iiis
end Go.Dm

namespace Go.Proofs.Ytjekkbpdgnohcaa
open Go.Dm
set_option linter.unusedSimpArgs false
set_option linter.unnecessarySimpa false
set_option linter.unusedVariables false
set_option linter.defProp false
structure KE where
  r : Int
  f : Int
  i : Nat
  j : Nat
  v : Nat
deriving Inhabited
def keD (e : KE) : List D := [iv .i64 e.r, iv .i64 e.f, iv .i64 e.i, iv .i64 e.j, iv .i64 e.v]
theorem keD_eq {e : KE} : keD e = [iv .i64 e.r, iv .i64 e.f, iv .i64 e.i, iv .i64 e.j, iv .i64 e.v] := (rfl)
def kv (g : Grammar) (w : List Int) (r f : Int) (i j : Nat) : Nat := if r < 0 then trees g w f i j else rowN g w ((g.rules.getD r.toNat default).right.drop f.toNat) i j
theorem kv_neg {g : Grammar} {w : List Int} {f : Int} {i j : Nat} : kv g w (-1) f i j = trees g w f i j := by unfold kv; rw [if_pos (by omega)]
theorem kv_nat {g : Grammar} {w : List Int} {q f i j : Nat} : kv g w q f i j = rowN g w ((g.rules.getD q default).right.drop f) i j := by unfold kv; rw [if_neg (by omega), Int.toNat_natCast, Int.toNat_natCast]
def MI (g : Grammar) (w : List Int) (L : List KE) : Prop := ∀ e, e ∈ L → e.v = cp (kv g w e.r e.f e.i e.j)
theorem MI.nil {g : Grammar} {w : List Int} : MI g w [] := fun e h => by cases h
theorem MI.add {g : Grammar} {w : List Int} {L : List KE} (h : MI g w L) {e : KE} (he : e.v = cp (kv g w e.r e.f e.i e.j)) : MI g w (L ++ [e]) := fun x hx => by
  rcases List.mem_append.mp hx with h1 | h1
  · exact h x h1
  · rw [List.mem_singleton.mp h1]; exact he
theorem MI.set {g : Grammar} {w : List Int} {L : List KE} (h : MI g w L) {e : KE} {r : Nat} (he : e.v = cp (kv g w e.r e.f e.i e.j)) : MI g w (L.set r e) := fun x hx => by
  rcases List.mem_or_eq_of_mem_set hx with h1 | h1
  · exact h x h1
  · rw [h1]; exact he
theorem ke_in {g : Grammar} {w : List Int} {L : List KE} (h : MI g w L) {r : Nat} {q f : Int} {i j : Nat} (hr : r < (tbl keD L).length) (he : Agr (((tbl keD L).getD r []).take 4) [.v (.int .i64 q), .v (.int .i64 f), .v (.int .i64 i), .v (.int .i64 j)]) : (tbl keD L).getD r [] = [iv .i64 q, iv .i64 f, iv .i64 i, iv .i64 j, iv .i64 (cp (kv g w q f i j))] := by
  rw [tbl_len] at hr
  rw [tbl_get hr] at he ⊢
  rw [keD_eq] at he ⊢
  simp only [List.take_succ_cons, List.take_zero, Agr_v, D.v.injEq, Value.int.injEq, true_and, Int.natCast_inj] at he
  have hm := h _ (getD_mem' (l := L) (i := r) hr)
  rw [hm, he.1, he.2.1, he.2.2.1, he.2.2.2.1]
theorem ke_app {L : List KE} {q f : Int} {i j v : Nat} : tbl keD L ++ [[D.v (.int .i64 q), D.v (.int .i64 f), D.v (.int .i64 i), D.v (.int .i64 j), D.v (.int .i64 v)]] = tbl keD (L ++ [⟨q, f, i, j, v⟩]) := by rw [tbl_app]; rfl
theorem ke_set {L : List KE} {r : Nat} {q f : Int} {i j v : Nat} : (tbl keD L).set r [D.v (.int .i64 q), D.v (.int .i64 f), D.v (.int .i64 i), D.v (.int .i64 j), D.v (.int .i64 v)] = tbl keD (L.set r ⟨q, f, i, j, v⟩) := by rw [← tbl_set]; rfl
def vke := And.intro vmr <| And.intro @ke_app <| And.intro @ke_set <| And.intro @rulD_eq @Int.add_sub_cancel
def coO (g : Grammar) (w : List Int) (L : List KE) : List Ob := [⟨6, [[iv .i64 g.k, iv .i64 g.n, iv .i64 g.start, .sl 2 (tbl rulD g.rules), .sl 1 (i64s w), .mp 1]], false, false, .fix⟩, ⟨5, tbl keD L, true, false, .map [.i64, .i64, .i64, .i64] true false⟩]
def coR (g : Grammar) (w : List Int) (n : Nat) (d : D) (o : List (Option Ob)) : Prop := ∃ L, d = iv .i64 (cp n) ∧ o = (coO g w L).map some ∧ MI g w L
def sgP (g : Grammar) (w : List Int) (x : Int) (i j : Nat) : Prop := ∀ L, MI g w L → Dm.SpecH Try.prog 45 [.ptr 0 6 0 0, iv .i64 x, .ag [iv .i64 i, iv .i64 j]] (coO g w L) (coR g w (trees g w x i j))
def rwP (g : Grammar) (w : List Int) (q f i j : Nat) : Prop := ∀ L, MI g w L → Dm.SpecH Try.prog 53 [.ptr 0 6 0 0, iv .i64 q, iv .i64 f, .ag [iv .i64 i, iv .i64 j]] (coO g w L) (coR g w (rowN g w ((g.rules.getD q default).right.drop f) i j))
structure CC (g : Grammar) (w : List Int) : Prop where
  v : Valid g
  p : Proper g
  w : w.length ≤ 12
theorem ctr_fin {g : Grammar} {w : List Int} {s : S} {n : Nat} {v : Int} {L : List KE} (h1 : 2 ≤ s.N) (h2 : fitL s 2 0 ((coO g w L).map some)) (hv : v = (cp n : Nat)) (hL : MI g w L) : FinH 2 (coR g w n) s (D.v (.int .i64 v)) :=
  finH_mk ((coO g w L).map some) (by simp [coO]) (by simpa [coO] using h1) (by simpa [coO] using h2) ⟨L, by subst hv; rw [trim_v], rfl, hL⟩
set_option maxRecDepth 10000 in
set_option maxHeartbeats 4000000 in
theorem sgnS_spec (g : Grammar) (w : List Int) (hc : CC g w) (x : Int) (i j : Nat) (hx : x < g.k) (hx0 : 0 ≤ x) (hij : i ≤ j) (hj : j ≤ w.length) (L : List KE) (hL : MI g w L) : Dm.SpecH Try.prog 45 [.ptr 0 6 0 0, iv .i64 x, .ag [iv .i64 i, iv .i64 j]] (coO g w L) (coR g w (trees g w x i j)) := by
  refine specH_of_vc mixed Try.func45 c45 (by rw [show Try.f45.ntmps = _ from Try.ntmps45]; simp) ?_
  unfold m45 r45
  have hk := hc.v.k
  have hw := hc.w
  rw [trees_sym hx]
  unfold coO
  repeat' first | ((first | refine Br.dec ?_ ?_ | refine Br.eqi ?_ ?_) <;> intro h <;> try (exfalso; omega)) | (simp (disch := first | omega | (simp only [vlen]; first | done | omega)) only [vke, ↓vAq, vBq, ↓reduceIte, Nat.reduceBEq, Nat.reduceEqDiff, Nat.reduceLT, Nat.reduceLeDiff, Nat.reduceAdd, Nat.reduceMul, Nat.reduceSub, reduceCtorEq, Int.reduceToNat]) | (refine Br.mk ?_ ?_ <;> intro h) | (refine BrN.mk (fun h => ?_) ?_) | (refine AltVC.mk ?_ ?_)
  · refine ctr_fin (L := L) (by simp (disch := first | omega | (simp only [vlen]; first | done | omega)) only [vke, ↓vAq, vBq, ↓reduceIte, Nat.reduceBEq, Nat.reduceEqDiff, Nat.reduceLT, Nat.reduceLeDiff, Nat.reduceAdd, Nat.reduceMul, Nat.reduceSub, reduceCtorEq, Int.reduceToNat]) (by unfold coO; simp (disch := first | omega | (simp only [vlen]; first | done | omega)) only [vke, ↓vAq, vBq, ↓reduceIte, Nat.reduceBEq, Nat.reduceEqDiff, Nat.reduceLT, Nat.reduceLeDiff, Nat.reduceAdd, Nat.reduceMul, Nat.reduceSub, reduceCtorEq, Int.reduceToNat]) ?_ hL
    unfold symV; rw [if_pos ⟨by omega, by assumption⟩]; rfl
  · refine ctr_fin (L := L) (by simp (disch := first | omega | (simp only [vlen]; first | done | omega)) only [vke, ↓vAq, vBq, ↓reduceIte, Nat.reduceBEq, Nat.reduceEqDiff, Nat.reduceLT, Nat.reduceLeDiff, Nat.reduceAdd, Nat.reduceMul, Nat.reduceSub, reduceCtorEq, Int.reduceToNat]) (by unfold coO; simp (disch := first | omega | (simp only [vlen]; first | done | omega)) only [vke, ↓vAq, vBq, ↓reduceIte, Nat.reduceBEq, Nat.reduceEqDiff, Nat.reduceLT, Nat.reduceLeDiff, Nat.reduceAdd, Nat.reduceMul, Nat.reduceSub, reduceCtorEq, Int.reduceToNat]) ?_ hL
    unfold symV; rw [if_neg fun h => by have := h.2; contradiction]; rfl
  · refine ctr_fin (L := L) (by simp (disch := first | omega | (simp only [vlen]; first | done | omega)) only [vke, ↓vAq, vBq, ↓reduceIte, Nat.reduceBEq, Nat.reduceEqDiff, Nat.reduceLT, Nat.reduceLeDiff, Nat.reduceAdd, Nat.reduceMul, Nat.reduceSub, reduceCtorEq, Int.reduceToNat]) (by unfold coO; simp (disch := first | omega | (simp only [vlen]; first | done | omega)) only [vke, ↓vAq, vBq, ↓reduceIte, Nat.reduceBEq, Nat.reduceEqDiff, Nat.reduceLT, Nat.reduceLeDiff, Nat.reduceAdd, Nat.reduceMul, Nat.reduceSub, reduceCtorEq, Int.reduceToNat]) ?_ hL
    unfold symV; rw [if_neg fun h => by have := h.1; omega]; rfl
def rwF (g : Grammar) (w : List Int) (q f i j m : Nat) : Nat := trees g w ((g.rules.getD q default).right.getD f 0) i m * rowN g w ((g.rules.getD q default).right.drop (f + 1)) m j
theorem rwF_eq {g : Grammar} {w : List Int} {q f i j : Nat} (h : f + 1 < (g.rules.getD q default).right.length) : rowN g w ((g.rules.getD q default).right.drop f) i j = tsum (rwF g w q f i j) (i + 1) j := rowN_drop h
def ctO (g : Grammar) (w : List Int) (L : List KE) (q f i j : Nat) : List (Nat × Ob) := [(0, ⟨6, [[iv .i64 g.k, iv .i64 g.n, iv .i64 g.start, .sl 2 (tbl rulD g.rules), .sl 1 (i64s w), .mp 1]], false, false, .fix⟩), (1, ⟨5, tbl keD L, true, false, .map [.i64, .i64, .i64, .i64] true false⟩), (2, ⟨2, [[iv .i64 i, iv .i64 j]], true, false, .fix⟩), (3, ⟨4, [[iv .i64 q, iv .i64 f, iv .i64 i, iv .i64 j]], true, false, .fix⟩)]
set_option maxRecDepth 10000 in
set_option maxHeartbeats 4000000 in
theorem row_spec (g : Grammar) (w : List Int) (hc : CC g w) (n : Nat) (ihS : ∀ x i j, 0 ≤ x → x < g.k + g.n → i ≤ j → j ≤ w.length → j - i < n → sgP g w x i j) (ihR : ∀ q f i j, q < g.rules.length → f < (g.rules.getD q default).right.length → i ≤ j → j ≤ w.length → j - i < n → rwP g w q f i j) (q f i j : Nat) (hq : q < g.rules.length) (hf : f < (g.rules.getD q default).right.length) (hij : i ≤ j) (hj : j ≤ w.length) (hn : j - i ≤ n) (hs : (g.rules.getD q default).right.length = f + 1 → sgP g w ((g.rules.getD q default).right.getD f 0) i j) (L : List KE) (hL : MI g w L) : Dm.SpecH Try.prog 53 [.ptr 0 6 0 0, iv .i64 q, iv .i64 f, .ag [iv .i64 i, iv .i64 j]] (coO g w L) (coR g w (rowN g w ((g.rules.getD q default).right.drop f) i j)) := by
  refine specH_of_vc mixed Try.func53 c53 (by rw [show Try.f53.ntmps = _ from Try.ntmps53]; simp) ?_
  unfold m53 r53
  have hk := hc.v.k
  have hw := hc.w
  have hm : g.rules.getD q default ∈ g.rules := getD_mem' hq
  have hlong := hc.v.long _ hm
  have hlen := hc.v.len
  have hright := hc.v.right _ hm
  have hx : ∀ k, k < (g.rules.getD q default).right.length → 0 ≤ (g.rules.getD q default).right.getD k 0 ∧ (g.rules.getD q default).right.getD k 0 < g.k + g.n := fun k hk => hright _ (getD_mem' (l := (g.rules.getD q default).right) (i := k) hk)
  have hdl : ((g.rules.getD q default).right.drop f).length = (g.rules.getD q default).right.length - f := List.length_drop
  have hd0 : ((g.rules.getD q default).right.drop f).getD 0 0 = (g.rules.getD q default).right.getD f 0 := by simp [List.getD]
  by_cases hsh : j - i < (g.rules.getD q default).right.length - f
  · unfold coO
    repeat' first | ((first | refine Br.dec ?_ ?_ | refine Br.eqi ?_ ?_) <;> intro h <;> try (exfalso; omega)) | (simp (disch := first | omega | (simp only [vlen]; first | done | omega)) only [vke, hdl, ↓vAq, vBq, ↓reduceIte, Nat.reduceBEq, Nat.reduceEqDiff, Nat.reduceLT, Nat.reduceLeDiff, Nat.reduceAdd, Nat.reduceMul, Nat.reduceSub, reduceCtorEq, Int.reduceToNat]) | (refine Br.mk ?_ ?_ <;> intro h) | (refine BrN.mk (fun h => ?_) ?_) | (refine AltVC.mk ?_ ?_)
    refine ctr_fin (L := L) (by simp (disch := first | omega | (simp only [vlen]; first | done | omega)) only [vke, ↓vAq, vBq, ↓reduceIte, Nat.reduceBEq, Nat.reduceEqDiff, Nat.reduceLT, Nat.reduceLeDiff, Nat.reduceAdd, Nat.reduceMul, Nat.reduceSub, reduceCtorEq, Int.reduceToNat]) (by unfold coO; simp (disch := first | omega | (simp only [vlen]; first | done | omega)) only [vke, ↓vAq, vBq, ↓reduceIte, Nat.reduceBEq, Nat.reduceEqDiff, Nat.reduceLT, Nat.reduceLeDiff, Nat.reduceAdd, Nat.reduceMul, Nat.reduceSub, reduceCtorEq, Int.reduceToNat]) ?_ hL
    rw [rowN_short hc.p (by omega)]; rfl
  by_cases hone : (g.rules.getD q default).right.length = f + 1
  · have hS := hs hone L hL
    rw [rowN_last (by omega)]
    unfold coO
    repeat' first | ((first | refine Br.dec ?_ ?_ | refine Br.eqi ?_ ?_) <;> intro h <;> try (exfalso; omega)) | (simp (disch := first | omega | (simp only [vlen]; first | done | omega)) only [vke, hdl, hd0, ↓vAq, vBq, ↓reduceIte, Nat.reduceBEq, Nat.reduceEqDiff, Nat.reduceLT, Nat.reduceLeDiff, Nat.reduceAdd, Nat.reduceMul, Nat.reduceSub, reduceCtorEq, Int.reduceToNat]) | (refine Br.mk ?_ ?_ <;> intro h) | (refine BrN.mk (fun h => ?_) ?_) | (refine AltVC.mk ?_ ?_)
    refine CallVC.lendE [0, 1] [.ptr 0 6 0 0, iv .i64 ((g.rules.getD q default).right.getD f 0), .ag [iv .i64 i, iv .i64 j]] (coO g w L) hS (by simp) (by rfl) (by unfold coO; (simp (disch := first | omega | (simp only [vlen]; first | done | omega)) only [vle0, ↓vAq, vBq, ↓reduceIte, Nat.reduceBEq, Nat.reduceEqDiff, Nat.reduceLT, Nat.reduceLeDiff, Nat.reduceAdd, Nat.reduceMul, Nat.reduceSub, reduceCtorEq, Int.reduceToNat] <;> (repeat' first | rfl | apply And.intro))) ?_
    rintro _ _ ⟨L2, rfl, rfl, hL2⟩
    unfold coO
    repeat' first | ((first | refine Br.dec ?_ ?_ | refine Br.eqi ?_ ?_) <;> intro h <;> try (exfalso; omega)) | (simp (disch := first | omega | (simp only [vlen]; first | done | omega)) only [vke, ↓vAq, vBq, ↓reduceIte, Nat.reduceBEq, Nat.reduceEqDiff, Nat.reduceLT, Nat.reduceLeDiff, Nat.reduceAdd, Nat.reduceMul, Nat.reduceSub, reduceCtorEq, Int.reduceToNat]) | (refine Br.mk ?_ ?_ <;> intro h) | (refine BrN.mk (fun h => ?_) ?_) | (refine AltVC.mk ?_ ?_)
    exact ctr_fin (L := L2) (by simp (disch := first | omega | (simp only [vlen]; first | done | omega)) only [vke, ↓vAq, vBq, ↓reduceIte, Nat.reduceBEq, Nat.reduceEqDiff, Nat.reduceLT, Nat.reduceLeDiff, Nat.reduceAdd, Nat.reduceMul, Nat.reduceSub, reduceCtorEq, Int.reduceToNat]) (by unfold coO; simp (disch := first | omega | (simp only [vlen]; first | done | omega)) only [vke, ↓vAq, vBq, ↓reduceIte, Nat.reduceBEq, Nat.reduceEqDiff, Nat.reduceLT, Nat.reduceLeDiff, Nat.reduceAdd, Nat.reduceMul, Nat.reduceSub, reduceCtorEq, Int.reduceToNat]) rfl hL2
  · rw [rwF_eq (by omega)]
    have hlen1 : f + 1 < (g.rules.getD q default).right.length := by omega
    unfold coO
    repeat' first | ((first | refine Br.dec ?_ ?_ | refine Br.eqi ?_ ?_) <;> intro h <;> try (exfalso; omega)) | (simp (disch := first | omega | (simp only [vlen]; first | done | omega)) only [vke, hdl, hd0, ↓vAq, vBq, ↓reduceIte, Nat.reduceBEq, Nat.reduceEqDiff, Nat.reduceLT, Nat.reduceLeDiff, Nat.reduceAdd, Nat.reduceMul, Nat.reduceSub, reduceCtorEq, Int.reduceToNat]) | (refine Br.mk ?_ ?_ <;> intro h) | (refine BrN.mk (fun h => ?_) ?_) | (refine AltVC.mk ?_ ?_)
    refine BrK.mk (fun r hr he => ?_) (fun hnn => ?_)
    · have hR := ke_in hL hr he
      rw [kv_nat, rwF_eq (by omega)] at hR
      repeat' first | ((first | refine Br.dec ?_ ?_ | refine Br.eqi ?_ ?_) <;> intro h <;> try (exfalso; omega)) | (simp (disch := first | omega | (simp only [vlen]; first | done | omega)) only [vke, hdl, hd0, hR, ↓vAq, vBq, ↓reduceIte, Nat.reduceBEq, Nat.reduceEqDiff, Nat.reduceLT, Nat.reduceLeDiff, Nat.reduceAdd, Nat.reduceMul, Nat.reduceSub, reduceCtorEq, Int.reduceToNat]) | (refine Br.mk ?_ ?_ <;> intro h) | (refine BrN.mk (fun h => ?_) ?_) | (refine AltVC.mk ?_ ?_)
      exact ctr_fin (L := L) (by simp (disch := first | omega | (simp only [vlen]; first | done | omega)) only [vke, ↓vAq, vBq, ↓reduceIte, Nat.reduceBEq, Nat.reduceEqDiff, Nat.reduceLT, Nat.reduceLeDiff, Nat.reduceAdd, Nat.reduceMul, Nat.reduceSub, reduceCtorEq, Int.reduceToNat]) (by unfold coO; simp (disch := first | omega | (simp only [vlen]; first | done | omega)) only [vke, ↓vAq, vBq, ↓reduceIte, Nat.reduceBEq, Nat.reduceEqDiff, Nat.reduceLT, Nat.reduceLeDiff, Nat.reduceAdd, Nat.reduceMul, Nat.reduceSub, reduceCtorEq, Int.reduceToNat]) rfl hL
    · repeat' first | ((first | refine Br.dec ?_ ?_ | refine Br.eqi ?_ ?_) <;> intro h <;> try (exfalso; omega)) | (simp (disch := first | omega | (simp only [vlen]; first | done | omega)) only [vke, hdl, hd0, ↓vAq, vBq, ↓reduceIte, Nat.reduceBEq, Nat.reduceEqDiff, Nat.reduceLT, Nat.reduceLeDiff, Nat.reduceAdd, Nat.reduceMul, Nat.reduceSub, reduceCtorEq, Int.reduceToNat]) | (refine Br.mk ?_ ?_ <;> intro h) | (refine BrN.mk (fun h => ?_) ?_) | (refine AltVC.mk ?_ ?_)
      refine LoopVC.mk (X := Nat × List KE) (fun x => [(13, iv .i64 (cp (tsum (rwF g w q f i j) (i + 1) x.1))), (14, iv .i64 x.1)]) (fun x => ctO g w x.2 q f i j) (fun x => j - x.1) (fun x => i + 1 ≤ x.1 ∧ x.1 ≤ j ∧ MI g w x.2) (i + 1, L) ⟨Nat.le_refl _, by omega, hL⟩ ?_ ?_
      · unfold ctO
        rw [tsum_empty (Nat.le_refl _)]
        (simp (disch := first | omega | (simp only [vlen]; first | done | omega)) only [Fits_u, Fits_m, Fits_nil, List.length_append, vke, ↓vAq, vBq, ↓reduceIte, Nat.reduceBEq, Nat.reduceEqDiff, Nat.reduceLT, Nat.reduceLeDiff, Nat.reduceAdd, Nat.reduceMul, Nat.reduceSub, reduceCtorEq, Int.reduceToNat] <;> (repeat' first | rfl | apply And.intro))
        all_goals first | rfl | trace_state
      · rintro ⟨e, Lx⟩ ⟨he1, he2, hLx⟩
        simp only at he1 he2 hLx ⊢
        unfold ctO
        by_cases hej : e < j
        · repeat' first | ((first | refine Br.dec ?_ ?_ | refine Br.eqi ?_ ?_) <;> intro h <;> try (exfalso; omega)) | (simp (disch := first | omega | (simp only [vlen]; first | done | omega)) only [vke, hdl, hd0, ↓vAq, vBq, ↓reduceIte, Nat.reduceBEq, Nat.reduceEqDiff, Nat.reduceLT, Nat.reduceLeDiff, Nat.reduceAdd, Nat.reduceMul, Nat.reduceSub, reduceCtorEq, Int.reduceToNat]) | (refine Br.mk ?_ ?_ <;> intro h) | (refine BrN.mk (fun h => ?_) ?_) | (refine AltVC.mk ?_ ?_)
          refine CallVC.lendE [0, 1] [.ptr 0 6 0 0, iv .i64 ((g.rules.getD q default).right.getD f 0), .ag [iv .i64 i, iv .i64 e]] (coO g w Lx) (ihS _ i e (hx f hf).1 (hx f hf).2 (by omega) (by omega) (by omega) Lx hLx) (by simp) (by rfl) (by unfold coO; (simp (disch := first | omega | (simp only [vlen]; first | done | omega)) only [vle0, ↓vAq, vBq, ↓reduceIte, Nat.reduceBEq, Nat.reduceEqDiff, Nat.reduceLT, Nat.reduceLeDiff, Nat.reduceAdd, Nat.reduceMul, Nat.reduceSub, reduceCtorEq, Int.reduceToNat] <;> (repeat' first | rfl | apply And.intro))) ?_
          rintro _ _ ⟨L2, rfl, rfl, hL2⟩
          unfold coO
          repeat' first | ((first | refine Br.dec ?_ ?_ | refine Br.eqi ?_ ?_) <;> intro h <;> try (exfalso; omega)) | (simp (disch := first | omega | (simp only [vlen]; first | done | omega)) only [vke, hdl, hd0, ↓vAq, vBq, ↓reduceIte, Nat.reduceBEq, Nat.reduceEqDiff, Nat.reduceLT, Nat.reduceLeDiff, Nat.reduceAdd, Nat.reduceMul, Nat.reduceSub, reduceCtorEq, Int.reduceToNat]) | (refine Br.mk ?_ ?_ <;> intro h) | (refine BrN.mk (fun h => ?_) ?_) | (refine AltVC.mk ?_ ?_)
          · refine CallVC.lendE [0, 1] [.ptr 0 6 0 0, iv .i64 q, iv .i64 (f + 1 : Nat), .ag [iv .i64 e, iv .i64 j]] (coO g w L2) (ihR q (f + 1) e j hq hlen1 (by omega) (by omega) (by omega) L2 hL2) (by simp) (by rfl) (by unfold coO; (simp (disch := first | omega | (simp only [vlen]; first | done | omega)) only [vle0, ↓vAq, vBq, ↓reduceIte, Nat.reduceBEq, Nat.reduceEqDiff, Nat.reduceLT, Nat.reduceLeDiff, Nat.reduceAdd, Nat.reduceMul, Nat.reduceSub, reduceCtorEq, Int.reduceToNat] <;> (repeat' first | rfl | apply And.intro))) ?_
            rintro _ _ ⟨L3, rfl, rfl, hL3⟩
            unfold coO
            repeat' first | ((first | refine Br.dec ?_ ?_ | refine Br.eqi ?_ ?_) <;> intro h <;> try (exfalso; omega)) | (simp (disch := first | omega | (simp only [vlen]; first | done | omega)) only [vke, ↓vAq, vBq, ↓reduceIte, Nat.reduceBEq, Nat.reduceEqDiff, Nat.reduceLT, Nat.reduceLeDiff, Nat.reduceAdd, Nat.reduceMul, Nat.reduceSub, reduceCtorEq, Int.reduceToNat]) | (refine Br.mk ?_ ?_ <;> intro h) | (refine BrN.mk (fun h => ?_) ?_) | (refine AltVC.mk ?_ ?_)
            refine CallVC.eq (times_cp _ _) ?_
            repeat' first | ((first | refine Br.dec ?_ ?_ | refine Br.eqi ?_ ?_) <;> intro h <;> try (exfalso; omega)) | (simp (disch := first | omega | (simp only [vlen]; first | done | omega)) only [vke, ↓vAq, vBq, ↓reduceIte, Nat.reduceBEq, Nat.reduceEqDiff, Nat.reduceLT, Nat.reduceLeDiff, Nat.reduceAdd, Nat.reduceMul, Nat.reduceSub, reduceCtorEq, Int.reduceToNat]) | (refine Br.mk ?_ ?_ <;> intro h) | (refine BrN.mk (fun h => ?_) ?_) | (refine AltVC.mk ?_ ?_)
            refine CallVC.eq (add_cp _ _) ?_
            repeat' first | ((first | refine Br.dec ?_ ?_ | refine Br.eqi ?_ ?_) <;> intro h <;> try (exfalso; omega)) | (simp (disch := first | omega | (simp only [vlen]; first | done | omega)) only [vke, ↓vAq, vBq, ↓reduceIte, Nat.reduceBEq, Nat.reduceEqDiff, Nat.reduceLT, Nat.reduceLeDiff, Nat.reduceAdd, Nat.reduceMul, Nat.reduceSub, reduceCtorEq, Int.reduceToNat]) | (refine Br.mk ?_ ?_ <;> intro h) | (refine BrN.mk (fun h => ?_) ?_) | (refine AltVC.mk ?_ ?_)
            refine loopK.mk (e + 1, L3) (by simp (disch := first | omega | (simp only [vlen]; first | done | omega)) only [↓vAq, vBq, ↓reduceIte, Nat.reduceBEq, Nat.reduceEqDiff, Nat.reduceLT, Nat.reduceLeDiff, Nat.reduceAdd, Nat.reduceMul, Nat.reduceSub, reduceCtorEq, Int.reduceToNat]) ⟨by show i + 1 ≤ e + 1; omega, by show e + 1 ≤ j; omega, hL3⟩ (by show j - (e + 1) < j - e; omega) ?_
            simp only [tsum_succ he1]
            (simp (disch := first | omega | (simp only [vlen]; first | done | omega)) only [Fits_u, Fits_m, Fits_nil, List.length_append, vke, ↓vAq, vBq, ↓reduceIte, Nat.reduceBEq, Nat.reduceEqDiff, Nat.reduceLT, Nat.reduceLeDiff, Nat.reduceAdd, Nat.reduceMul, Nat.reduceSub, reduceCtorEq, Int.reduceToNat] <;> (repeat' first | rfl | apply And.intro))
            all_goals first | rfl | trace_state
          · refine loopK.mk (e + 1, L2) (by simp (disch := first | omega | (simp only [vlen]; first | done | omega)) only [↓vAq, vBq, ↓reduceIte, Nat.reduceBEq, Nat.reduceEqDiff, Nat.reduceLT, Nat.reduceLeDiff, Nat.reduceAdd, Nat.reduceMul, Nat.reduceSub, reduceCtorEq, Int.reduceToNat]) ⟨by show i + 1 ≤ e + 1; omega, by show e + 1 ≤ j; omega, hL2⟩ (by show j - (e + 1) < j - e; omega) ?_
            simp only [tsum_succ he1]
            rw [show rwF g w q f i j e = 0 by unfold rwF; rw [(cp_zero (n := trees g w ((g.rules.getD q default).right.getD f 0) i e)).mp (by omega), Nat.zero_mul], Nat.add_zero]
            (simp (disch := first | omega | (simp only [vlen]; first | done | omega)) only [Fits_u, Fits_m, Fits_nil, List.length_append, vke, ↓vAq, vBq, ↓reduceIte, Nat.reduceBEq, Nat.reduceEqDiff, Nat.reduceLT, Nat.reduceLeDiff, Nat.reduceAdd, Nat.reduceMul, Nat.reduceSub, reduceCtorEq, Int.reduceToNat] <;> (repeat' first | rfl | apply And.intro))
            all_goals first | rfl | trace_state
        · have e2 : e = j := by omega
          subst e2
          repeat' first | ((first | refine Br.dec ?_ ?_ | refine Br.eqi ?_ ?_) <;> intro h <;> try (exfalso; omega)) | (simp (disch := first | omega | (simp only [vlen]; first | done | omega)) only [vke, ↓vAq, vBq, ↓reduceIte, Nat.reduceBEq, Nat.reduceEqDiff, Nat.reduceLT, Nat.reduceLeDiff, Nat.reduceAdd, Nat.reduceMul, Nat.reduceSub, reduceCtorEq, Int.reduceToNat]) | (refine Br.mk ?_ ?_ <;> intro h) | (refine BrN.mk (fun h => ?_) ?_) | (refine AltVC.mk ?_ ?_)
          refine BrK.mk (fun r hr he => ?_) (fun hnn => ?_)
          · repeat' first | ((first | refine Br.dec ?_ ?_ | refine Br.eqi ?_ ?_) <;> intro h <;> try (exfalso; omega)) | (simp (disch := first | omega | (simp only [vlen]; first | done | omega)) only [vke, ↓vAq, vBq, ↓reduceIte, Nat.reduceBEq, Nat.reduceEqDiff, Nat.reduceLT, Nat.reduceLeDiff, Nat.reduceAdd, Nat.reduceMul, Nat.reduceSub, reduceCtorEq, Int.reduceToNat]) | (refine Br.mk ?_ ?_ <;> intro h) | (refine BrN.mk (fun h => ?_) ?_) | (refine AltVC.mk ?_ ?_)
            exact ctr_fin (L := Lx.set r ⟨q, f, i, e, cp (tsum (rwF g w q f i e) (i + 1) e)⟩) (by simp (disch := first | omega | (simp only [vlen]; first | done | omega)) only [vke, ↓vAq, vBq, ↓reduceIte, Nat.reduceBEq, Nat.reduceEqDiff, Nat.reduceLT, Nat.reduceLeDiff, Nat.reduceAdd, Nat.reduceMul, Nat.reduceSub, reduceCtorEq, Int.reduceToNat]) (by unfold coO; simp (disch := first | omega | (simp only [vlen]; first | done | omega)) only [vke, ↓vAq, vBq, ↓reduceIte, Nat.reduceBEq, Nat.reduceEqDiff, Nat.reduceLT, Nat.reduceLeDiff, Nat.reduceAdd, Nat.reduceMul, Nat.reduceSub, reduceCtorEq, Int.reduceToNat]) rfl (hLx.set (by rw [kv_nat, rwF_eq hlen1]))
          · repeat' first | ((first | refine Br.dec ?_ ?_ | refine Br.eqi ?_ ?_) <;> intro h <;> try (exfalso; omega)) | (simp (disch := first | omega | (simp only [vlen]; first | done | omega)) only [vke, ↓vAq, vBq, ↓reduceIte, Nat.reduceBEq, Nat.reduceEqDiff, Nat.reduceLT, Nat.reduceLeDiff, Nat.reduceAdd, Nat.reduceMul, Nat.reduceSub, reduceCtorEq, Int.reduceToNat]) | (refine Br.mk ?_ ?_ <;> intro h) | (refine BrN.mk (fun h => ?_) ?_) | (refine AltVC.mk ?_ ?_)
            exact ctr_fin (L := Lx ++ [⟨q, f, i, e, cp (tsum (rwF g w q f i e) (i + 1) e)⟩]) (by simp (disch := first | omega | (simp only [vlen]; first | done | omega)) only [vke, ↓vAq, vBq, ↓reduceIte, Nat.reduceBEq, Nat.reduceEqDiff, Nat.reduceLT, Nat.reduceLeDiff, Nat.reduceAdd, Nat.reduceMul, Nat.reduceSub, reduceCtorEq, Int.reduceToNat]) (by unfold coO; simp (disch := first | omega | (simp only [vlen]; first | done | omega)) only [vke, ↓vAq, vBq, ↓reduceIte, Nat.reduceBEq, Nat.reduceEqDiff, Nat.reduceLT, Nat.reduceLeDiff, Nat.reduceAdd, Nat.reduceMul, Nat.reduceSub, reduceCtorEq, Int.reduceToNat]) rfl (hLx.add (by rw [kv_nat, rwF_eq hlen1]))
def csO (g : Grammar) (w : List Int) (L : List KE) (x : Int) (i j : Nat) : List (Nat × Ob) := [(0, ⟨6, [[iv .i64 g.k, iv .i64 g.n, iv .i64 g.start, .sl 2 (tbl rulD g.rules), .sl 1 (i64s w), .mp 1]], false, false, .fix⟩), (1, ⟨5, tbl keD L, true, false, .map [.i64, .i64, .i64, .i64] true false⟩), (2, ⟨2, [[iv .i64 i, iv .i64 j]], true, false, .fix⟩), (3, ⟨4, [[iv .i64 (-1), iv .i64 x, iv .i64 i, iv .i64 j]], true, false, .fix⟩)]
theorem nsum_succ {f : Nat → Nat} {n : Nat} : nsum f (n + 1) = nsum f n + f n := (rfl)
set_option maxRecDepth 10000 in
set_option maxHeartbeats 4000000 in
theorem sgnN_spec (g : Grammar) (w : List Int) (hc : CC g w) (x : Int) (i j : Nat) (hx : ¬ x < g.k) (hx2 : x < g.k + g.n) (hij : i ≤ j) (hj : j ≤ w.length) (ihR : ∀ q, q < g.rules.length → rwP g w q 0 i j) (L : List KE) (hL : MI g w L) : Dm.SpecH Try.prog 45 [.ptr 0 6 0 0, iv .i64 x, .ag [iv .i64 i, iv .i64 j]] (coO g w L) (coR g w (trees g w x i j)) := by
  refine specH_of_vc mixed Try.func45 c45 (by rw [show Try.f45.ntmps = _ from Try.ntmps45]; simp) ?_
  unfold m45 r45
  have hk := hc.v.k
  have hn := hc.v.n
  have hw := hc.w
  have hlen := hc.v.len
  have hleft : ∀ q, q < g.rules.length → 0 ≤ (g.rules.getD q default).left ∧ (g.rules.getD q default).left < g.n := fun q hq => hc.v.left _ (getD_mem' hq)
  unfold coO
  repeat' first | ((first | refine Br.dec ?_ ?_ | refine Br.eqi ?_ ?_) <;> intro h <;> try (exfalso; omega)) | (simp (disch := first | omega | (simp only [vlen]; first | done | omega)) only [vke, ↓vAq, vBq, ↓reduceIte, Nat.reduceBEq, Nat.reduceEqDiff, Nat.reduceLT, Nat.reduceLeDiff, Nat.reduceAdd, Nat.reduceMul, Nat.reduceSub, reduceCtorEq, Int.reduceToNat]) | (refine Br.mk ?_ ?_ <;> intro h) | (refine BrN.mk (fun h => ?_) ?_) | (refine AltVC.mk ?_ ?_)
  refine BrK.mk (fun r hr he => ?_) (fun hnn => ?_)
  · have hR := ke_in hL hr he
    rw [kv_neg] at hR
    repeat' first | ((first | refine Br.dec ?_ ?_ | refine Br.eqi ?_ ?_) <;> intro h <;> try (exfalso; omega)) | (simp (disch := first | omega | (simp only [vlen]; first | done | omega)) only [vke, hR, ↓vAq, vBq, ↓reduceIte, Nat.reduceBEq, Nat.reduceEqDiff, Nat.reduceLT, Nat.reduceLeDiff, Nat.reduceAdd, Nat.reduceMul, Nat.reduceSub, reduceCtorEq, Int.reduceToNat]) | (refine Br.mk ?_ ?_ <;> intro h) | (refine BrN.mk (fun h => ?_) ?_) | (refine AltVC.mk ?_ ?_)
    exact ctr_fin (L := L) (by simp (disch := first | omega | (simp only [vlen]; first | done | omega)) only [vke, ↓vAq, vBq, ↓reduceIte, Nat.reduceBEq, Nat.reduceEqDiff, Nat.reduceLT, Nat.reduceLeDiff, Nat.reduceAdd, Nat.reduceMul, Nat.reduceSub, reduceCtorEq, Int.reduceToNat]) (by unfold coO; simp (disch := first | omega | (simp only [vlen]; first | done | omega)) only [vke, ↓vAq, vBq, ↓reduceIte, Nat.reduceBEq, Nat.reduceEqDiff, Nat.reduceLT, Nat.reduceLeDiff, Nat.reduceAdd, Nat.reduceMul, Nat.reduceSub, reduceCtorEq, Int.reduceToNat]) rfl hL
  · repeat' first | ((first | refine Br.dec ?_ ?_ | refine Br.eqi ?_ ?_) <;> intro h <;> try (exfalso; omega)) | (simp (disch := first | omega | (simp only [vlen]; first | done | omega)) only [vke, ↓vAq, vBq, ↓reduceIte, Nat.reduceBEq, Nat.reduceEqDiff, Nat.reduceLT, Nat.reduceLeDiff, Nat.reduceAdd, Nat.reduceMul, Nat.reduceSub, reduceCtorEq, Int.reduceToNat]) | (refine Br.mk ?_ ?_ <;> intro h) | (refine BrN.mk (fun h => ?_) ?_) | (refine AltVC.mk ?_ ?_)
    refine LoopVC.mk (X := Nat × List KE) (fun y => [(10, iv .i64 (cp (nsum (ruleV g w x i j) y.1))), (58, iv .i64 y.1)]) (fun y => csO g w y.2 x i j) (fun y => g.rules.length - y.1) (fun y => y.1 ≤ g.rules.length ∧ MI g w y.2) (0, L) ⟨Nat.zero_le _, hL⟩ ?_ ?_
    · unfold csO
      (simp (disch := first | omega | (simp only [vlen]; first | done | omega)) only [Fits_u, Fits_m, Fits_nil, List.length_append, vke, ↓vAq, vBq, ↓reduceIte, Nat.reduceBEq, Nat.reduceEqDiff, Nat.reduceLT, Nat.reduceLeDiff, Nat.reduceAdd, Nat.reduceMul, Nat.reduceSub, reduceCtorEq, Int.reduceToNat] <;> (repeat' first | rfl | apply And.intro))
      all_goals first | rfl | trace_state
    · rintro ⟨q, Lx⟩ ⟨hq1, hLx⟩
      simp only at hq1 hLx ⊢
      unfold csO
      by_cases hq : q < g.rules.length
      · have hlq := hleft q hq
        by_cases hlx : (g.rules.getD q default).left = x - g.k
        · repeat' first | ((first | refine Br.dec ?_ ?_ | refine Br.eqi ?_ ?_) <;> intro h <;> try (exfalso; omega)) | (simp (disch := first | omega | (simp only [vlen]; first | done | omega)) only [vke, ↓vAq, vBq, ↓reduceIte, Nat.reduceBEq, Nat.reduceEqDiff, Nat.reduceLT, Nat.reduceLeDiff, Nat.reduceAdd, Nat.reduceMul, Nat.reduceSub, reduceCtorEq, Int.reduceToNat]) | (refine Br.mk ?_ ?_ <;> intro h) | (refine BrN.mk (fun h => ?_) ?_) | (refine AltVC.mk ?_ ?_)
          refine CallVC.lendE [0, 1] [.ptr 0 6 0 0, iv .i64 q, iv .i64 (0 : Nat), .ag [iv .i64 i, iv .i64 j]] (coO g w Lx) (ihR q hq Lx hLx) (by simp) (by rfl) (by unfold coO; (simp (disch := first | omega | (simp only [vlen]; first | done | omega)) only [vle0, ↓vAq, vBq, ↓reduceIte, Nat.reduceBEq, Nat.reduceEqDiff, Nat.reduceLT, Nat.reduceLeDiff, Nat.reduceAdd, Nat.reduceMul, Nat.reduceSub, reduceCtorEq, Int.reduceToNat] <;> (repeat' first | rfl | apply And.intro))) ?_
          rintro _ _ ⟨L2, rfl, rfl, hL2⟩
          unfold coO
          repeat' first | ((first | refine Br.dec ?_ ?_ | refine Br.eqi ?_ ?_) <;> intro h <;> try (exfalso; omega)) | (simp (disch := first | omega | (simp only [vlen]; first | done | omega)) only [vke, ↓vAq, vBq, ↓reduceIte, Nat.reduceBEq, Nat.reduceEqDiff, Nat.reduceLT, Nat.reduceLeDiff, Nat.reduceAdd, Nat.reduceMul, Nat.reduceSub, reduceCtorEq, Int.reduceToNat]) | (refine Br.mk ?_ ?_ <;> intro h) | (refine BrN.mk (fun h => ?_) ?_) | (refine AltVC.mk ?_ ?_)
          refine CallVC.eq (add_cp _ _) ?_
          repeat' first | ((first | refine Br.dec ?_ ?_ | refine Br.eqi ?_ ?_) <;> intro h <;> try (exfalso; omega)) | (simp (disch := first | omega | (simp only [vlen]; first | done | omega)) only [vke, ↓vAq, vBq, ↓reduceIte, Nat.reduceBEq, Nat.reduceEqDiff, Nat.reduceLT, Nat.reduceLeDiff, Nat.reduceAdd, Nat.reduceMul, Nat.reduceSub, reduceCtorEq, Int.reduceToNat]) | (refine Br.mk ?_ ?_ <;> intro h) | (refine BrN.mk (fun h => ?_) ?_) | (refine AltVC.mk ?_ ?_)
          refine loopK.mk (q + 1, L2) (by simp (disch := first | omega | (simp only [vlen]; first | done | omega)) only [↓vAq, vBq, ↓reduceIte, Nat.reduceBEq, Nat.reduceEqDiff, Nat.reduceLT, Nat.reduceLeDiff, Nat.reduceAdd, Nat.reduceMul, Nat.reduceSub, reduceCtorEq, Int.reduceToNat]) ⟨by show q + 1 ≤ g.rules.length; omega, hL2⟩ (by show g.rules.length - (q + 1) < g.rules.length - q; omega) ?_
          simp only [nsum_succ]
          rw [show ruleV g w x i j q = rowN g w ((g.rules.getD q default).right.drop 0) i j by unfold ruleV; rw [if_pos hlx]; rfl]
          (simp (disch := first | omega | (simp only [vlen]; first | done | omega)) only [Fits_u, Fits_m, Fits_nil, List.length_append, vke, ↓vAq, vBq, ↓reduceIte, Nat.reduceBEq, Nat.reduceEqDiff, Nat.reduceLT, Nat.reduceLeDiff, Nat.reduceAdd, Nat.reduceMul, Nat.reduceSub, reduceCtorEq, Int.reduceToNat] <;> (repeat' first | rfl | apply And.intro))
          all_goals first | rfl | trace_state
        · repeat' first | ((first | refine Br.dec ?_ ?_ | refine Br.eqi ?_ ?_) <;> intro h <;> try (exfalso; omega)) | (simp (disch := first | omega | (simp only [vlen]; first | done | omega)) only [vke, ↓vAq, vBq, ↓reduceIte, Nat.reduceBEq, Nat.reduceEqDiff, Nat.reduceLT, Nat.reduceLeDiff, Nat.reduceAdd, Nat.reduceMul, Nat.reduceSub, reduceCtorEq, Int.reduceToNat]) | (refine Br.mk ?_ ?_ <;> intro h) | (refine BrN.mk (fun h => ?_) ?_) | (refine AltVC.mk ?_ ?_)
          refine loopK.mk (q + 1, Lx) (by simp (disch := first | omega | (simp only [vlen]; first | done | omega)) only [↓vAq, vBq, ↓reduceIte, Nat.reduceBEq, Nat.reduceEqDiff, Nat.reduceLT, Nat.reduceLeDiff, Nat.reduceAdd, Nat.reduceMul, Nat.reduceSub, reduceCtorEq, Int.reduceToNat]) ⟨by show q + 1 ≤ g.rules.length; omega, hLx⟩ (by show g.rules.length - (q + 1) < g.rules.length - q; omega) ?_
          simp only [nsum_succ]
          rw [show ruleV g w x i j q = 0 by unfold ruleV; rw [if_neg hlx], Nat.add_zero]
          (simp (disch := first | omega | (simp only [vlen]; first | done | omega)) only [Fits_u, Fits_m, Fits_nil, List.length_append, vke, ↓vAq, vBq, ↓reduceIte, Nat.reduceBEq, Nat.reduceEqDiff, Nat.reduceLT, Nat.reduceLeDiff, Nat.reduceAdd, Nat.reduceMul, Nat.reduceSub, reduceCtorEq, Int.reduceToNat] <;> (repeat' first | rfl | apply And.intro))
          all_goals first | rfl | trace_state
      · have e2 : q = g.rules.length := by omega
        subst e2
        rw [← trees_name hc.p hx]
        repeat' first | ((first | refine Br.dec ?_ ?_ | refine Br.eqi ?_ ?_) <;> intro h <;> try (exfalso; omega)) | (simp (disch := first | omega | (simp only [vlen]; first | done | omega)) only [vke, ↓vAq, vBq, ↓reduceIte, Nat.reduceBEq, Nat.reduceEqDiff, Nat.reduceLT, Nat.reduceLeDiff, Nat.reduceAdd, Nat.reduceMul, Nat.reduceSub, reduceCtorEq, Int.reduceToNat]) | (refine Br.mk ?_ ?_ <;> intro h) | (refine BrN.mk (fun h => ?_) ?_) | (refine AltVC.mk ?_ ?_)
        refine BrK.mk (fun r hr he => ?_) (fun hnn => ?_)
        · repeat' first | ((first | refine Br.dec ?_ ?_ | refine Br.eqi ?_ ?_) <;> intro h <;> try (exfalso; omega)) | (simp (disch := first | omega | (simp only [vlen]; first | done | omega)) only [vke, ↓vAq, vBq, ↓reduceIte, Nat.reduceBEq, Nat.reduceEqDiff, Nat.reduceLT, Nat.reduceLeDiff, Nat.reduceAdd, Nat.reduceMul, Nat.reduceSub, reduceCtorEq, Int.reduceToNat]) | (refine Br.mk ?_ ?_ <;> intro h) | (refine BrN.mk (fun h => ?_) ?_) | (refine AltVC.mk ?_ ?_)
          exact ctr_fin (L := Lx.set r ⟨-1, x, i, j, cp (trees g w x i j)⟩) (by simp (disch := first | omega | (simp only [vlen]; first | done | omega)) only [vke, ↓vAq, vBq, ↓reduceIte, Nat.reduceBEq, Nat.reduceEqDiff, Nat.reduceLT, Nat.reduceLeDiff, Nat.reduceAdd, Nat.reduceMul, Nat.reduceSub, reduceCtorEq, Int.reduceToNat]) (by unfold coO; simp (disch := first | omega | (simp only [vlen]; first | done | omega)) only [vke, ↓vAq, vBq, ↓reduceIte, Nat.reduceBEq, Nat.reduceEqDiff, Nat.reduceLT, Nat.reduceLeDiff, Nat.reduceAdd, Nat.reduceMul, Nat.reduceSub, reduceCtorEq, Int.reduceToNat]) rfl (hLx.set (by rw [kv_neg]))
        · repeat' first | ((first | refine Br.dec ?_ ?_ | refine Br.eqi ?_ ?_) <;> intro h <;> try (exfalso; omega)) | (simp (disch := first | omega | (simp only [vlen]; first | done | omega)) only [vke, ↓vAq, vBq, ↓reduceIte, Nat.reduceBEq, Nat.reduceEqDiff, Nat.reduceLT, Nat.reduceLeDiff, Nat.reduceAdd, Nat.reduceMul, Nat.reduceSub, reduceCtorEq, Int.reduceToNat]) | (refine Br.mk ?_ ?_ <;> intro h) | (refine BrN.mk (fun h => ?_) ?_) | (refine AltVC.mk ?_ ?_)
          exact ctr_fin (L := Lx ++ [⟨-1, x, i, j, cp (trees g w x i j)⟩]) (by simp (disch := first | omega | (simp only [vlen]; first | done | omega)) only [vke, ↓vAq, vBq, ↓reduceIte, Nat.reduceBEq, Nat.reduceEqDiff, Nat.reduceLT, Nat.reduceLeDiff, Nat.reduceAdd, Nat.reduceMul, Nat.reduceSub, reduceCtorEq, Int.reduceToNat]) (by unfold coO; simp (disch := first | omega | (simp only [vlen]; first | done | omega)) only [vke, ↓vAq, vBq, ↓reduceIte, Nat.reduceBEq, Nat.reduceEqDiff, Nat.reduceLT, Nat.reduceLeDiff, Nat.reduceAdd, Nat.reduceMul, Nat.reduceSub, reduceCtorEq, Int.reduceToNat]) rfl (hLx.add (by rw [kv_neg]))
theorem counter_all (g : Grammar) (w : List Int) (hc : CC g w) : ∀ n, (∀ x i j, 0 ≤ x → x < g.k + g.n → i ≤ j → j ≤ w.length → j - i < n → sgP g w x i j) ∧ (∀ q f i j, q < g.rules.length → f < (g.rules.getD q default).right.length → i ≤ j → j ≤ w.length → j - i < n → rwP g w q f i j) := by
  intro n
  induction n with
  | zero => exact ⟨fun _ _ _ _ _ _ _ h => absurd h (Nat.not_lt_zero _), fun _ _ _ _ _ _ _ _ h => absurd h (Nat.not_lt_zero _)⟩
  | succ n ih =>
    have hR0 : ∀ i j, i ≤ j → j ≤ w.length → j - i < n + 1 → ∀ q, q < g.rules.length → rwP g w q 0 i j := fun i j hij hj hn q hq L hL => by
      have hp := hc.p _ (getD_mem' (l := g.rules) (i := q) hq)
      refine row_spec g w hc n ih.1 ih.2 q 0 i j hq (List.length_pos_iff.mpr hp.1) hij hj (by omega) (fun h1 L hL => ?_) L hL
      have hs : (g.rules.getD q default).right = [(g.rules.getD q default).right.getD 0 0] := by
        match hl : (g.rules.getD q default).right, h1 with
        | [s], _ => rfl
      have h0 := hc.v.right _ (getD_mem' (l := g.rules) (i := q) hq) _ (by rw [hs]; simp : (g.rules.getD q default).right.getD 0 0 ∈ (g.rules.getD q default).right)
      exact sgnS_spec g w hc _ i j (hp.2 _ hs) h0.1 hij hj L hL
    have hS : ∀ x i j, 0 ≤ x → x < g.k + g.n → i ≤ j → j ≤ w.length → j - i < n + 1 → sgP g w x i j := fun x i j h0 h1 hij hj hn L hL => by
      by_cases hx : x < g.k
      · exact sgnS_spec g w hc x i j hx h0 hij hj L hL
      · exact sgnN_spec g w hc x i j hx h1 hij hj (hR0 i j hij hj hn) L hL
    refine ⟨hS, fun q f i j hq hf hij hj hn L hL => row_spec g w hc n ih.1 ih.2 q f i j hq hf hij hj (by omega) (fun h1 => ?_) L hL⟩
    have h0 := hc.v.right _ (getD_mem' (l := g.rules) (i := q) hq) _ (getD_mem' (l := (g.rules.getD q default).right) (i := f) hf)
    exact hS _ i j h0.1 h0.2 hij hj hn
theorem sign_spec (g : Grammar) (w : List Int) (hc : CC g w) (x : Int) (i j : Nat) (h0 : 0 ≤ x) (h1 : x < g.k + g.n) (hij : i ≤ j) (hj : j ≤ w.length) : sgP g w x i j := (counter_all g w hc (j - i + 1)).1 x i j h0 h1 hij hj (Nat.lt_succ_self _)
theorem rowC_spec (g : Grammar) (w : List Int) (hc : CC g w) (q f i j : Nat) (hq : q < g.rules.length) (hf : f < (g.rules.getD q default).right.length) (hij : i ≤ j) (hj : j ≤ w.length) : rwP g w q f i j := (counter_all g w hc (j - i + 1)).2 q f i j hq hf hij hj (Nat.lt_succ_self _)
end Go.Proofs.Ytjekkbpdgnohcaa

namespace Go.Proofs.Ytjekkbpdgnohcaa
open Go.Dm
set_option linter.unusedSimpArgs false
set_option linter.unnecessarySimpa false
set_option linter.unusedVariables false
set_option linter.defProp false
structure BE where
  x : Int
  i : Nat
  j : Nat
  v : Nat
deriving Inhabited
def BI (g : Grammar) (w : List Int) (L : List BE) : Prop := ∀ e, e ∈ L → e.v = cp (trees g w e.x e.i e.j)
theorem BI.nil {g : Grammar} {w : List Int} : BI g w [] := fun e h => by cases h
theorem BI.add {g : Grammar} {w : List Int} {L : List BE} (h : BI g w L) {e : BE} (he : e.v = cp (trees g w e.x e.i e.j)) : BI g w (L ++ [e]) := fun x hx => by
  rcases List.mem_append.mp hx with h1 | h1
  · exact h x h1
  · rw [List.mem_singleton.mp h1]; exact he
theorem BI.set {g : Grammar} {w : List Int} {L : List BE} (h : BI g w L) {e : BE} {r : Nat} (he : e.v = cp (trees g w e.x e.i e.j)) : BI g w (L.set r e) := fun x hx => by
  rcases List.mem_or_eq_of_mem_set hx with h1 | h1
  · exact h x h1
  · rw [h1]; exact he
end Go.Proofs.Ytjekkbpdgnohcaa

namespace Go.Proofs.Ytjekkbpdgnohcaa
open Go.Dm
set_option linter.unusedSimpArgs false
set_option linter.unnecessarySimpa false
set_option linter.unusedVariables false
structure VM (m : Dm.Machine) : Prop where
  n : 1 ≤ m.n ∧ m.n ≤ 7
  k : 1 ≤ m.k ∧ m.k ≤ 3
  len : (m.next.length : Int) = m.n
  row : ∀ l, l ∈ m.next → (l.length : Int) = m.k
  to : ∀ l, l ∈ m.next → ∀ x, x ∈ l → 0 ≤ x ∧ x < m.n
  start : 0 ≤ m.start ∧ m.start < m.n
  final : 0 ≤ m.final ∧ m.final.toNat < 2 ^ m.n.toNat
set_option maxRecDepth 10000 in
set_option maxHeartbeats 4000000 in
theorem within_spec (n lo hi : Int) : Dm.Spec Try.prog 67 [iv .i64 n, iv .i64 lo, iv .i64 hi] (· = .v (.bool (decide (lo ≤ n ∧ n ≤ hi)))) := by
  refine spec_of_vc mixed Try.func67 c67 (by rw [show Try.f67.ntmps = _ from Try.ntmps67]; simp) ?_
  unfold m67 r67
  repeat' first | ((first | refine Br.dec ?_ ?_ | refine Br.eqi ?_ ?_) <;> intro h <;> try (exfalso; omega)) | (simp (disch := first | omega | (simp only [vlen]; first | done | omega)) only [↓vAq, vBq, ↓reduceIte, Nat.reduceBEq, Nat.reduceEqDiff, Nat.reduceLT, Nat.reduceLeDiff, Nat.reduceAdd, Nat.reduceMul, Nat.reduceSub, reduceCtorEq, Int.reduceToNat]) | (refine Br.mk ?_ ?_ <;> intro h) | (refine BrN.mk (fun h => ?_) ?_) | (refine AltVC.mk ?_ ?_)
  · exact fin_mk (vbEq (dec_iff (by omega)))
  · exact fin_mk (vbEq (decide_eq_false (by omega)).symm)
end Go.Proofs.Ytjekkbpdgnohcaa
