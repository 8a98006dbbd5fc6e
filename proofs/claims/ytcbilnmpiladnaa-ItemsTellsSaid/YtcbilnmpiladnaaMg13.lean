/-
 Texts of this claim, one behind another.
-/
import Derived.Test.YtcbilnmpiladnaaMg9
import Derived.Test.YtcbilnmpiladnaaMg11
import Derived.Test.YtcbilnmpiladnaaCode
namespace Go.Proofs.Ytcbilnmpiladnaa
open Go.Dm
set_option linter.unusedSimpArgs false
set_option linter.unnecessarySimpa false
set_option linter.unusedVariables false
theorem mixed : Try.prog.follows .mixedOrders = true := by kernel_rfl
end Go.Proofs.Ytcbilnmpiladnaa

namespace Go.Proofs.Ytcbilnmpiladnaa
open Go.Dm
set_option linter.unusedSimpArgs false
set_option linter.unnecessarySimpa false
set_option linter.unusedVariables false
def idxOf {α : Type} (p : α → Bool) (l : List α) : Int := if l.any p = true then ((l.findIdx p : Nat) : Int) else -1
theorem idxOf_hit {α : Type} [Inhabited α] {p : α → Bool} {l : List α} {i : Nat} (hi : i < l.length) (h : p (l.getD i default) = true) (hn : ∀ j, j < i → p (l.getD j default) = false) : idxOf p l = i := by
  have e : ∀ j (hj : j < l.length), l.getD j default = l[j] := fun j hj => by simp [List.getD, hj]
  unfold idxOf
  rw [if_pos (List.any_eq_true.2 ⟨l[i], List.getElem_mem hi, by rw [← e i hi]; exact h⟩)]
  rw [(List.findIdx_eq hi).2 ⟨by rw [← e i hi]; exact h, fun j hj => by rw [← e j (by omega)]; exact hn j hj⟩]
theorem any_none {α : Type} [Inhabited α] {p : α → Bool} {l : List α} {i : Nat} (hi : l.length ≤ i) (hn : ∀ j, j < i → p (l.getD j default) = false) : l.any p = false := by
  rw [List.any_eq_false]
  intro x hx
  obtain ⟨j, hj, e⟩ := mem_getD hx
  rw [← e, hn j (by omega)]
  simp
theorem idxOf_miss {α : Type} [Inhabited α] {p : α → Bool} {l : List α} {i : Nat} (hi : l.length ≤ i) (hn : ∀ j, j < i → p (l.getD j default) = false) : idxOf p l = -1 := by
  unfold idxOf
  rw [if_neg (by rw [any_none hi hn]; simp)]
theorem idxOf_geq {α : Type} {p : α → Bool} {l : List α} : decide (0 ≤ idxOf p l) = l.any p := by
  unfold idxOf
  by_cases h : l.any p = true
  · rw [if_pos h, h]; exact decide_eq_true (by omega)
  · rw [if_neg h, Bool.not_eq_true] at *; rw [h]; rfl
theorem cl_lf {f : D → D} (hf : ∀ d, clL d = true → f d = d) : ∀ d : D, d.cl = true → d.lf f = d
  | .ag ds, h => by
    have hd : ∀ d, d ∈ ds → d.cl = true := fun d hm => by rw [D.cl, alls_ag] at h; exact List.all_eq_true.1 h d hm
    have ih : ∀ d, d ∈ ds → d.lf f = d := fun d hm => cl_lf hf d (hd d hm)
    rw [lf_ag, List.map_congr_left ih, List.map_id']
  | .tu ds, h => by
    have hd : ∀ d, d ∈ ds → d.cl = true := fun d hm => by rw [D.cl, alls_tu] at h; exact List.all_eq_true.1 h d hm
    have ih : ∀ d, d ∈ ds → d.lf f = d := fun d hm => cl_lf hf d (hd d hm)
    rw [lf_tu, List.map_congr_left ih, List.map_id']
  | .clo g ds, h => by
    have hd : ∀ d, d ∈ ds → d.cl = true := fun d hm => by rw [cl_clo] at h; exact List.all_eq_true.1 h d hm
    have ih : ∀ d, d ∈ ds → d.lf f = d := fun d hm => cl_lf hf d (hd d hm)
    rw [lf_clo, List.map_congr_left ih, List.map_id']
  | .v x, h => by rw [lf_leaf rfl]; exact hf _ rfl
  | .nl, h => by rw [lf_leaf rfl]; exact hf _ rfl
  | .sl _ _, h => by rw [lf_leaf rfl]; exact hf _ rfl
  | .ip _ _, h => by rw [lf_leaf rfl]; exact hf _ rfl
  | .ref _ _ _ _, h => by rw [D.cl, alls_leaf rfl] at h; cases h
  | .ptr _ _ _ _, h => by rw [D.cl, alls_leaf rfl] at h; cases h
  | .mp _, h => by rw [D.cl, alls_leaf rfl] at h; cases h
  | .own _ _ _, h => by rw [D.cl, alls_leaf rfl] at h; cases h
  | .omp _ _ _, h => by rw [D.cl, alls_leaf rfl] at h; cases h
  | .junk, h => by rw [D.cl, alls_leaf rfl] at h; cases h
termination_by d => SizeOf.sizeOf d
decreasing_by all_goals (have := List.sizeOf_lt_of_mem hm; simp; omega)
theorem cl_J : ∀ d : D, d.alls clL = true → d.alls clJ = true
  | .ag ds, h => by
    rw [alls_ag] at h ⊢
    exact List.all_eq_true.2 fun d hm => cl_J d (List.all_eq_true.1 h d hm)
  | .tu ds, h => by
    rw [alls_tu] at h ⊢
    exact List.all_eq_true.2 fun d hm => cl_J d (List.all_eq_true.1 h d hm)
  | .clo g ds, h => by
    rw [alls_clo] at h ⊢
    exact List.all_eq_true.2 fun d hm => cl_J d (List.all_eq_true.1 h d hm)
  | .v x, h => by rw [alls_leaf rfl]; rfl
  | .nl, h => by rw [alls_leaf rfl]; rfl
  | .sl _ _, h => by rw [alls_leaf rfl]; rfl
  | .ip _ _, h => by rw [alls_leaf rfl]; rfl
  | .ref _ _ _ _, h => by rw [alls_leaf rfl] at h; cases h
  | .ptr _ _ _ _, h => by rw [alls_leaf rfl] at h; cases h
  | .mp _, h => by rw [alls_leaf rfl] at h; cases h
  | .own _ _ _, h => by rw [alls_leaf rfl] at h; cases h
  | .omp _ _ _, h => by rw [alls_leaf rfl] at h; cases h
  | .junk, h => by rw [alls_leaf rfl] at h; cases h
termination_by d => SizeOf.sizeOf d
decreasing_by all_goals (have := List.sizeOf_lt_of_mem hm; simp; omega)
section
variable {ds : List D} (hd : ds.all D.cl = true)
include hd
theorem map_lf {f : D → D} (hf : ∀ d, clL d = true → f d = d) : ds.map (D.lf f) = ds := by
  rw [List.map_congr_left (fun d hm => cl_lf hf d (List.all_eq_true.1 hd d hm)), List.map_id']
theorem cl_trims (n : Nat) : (ds.map fun d => d.trim n) = ds := map_lf hd (f := trimL n) (fun d h => by cases d <;> first | rfl | cases h)
theorem cl_views (s : S) : ds.map s.view = ds := map_lf hd (f := s.viewL) (fun d h => by cases d <;> first | rfl | cases h)
theorem cl_owned : ds.any D.owned = false := by
  rw [List.any_eq_false]
  intro d hm
  have h := List.all_eq_true.1 hd d hm
  have : d.alls clJ = true := by
    revert h
    unfold D.cl
    exact cl_J d
  simp [D.owned, this]
end
set_option maxRecDepth 10000 in
set_option maxHeartbeats 4000000 in
theorem idxF_rule (l : List (Rule)) (p : Rule → Bool) (f : FuncId) (ds : List D) (hl : l.length ≤ 9223372036854775807) (hd : ds.all D.cl = true) (hp : ∀ a, a ∈ l → Dm.Spec Try.prog f (.ag (rulD a) :: ds) (· = .v (.bool (p a)))) : Dm.Spec Try.prog 101 [.sl 2 (tbl rulD l), .clo f ds] (· = .v (.int .i64 (idxOf p l))) := by
  refine spec_of_vc mixed Try.func101 c101 (by rw [show Try.f101.ntmps = _ from Try.ntmps101]; simp) ?_
  unfold m101 r101
  repeat' first | ((first | refine Br.dec ?_ ?_ | refine Br.eqi ?_ ?_) <;> intro h <;> try (exfalso; omega)) | (simp (disch := first | omega | (simp only [vlen]; first | done | omega)) only [↓vAq, vBq, ↓reduceIte, Nat.reduceBEq, Nat.reduceEqDiff, Nat.reduceLT, Nat.reduceLeDiff, Nat.reduceAdd, Nat.reduceMul, Nat.reduceSub, reduceCtorEq, Int.reduceToNat]) | (refine Br.mk ?_ ?_ <;> intro h) | (refine BrN.mk (fun h => ?_) ?_) | (refine AltVC.mk ?_ ?_)
  refine LoopVC.mk (X := Nat) (fun i => [(1, .clo f ds), (8, iv .i64 i)]) (fun _ => []) (fun i => l.length - i) (fun i => i ≤ l.length ∧ ∀ j, j < i → p (l.getD j default) = false) 0 ⟨by omega, by omega⟩ ?_ ?_
  · (simp (disch := first | omega | (simp only [vlen]; first | done | omega)) only [Fits_u, Fits_m, Fits_nil, List.length_append, ↓vAq, vBq, ↓reduceIte, Nat.reduceBEq, Nat.reduceEqDiff, Nat.reduceLT, Nat.reduceLeDiff, Nat.reduceAdd, Nat.reduceMul, Nat.reduceSub, reduceCtorEq, Int.reduceToNat] <;> (repeat' first | rfl | apply And.intro))
  · rintro i ⟨hi, hn⟩
    repeat' first | ((first | refine Br.dec ?_ ?_ | refine Br.eqi ?_ ?_) <;> intro h <;> try (exfalso; omega)) | (simp (disch := first | omega | (simp only [vlen]; first | done | omega)) only [↓vAq, vBq, ↓reduceIte, Nat.reduceBEq, Nat.reduceEqDiff, Nat.reduceLT, Nat.reduceLeDiff, Nat.reduceAdd, Nat.reduceMul, Nat.reduceSub, reduceCtorEq, Int.reduceToNat]) | (refine Br.mk ?_ ?_ <;> intro h) | (refine BrN.mk (fun h => ?_) ?_) | (refine AltVC.mk ?_ ?_)
    · rw [cl_views hd, cl_owned hd]
      refine CallVC.eq (hp (l.getD i default) (getD_mem' (by omega))) ?_
      repeat' first | ((first | refine Br.dec ?_ ?_ | refine Br.eqi ?_ ?_) <;> intro h <;> try (exfalso; omega)) | (simp (disch := first | omega | (simp only [vlen]; first | done | omega)) only [↓vAq, vBq, ↓reduceIte, Nat.reduceBEq, Nat.reduceEqDiff, Nat.reduceLT, Nat.reduceLeDiff, Nat.reduceAdd, Nat.reduceMul, Nat.reduceSub, reduceCtorEq, Int.reduceToNat]) | (refine Br.mk ?_ ?_ <;> intro h) | (refine BrN.mk (fun h => ?_) ?_) | (refine AltVC.mk ?_ ?_)
      · refine fin_mk (viEq ?_)
        rw [idxOf_hit (by omega) (by assumption) hn]
      · refine loopK.mk (i + 1) (by simp (disch := first | omega | (simp only [vlen]; first | done | omega)) only [↓vAq, vBq, ↓reduceIte, Nat.reduceBEq, Nat.reduceEqDiff, Nat.reduceLT, Nat.reduceLeDiff, Nat.reduceAdd, Nat.reduceMul, Nat.reduceSub, reduceCtorEq, Int.reduceToNat]) ⟨by omega, fun j hj => ?_⟩ (by omega) ?_
        · by_cases e : j = i
          · subst e; assumption
          · exact hn j (by omega)
        · (simp (disch := first | omega | (simp only [vlen]; first | done | omega)) only [Fits_u, Fits_m, Fits_nil, List.length_append, ↓vAq, vBq, ↓reduceIte, Nat.reduceBEq, Nat.reduceEqDiff, Nat.reduceLT, Nat.reduceLeDiff, Nat.reduceAdd, Nat.reduceMul, Nat.reduceSub, reduceCtorEq, Int.reduceToNat] <;> (repeat' first | rfl | apply And.intro))
          rw [cl_trims hd]
    · refine fin_mk (viEq ?_)
      rw [idxOf_miss (by omega) hn]
set_option maxRecDepth 10000 in
set_option maxHeartbeats 4000000 in
theorem conF_rule (l : List (Rule)) (p : Rule → Bool) (f : FuncId) (ds : List D) (hl : l.length ≤ 9223372036854775807) (hd : ds.all D.cl = true) (hp : ∀ a, a ∈ l → Dm.Spec Try.prog f (.ag (rulD a) :: ds) (· = .v (.bool (p a)))) : Dm.Spec Try.prog 77 [.sl 2 (tbl rulD l), .clo f ds] (· = .v (.bool (l.any p))) := by
  refine spec_of_vc mixed Try.func77 c77 (by rw [show Try.f77.ntmps = _ from Try.ntmps77]; simp) ?_
  unfold m77 r77
  repeat' first | ((first | refine Br.dec ?_ ?_ | refine Br.eqi ?_ ?_) <;> intro h <;> try (exfalso; omega)) | (simp (disch := first | omega | (simp only [vlen]; first | done | omega)) only [↓vAq, vBq, ↓reduceIte, Nat.reduceBEq, Nat.reduceEqDiff, Nat.reduceLT, Nat.reduceLeDiff, Nat.reduceAdd, Nat.reduceMul, Nat.reduceSub, reduceCtorEq, Int.reduceToNat]) | (refine Br.mk ?_ ?_ <;> intro h) | (refine BrN.mk (fun h => ?_) ?_) | (refine AltVC.mk ?_ ?_)
  rw [cl_views hd, cl_owned hd]
  refine CallVC.eq (idxF_rule l p f ds hl hd hp) ?_
  repeat' first | ((first | refine Br.dec ?_ ?_ | refine Br.eqi ?_ ?_) <;> intro h <;> try (exfalso; omega)) | (simp (disch := first | omega | (simp only [vlen]; first | done | omega)) only [↓vAq, vBq, ↓reduceIte, Nat.reduceBEq, Nat.reduceEqDiff, Nat.reduceLT, Nat.reduceLeDiff, Nat.reduceAdd, Nat.reduceMul, Nat.reduceSub, reduceCtorEq, Int.reduceToNat]) | (refine Br.mk ?_ ?_ <;> intro h) | (refine BrN.mk (fun h => ?_) ?_) | (refine AltVC.mk ?_ ?_)
  exact fin_mk (vbEq idxOf_geq)
set_option maxRecDepth 10000 in
set_option maxHeartbeats 4000000 in
theorem idxF_int (l : List (Int)) (p : Int → Bool) (f : FuncId) (ds : List D) (hl : l.length ≤ 9223372036854775807) (hd : ds.all D.cl = true) (hp : ∀ a, a ∈ l → Dm.Spec Try.prog f (iv .i64 a :: ds) (· = .v (.bool (p a)))) : Dm.Spec Try.prog 74 [.sl 1 (i64s l), .clo f ds] (· = .v (.int .i64 (idxOf p l))) := by
  refine spec_of_vc mixed Try.func74 c74 (by rw [show Try.f74.ntmps = _ from Try.ntmps74]; simp) ?_
  unfold m74 r74
  repeat' first | ((first | refine Br.dec ?_ ?_ | refine Br.eqi ?_ ?_) <;> intro h <;> try (exfalso; omega)) | (simp (disch := first | omega | (simp only [vlen]; first | done | omega)) only [↓vAq, vBq, ↓reduceIte, Nat.reduceBEq, Nat.reduceEqDiff, Nat.reduceLT, Nat.reduceLeDiff, Nat.reduceAdd, Nat.reduceMul, Nat.reduceSub, reduceCtorEq, Int.reduceToNat]) | (refine Br.mk ?_ ?_ <;> intro h) | (refine BrN.mk (fun h => ?_) ?_) | (refine AltVC.mk ?_ ?_)
  refine LoopVC.mk (X := Nat) (fun i => [(1, .clo f ds), (8, iv .i64 i)]) (fun _ => []) (fun i => l.length - i) (fun i => i ≤ l.length ∧ ∀ j, j < i → p (l.getD j default) = false) 0 ⟨by omega, by omega⟩ ?_ ?_
  · (simp (disch := first | omega | (simp only [vlen]; first | done | omega)) only [Fits_u, Fits_m, Fits_nil, List.length_append, ↓vAq, vBq, ↓reduceIte, Nat.reduceBEq, Nat.reduceEqDiff, Nat.reduceLT, Nat.reduceLeDiff, Nat.reduceAdd, Nat.reduceMul, Nat.reduceSub, reduceCtorEq, Int.reduceToNat] <;> (repeat' first | rfl | apply And.intro))
  · rintro i ⟨hi, hn⟩
    repeat' first | ((first | refine Br.dec ?_ ?_ | refine Br.eqi ?_ ?_) <;> intro h <;> try (exfalso; omega)) | (simp (disch := first | omega | (simp only [vlen]; first | done | omega)) only [↓vAq, vBq, ↓reduceIte, Nat.reduceBEq, Nat.reduceEqDiff, Nat.reduceLT, Nat.reduceLeDiff, Nat.reduceAdd, Nat.reduceMul, Nat.reduceSub, reduceCtorEq, Int.reduceToNat]) | (refine Br.mk ?_ ?_ <;> intro h) | (refine BrN.mk (fun h => ?_) ?_) | (refine AltVC.mk ?_ ?_)
    · rw [cl_views hd, cl_owned hd]
      refine CallVC.eq (hp (l.getD i default) (getD_mem' (by omega))) ?_
      repeat' first | ((first | refine Br.dec ?_ ?_ | refine Br.eqi ?_ ?_) <;> intro h <;> try (exfalso; omega)) | (simp (disch := first | omega | (simp only [vlen]; first | done | omega)) only [↓vAq, vBq, ↓reduceIte, Nat.reduceBEq, Nat.reduceEqDiff, Nat.reduceLT, Nat.reduceLeDiff, Nat.reduceAdd, Nat.reduceMul, Nat.reduceSub, reduceCtorEq, Int.reduceToNat]) | (refine Br.mk ?_ ?_ <;> intro h) | (refine BrN.mk (fun h => ?_) ?_) | (refine AltVC.mk ?_ ?_)
      · refine fin_mk (viEq ?_)
        rw [idxOf_hit (by omega) (by assumption) hn]
      · refine loopK.mk (i + 1) (by simp (disch := first | omega | (simp only [vlen]; first | done | omega)) only [↓vAq, vBq, ↓reduceIte, Nat.reduceBEq, Nat.reduceEqDiff, Nat.reduceLT, Nat.reduceLeDiff, Nat.reduceAdd, Nat.reduceMul, Nat.reduceSub, reduceCtorEq, Int.reduceToNat]) ⟨by omega, fun j hj => ?_⟩ (by omega) ?_
        · by_cases e : j = i
          · subst e; assumption
          · exact hn j (by omega)
        · (simp (disch := first | omega | (simp only [vlen]; first | done | omega)) only [Fits_u, Fits_m, Fits_nil, List.length_append, ↓vAq, vBq, ↓reduceIte, Nat.reduceBEq, Nat.reduceEqDiff, Nat.reduceLT, Nat.reduceLeDiff, Nat.reduceAdd, Nat.reduceMul, Nat.reduceSub, reduceCtorEq, Int.reduceToNat] <;> (repeat' first | rfl | apply And.intro))
          rw [cl_trims hd]
    · refine fin_mk (viEq ?_)
      rw [idxOf_miss (by omega) hn]
set_option maxRecDepth 10000 in
set_option maxHeartbeats 4000000 in
theorem conF_int (l : List (Int)) (p : Int → Bool) (f : FuncId) (ds : List D) (hl : l.length ≤ 9223372036854775807) (hd : ds.all D.cl = true) (hp : ∀ a, a ∈ l → Dm.Spec Try.prog f (iv .i64 a :: ds) (· = .v (.bool (p a)))) : Dm.Spec Try.prog 32 [.sl 1 (i64s l), .clo f ds] (· = .v (.bool (l.any p))) := by
  refine spec_of_vc mixed Try.func32 c32 (by rw [show Try.f32.ntmps = _ from Try.ntmps32]; simp) ?_
  unfold m32 r32
  repeat' first | ((first | refine Br.dec ?_ ?_ | refine Br.eqi ?_ ?_) <;> intro h <;> try (exfalso; omega)) | (simp (disch := first | omega | (simp only [vlen]; first | done | omega)) only [↓vAq, vBq, ↓reduceIte, Nat.reduceBEq, Nat.reduceEqDiff, Nat.reduceLT, Nat.reduceLeDiff, Nat.reduceAdd, Nat.reduceMul, Nat.reduceSub, reduceCtorEq, Int.reduceToNat]) | (refine Br.mk ?_ ?_ <;> intro h) | (refine BrN.mk (fun h => ?_) ?_) | (refine AltVC.mk ?_ ?_)
  rw [cl_views hd, cl_owned hd]
  refine CallVC.eq (idxF_int l p f ds hl hd hp) ?_
  repeat' first | ((first | refine Br.dec ?_ ?_ | refine Br.eqi ?_ ?_) <;> intro h <;> try (exfalso; omega)) | (simp (disch := first | omega | (simp only [vlen]; first | done | omega)) only [↓vAq, vBq, ↓reduceIte, Nat.reduceBEq, Nat.reduceEqDiff, Nat.reduceLT, Nat.reduceLeDiff, Nat.reduceAdd, Nat.reduceMul, Nat.reduceSub, reduceCtorEq, Int.reduceToNat]) | (refine Br.mk ?_ ?_ <;> intro h) | (refine BrN.mk (fun h => ?_) ?_) | (refine AltVC.mk ?_ ?_)
  exact fin_mk (vbEq idxOf_geq)
end Go.Proofs.Ytcbilnmpiladnaa

namespace Go.Proofs.Ytcbilnmpiladnaa
open Go.Dm
set_option linter.unusedSimpArgs false
set_option linter.unnecessarySimpa false
set_option linter.unusedVariables false
def isSign (g : Grammar) (x : Int) : Bool := decide (0 ≤ x ∧ x < g.k + g.n)
def isSigns (g : Grammar) (l : List Int) : Bool := l.all (isSign g)
def gcode (g : Grammar) : Int :=
  if ¬ (1 ≤ g.k ∧ g.k ≤ 3) ∨ ¬ (1 ≤ g.n ∧ g.n ≤ 5) ∨ 10 < g.rules.length then 1
  else if g.rules.any (fun r => decide (4 < r.right.length)) = true then 1
  else if ¬ (0 ≤ g.start ∧ g.start < g.n) then 2
  else if g.rules.any (fun r => !(decide (0 ≤ r.left ∧ r.left < g.n) && isSigns g r.right)) = true then 2
  else 0
set_option maxRecDepth 10000 in
set_option maxHeartbeats 4000000 in
theorem gWithin_spec (n lo hi : Int) : Dm.Spec Try.prog 76 [iv .i64 n, iv .i64 lo, iv .i64 hi] (· = .v (.bool (decide (lo ≤ n ∧ n ≤ hi)))) := by
  refine spec_of_vc mixed Try.func76 c76 (by rw [show Try.f76.ntmps = _ from Try.ntmps76]; simp) ?_
  unfold m76 r76
  repeat' first | ((first | refine Br.dec ?_ ?_ | refine Br.eqi ?_ ?_) <;> intro h <;> try (exfalso; omega)) | (simp (disch := first | omega | (simp only [vlen]; first | done | omega)) only [↓vAq, vBq, ↓reduceIte, Nat.reduceBEq, Nat.reduceEqDiff, Nat.reduceLT, Nat.reduceLeDiff, Nat.reduceAdd, Nat.reduceMul, Nat.reduceSub, reduceCtorEq, Int.reduceToNat]) | (refine Br.mk ?_ ?_ <;> intro h) | (refine BrN.mk (fun h => ?_) ?_) | (refine AltVC.mk ?_ ?_)
  · exact fin_mk (vbEq (by congr 1; exact propext ⟨fun h => ⟨by assumption, h⟩, fun h => h.2⟩))
  · exact fin_mk (vbEq (by rw [decide_eq_false (fun h => by omega)]))
set_option maxRecDepth 10000 in
set_option maxHeartbeats 4000000 in
theorem gLong_spec (r : Rule) (h : r.right.length ≤ 9223372036854775807) : Dm.Spec Try.prog 78 [.ag (rulD r)] (· = .v (.bool (decide (4 < r.right.length)))) := by
  refine spec_of_vc mixed Try.func78 c78 (by rw [show Try.f78.ntmps = _ from Try.ntmps78]; simp) ?_
  unfold m78 r78
  repeat' first | ((first | refine Br.dec ?_ ?_ | refine Br.eqi ?_ ?_) <;> intro h <;> try (exfalso; omega)) | (simp (disch := first | omega | (simp only [vlen]; first | done | omega)) only [↓vAq, vBq, ↓reduceIte, Nat.reduceBEq, Nat.reduceEqDiff, Nat.reduceLT, Nat.reduceLeDiff, Nat.reduceAdd, Nat.reduceMul, Nat.reduceSub, reduceCtorEq, Int.reduceToNat]) | (refine Br.mk ?_ ?_ <;> intro h) | (refine BrN.mk (fun h => ?_) ?_) | (refine AltVC.mk ?_ ?_)
  exact fin_mk (vbEq (dec_iff (by omega)))
set_option maxRecDepth 10000 in
set_option maxHeartbeats 4000000 in
theorem isSign_spec (g : Grammar) (hk : 0 ≤ g.k ∧ g.k ≤ 1000) (hn : 0 ≤ g.n ∧ g.n ≤ 1000) (s : Int) : Dm.Spec Try.prog 102 [iv .i64 s, .ip (graD g) 0] (· = .v (.bool (!isSign g s))) := by
  refine spec_of_vc mixed Try.func102 c102 (by rw [show Try.f102.ntmps = _ from Try.ntmps102]; simp) ?_
  unfold m102 r102
  repeat' first | ((first | refine Br.dec ?_ ?_ | refine Br.eqi ?_ ?_) <;> intro h <;> try (exfalso; omega)) | (simp (disch := first | omega | (simp only [vlen]; first | done | omega)) only [↓vAq, vBq, ↓reduceIte, Nat.reduceBEq, Nat.reduceEqDiff, Nat.reduceLT, Nat.reduceLeDiff, Nat.reduceAdd, Nat.reduceMul, Nat.reduceSub, reduceCtorEq, Int.reduceToNat]) | (refine Br.mk ?_ ?_ <;> intro h) | (refine BrN.mk (fun h => ?_) ?_) | (refine AltVC.mk ?_ ?_)
  · refine fin_mk (vbEq ?_)
    rw [isSign, decide_eq_false (by omega)]; rfl
  · refine fin_mk (vbEq ?_)
    rw [isSign, ← decide_not]
    exact dec_iff (by omega)
theorem all_not' {α : Type} {p : α → Bool} {l : List α} : (!(l.any fun a => !p a)) = l.all p := by
  rw [List.not_any_eq_all_not]; simp
set_option maxRecDepth 10000 in
set_option maxHeartbeats 4000000 in
theorem isSigns_spec (g : Grammar) (hk : 0 ≤ g.k ∧ g.k ≤ 1000) (hn : 0 ≤ g.n ∧ g.n ≤ 1000) (l : List Int) (hl : l.length ≤ 9223372036854775807) : Dm.Spec Try.prog 79 [.ag (graD g), .sl 1 (i64s l)] (· = .v (.bool (isSigns g l))) := by
  refine spec_of_vc mixed Try.func79 c79 (by rw [show Try.f79.ntmps = _ from Try.ntmps79]; simp) ?_
  unfold m79 r79
  repeat' first | ((first | refine Br.dec ?_ ?_ | refine Br.eqi ?_ ?_) <;> intro h <;> try (exfalso; omega)) | (simp (disch := first | omega | (simp only [vlen]; first | done | omega)) only [↓vAq, vBq, ↓reduceIte, Nat.reduceBEq, Nat.reduceEqDiff, Nat.reduceLT, Nat.reduceLeDiff, Nat.reduceAdd, Nat.reduceMul, Nat.reduceSub, reduceCtorEq, Int.reduceToNat]) | (refine Br.mk ?_ ?_ <;> intro h) | (refine BrN.mk (fun h => ?_) ?_) | (refine AltVC.mk ?_ ?_)
  refine CallVC.eqo (conF_int l (fun s => !isSign g s) _ [.ip (graD g) 0] hl (by simp (disch := first | omega | (simp only [vlen]; first | done | omega)) only [↓vAq, vBq, ↓reduceIte, Nat.reduceBEq, Nat.reduceEqDiff, Nat.reduceLT, Nat.reduceLeDiff, Nat.reduceAdd, Nat.reduceMul, Nat.reduceSub, reduceCtorEq, Int.reduceToNat]) fun a ha => isSign_spec g hk hn a) (by simp (disch := first | omega | (simp only [vlen]; first | done | omega)) only [↓vAq, vBq, ↓reduceIte, Nat.reduceBEq, Nat.reduceEqDiff, Nat.reduceLT, Nat.reduceLeDiff, Nat.reduceAdd, Nat.reduceMul, Nat.reduceSub, reduceCtorEq, Int.reduceToNat]) ?_
  repeat' first | ((first | refine Br.dec ?_ ?_ | refine Br.eqi ?_ ?_) <;> intro h <;> try (exfalso; omega)) | (simp (disch := first | omega | (simp only [vlen]; first | done | omega)) only [↓vAq, vBq, ↓reduceIte, Nat.reduceBEq, Nat.reduceEqDiff, Nat.reduceLT, Nat.reduceLeDiff, Nat.reduceAdd, Nat.reduceMul, Nat.reduceSub, reduceCtorEq, Int.reduceToNat]) | (refine Br.mk ?_ ?_ <;> intro h) | (refine BrN.mk (fun h => ?_) ?_) | (refine AltVC.mk ?_ ?_)
  exact fin_mk (vbEq all_not')
def badRule (g : Grammar) (r : Rule) : Bool := !(decide (0 ≤ r.left ∧ r.left < g.n) && isSigns g r.right)
theorem gcode_b {g : Grammar} : gcode g = if ¬ (1 ≤ g.k ∧ g.k ≤ 3) ∨ ¬ (1 ≤ g.n ∧ g.n ≤ 5) ∨ 10 < g.rules.length then 1
  else if g.rules.any (fun r => decide (4 < r.right.length)) = true then 1
  else if ¬ (0 ≤ g.start ∧ g.start < g.n) then 2
  else if g.rules.any (badRule g) = true then 2 else 0 := rfl
theorem any_hit {α : Type} [Inhabited α] {p : α → Bool} {l : List α} {i : Nat} (hi : i < l.length) (h : p (l.getD i default) = true) : l.any p = true :=
  List.any_eq_true.2 ⟨_, getD_mem' hi, h⟩
set_option maxRecDepth 10000 in
set_option maxHeartbeats 4000000 in
theorem gCheck_spec (g : Grammar) (hg : g.ok) : Dm.Spec Try.prog 43 [.ag (graD g)] (· = iv .i64 (gcode g)) := by
  refine spec_of_vc mixed Try.func43 c43 (by rw [show Try.f43.ntmps = _ from Try.ntmps43]; simp) ?_
  unfold m43 r43
  have hr : g.rules.length ≤ 9223372036854775807 := maxLen_le hg.2.2.2.1
  have hk : -9223372036854775808 ≤ g.k ∧ g.k ≤ 9223372036854775807 := hg.1
  have hn : -9223372036854775808 ≤ g.n ∧ g.n ≤ 9223372036854775807 := hg.2.1
  have hq : ∀ r, r ∈ g.rules → r.right.length ≤ 9223372036854775807 := fun r h => maxLen_le (hg.2.2.2.2 r h).2.1
  have r1 : ¬ (1 ≤ g.k ∧ g.k ≤ 3) ∨ ¬ (1 ≤ g.n ∧ g.n ≤ 5) ∨ 10 < g.rules.length → gcode g = 1 := fun h => by rw [gcode, if_pos h]
  repeat' first | ((first | refine Br.dec ?_ ?_ | refine Br.eqi ?_ ?_) <;> intro h <;> try (exfalso; omega)) | (simp (disch := first | omega | (simp only [vlen]; first | done | omega)) only [↓vAq, vBq, ↓reduceIte, Nat.reduceBEq, Nat.reduceEqDiff, Nat.reduceLT, Nat.reduceLeDiff, Nat.reduceAdd, Nat.reduceMul, Nat.reduceSub, reduceCtorEq, Int.reduceToNat]) | (refine Br.mk ?_ ?_ <;> intro h) | (refine BrN.mk (fun h => ?_) ?_) | (refine AltVC.mk ?_ ?_)
  refine CallVC.eq (gWithin_spec _ _ _) ?_
  repeat' first | ((first | refine Br.dec ?_ ?_ | refine Br.eqi ?_ ?_) <;> intro h <;> try (exfalso; omega)) | (simp (disch := first | omega | (simp only [vlen]; first | done | omega)) only [↓vAq, vBq, ↓reduceIte, Nat.reduceBEq, Nat.reduceEqDiff, Nat.reduceLT, Nat.reduceLeDiff, Nat.reduceAdd, Nat.reduceMul, Nat.reduceSub, reduceCtorEq, Int.reduceToNat]) | (refine Br.mk ?_ ?_ <;> intro h) | (refine BrN.mk (fun h => ?_) ?_) | (refine AltVC.mk ?_ ?_)
  · refine CallVC.eq (gWithin_spec _ _ _) ?_
    repeat' first | ((first | refine Br.dec ?_ ?_ | refine Br.eqi ?_ ?_) <;> intro h <;> try (exfalso; omega)) | (simp (disch := first | omega | (simp only [vlen]; first | done | omega)) only [↓vAq, vBq, ↓reduceIte, Nat.reduceBEq, Nat.reduceEqDiff, Nat.reduceLT, Nat.reduceLeDiff, Nat.reduceAdd, Nat.reduceMul, Nat.reduceSub, reduceCtorEq, Int.reduceToNat]) | (refine Br.mk ?_ ?_ <;> intro h) | (refine BrN.mk (fun h => ?_) ?_) | (refine AltVC.mk ?_ ?_)
    · exact fin_mk (by rw [r1 (by omega)])
    · refine CallVC.eqo (conF_rule g.rules (fun r => decide (4 < r.right.length)) _ [] hr rfl fun r h => gLong_spec r (hq r h)) (by simp (disch := first | omega | (simp only [vlen]; first | done | omega)) only [↓vAq, vBq, ↓reduceIte, Nat.reduceBEq, Nat.reduceEqDiff, Nat.reduceLT, Nat.reduceLeDiff, Nat.reduceAdd, Nat.reduceMul, Nat.reduceSub, reduceCtorEq, Int.reduceToNat]) ?_
      repeat' first | ((first | refine Br.dec ?_ ?_ | refine Br.eqi ?_ ?_) <;> intro h <;> try (exfalso; omega)) | (simp (disch := first | omega | (simp only [vlen]; first | done | omega)) only [↓vAq, vBq, ↓reduceIte, Nat.reduceBEq, Nat.reduceEqDiff, Nat.reduceLT, Nat.reduceLeDiff, Nat.reduceAdd, Nat.reduceMul, Nat.reduceSub, reduceCtorEq, Int.reduceToNat]) | (refine Br.mk ?_ ?_ <;> intro h) | (refine BrN.mk (fun h => ?_) ?_) | (refine AltVC.mk ?_ ?_)
      · exact fin_mk (by rw [gcode, if_neg (by omega), if_pos (by assumption)])
      · have h4 : (g.rules.any fun r => decide (4 < r.right.length)) = false := by assumption
        refine CallVC.eq (gWithin_spec _ _ _) ?_
        repeat' first | ((first | refine Br.dec ?_ ?_ | refine Br.eqi ?_ ?_) <;> intro h <;> try (exfalso; omega)) | (simp (disch := first | omega | (simp only [vlen]; first | done | omega)) only [↓vAq, vBq, ↓reduceIte, Nat.reduceBEq, Nat.reduceEqDiff, Nat.reduceLT, Nat.reduceLeDiff, Nat.reduceAdd, Nat.reduceMul, Nat.reduceSub, reduceCtorEq, Int.reduceToNat]) | (refine Br.mk ?_ ?_ <;> intro h) | (refine BrN.mk (fun h => ?_) ?_) | (refine AltVC.mk ?_ ?_)
        · refine LoopVC.mk (X := Nat) (fun i => [(38, iv .i64 i)]) (fun i => [(0, ⟨4, [[iv .i64 g.k, iv .i64 g.n, iv .i64 g.start, .sl 2 (tbl rulD g.rules)]], true, false, .fix⟩)]) (fun i => g.rules.length - i) (fun i => i ≤ g.rules.length ∧ ∀ j, j < i → badRule g (g.rules.getD j default) = false) 0 ⟨by omega, by omega⟩ ?_ ?_
          · (simp (disch := first | omega | (simp only [vlen]; first | done | omega)) only [Fits_u, Fits_m, Fits_nil, List.length_append, ↓vAq, vBq, ↓reduceIte, Nat.reduceBEq, Nat.reduceEqDiff, Nat.reduceLT, Nat.reduceLeDiff, Nat.reduceAdd, Nat.reduceMul, Nat.reduceSub, reduceCtorEq, Int.reduceToNat] <;> (repeat' first | rfl | apply And.intro))
          · rintro i ⟨hi, hb⟩
            repeat' first | ((first | refine Br.dec ?_ ?_ | refine Br.eqi ?_ ?_) <;> intro h <;> try (exfalso; omega)) | (simp (disch := first | omega | (simp only [vlen]; first | done | omega)) only [↓vAq, vBq, ↓reduceIte, Nat.reduceBEq, Nat.reduceEqDiff, Nat.reduceLT, Nat.reduceLeDiff, Nat.reduceAdd, Nat.reduceMul, Nat.reduceSub, reduceCtorEq, Int.reduceToNat]) | (refine Br.mk ?_ ?_ <;> intro h) | (refine BrN.mk (fun h => ?_) ?_) | (refine AltVC.mk ?_ ?_)
            · have hm : g.rules.getD i default ∈ g.rules := getD_mem' (by omega)
              refine CallVC.eq (gWithin_spec _ _ _) ?_
              repeat' first | ((first | refine Br.dec ?_ ?_ | refine Br.eqi ?_ ?_) <;> intro h <;> try (exfalso; omega)) | (simp (disch := first | omega | (simp only [vlen]; first | done | omega)) only [↓vAq, vBq, ↓reduceIte, Nat.reduceBEq, Nat.reduceEqDiff, Nat.reduceLT, Nat.reduceLeDiff, Nat.reduceAdd, Nat.reduceMul, Nat.reduceSub, reduceCtorEq, Int.reduceToNat]) | (refine Br.mk ?_ ?_ <;> intro h) | (refine BrN.mk (fun h => ?_) ?_) | (refine AltVC.mk ?_ ?_)
              · refine CallVC.eq (isSigns_spec g (by omega) (by omega) _ (hq _ hm)) ?_
                repeat' first | ((first | refine Br.dec ?_ ?_ | refine Br.eqi ?_ ?_) <;> intro h <;> try (exfalso; omega)) | (simp (disch := first | omega | (simp only [vlen]; first | done | omega)) only [↓vAq, vBq, ↓reduceIte, Nat.reduceBEq, Nat.reduceEqDiff, Nat.reduceLT, Nat.reduceLeDiff, Nat.reduceAdd, Nat.reduceMul, Nat.reduceSub, reduceCtorEq, Int.reduceToNat]) | (refine Br.mk ?_ ?_ <;> intro h) | (refine BrN.mk (fun h => ?_) ?_) | (refine AltVC.mk ?_ ?_)
                · have e : isSigns g (g.rules.getD i default).right = true := by assumption
                  refine loopK.mk (i + 1) (by simp (disch := first | omega | (simp only [vlen]; first | done | omega)) only [↓vAq, vBq, ↓reduceIte, Nat.reduceBEq, Nat.reduceEqDiff, Nat.reduceLT, Nat.reduceLeDiff, Nat.reduceAdd, Nat.reduceMul, Nat.reduceSub, reduceCtorEq, Int.reduceToNat]) ⟨by omega, fun j hj => ?_⟩ (by omega) ?_
                  · by_cases e2 : j = i
                    · subst e2; rw [badRule, e, decide_eq_true (by omega)]; rfl
                    · exact hb j (by omega)
                  · (simp (disch := first | omega | (simp only [vlen]; first | done | omega)) only [Fits_u, Fits_m, Fits_nil, List.length_append, ↓vAq, vBq, ↓reduceIte, Nat.reduceBEq, Nat.reduceEqDiff, Nat.reduceLT, Nat.reduceLeDiff, Nat.reduceAdd, Nat.reduceMul, Nat.reduceSub, reduceCtorEq, Int.reduceToNat] <;> (repeat' first | rfl | apply And.intro))
                · have e : isSigns g (g.rules.getD i default).right = false := by assumption
                  exact fin_mk (by rw [gcode_b, if_neg (by omega), if_neg (by rw [h4]; simp), if_neg (by omega), if_pos (any_hit (i := i) (by omega) (by rw [badRule, e]; simp))])
              · exact fin_mk (by rw [gcode_b, if_neg (by omega), if_neg (by rw [h4]; simp), if_neg (by omega), if_pos (any_hit (i := i) (by omega) (by rw [badRule, decide_eq_false (by omega)]; rfl))])
            · exact fin_mk (by rw [gcode_b, if_neg (by omega), if_neg (by rw [h4]; simp), if_neg (by omega), if_neg (by rw [any_none (i := i) (by omega) hb]; simp)])
        · exact fin_mk (by rw [gcode, if_neg (by omega), if_neg (by rw [h4]; simp), if_pos (by omega)])
    · exact fin_mk (by rw [r1 (by omega)])
  · exact fin_mk (by rw [r1 (by omega)])
theorem all_hit {α : Type} [Inhabited α] {p : α → Bool} {l : List α} {i : Nat} (hi : i < l.length) (h : p (l.getD i default) = false) : l.all p = false :=
  List.all_eq_false.2 ⟨_, getD_mem' hi, by rw [h]; simp⟩
theorem all_none {α : Type} [Inhabited α] {p : α → Bool} {l : List α} {i : Nat} (hi : l.length ≤ i) (hn : ∀ j, j < i → p (l.getD j default) = true) : l.all p = true := by
  rw [List.all_eq_true]
  intro x hx
  obtain ⟨j, hj, e⟩ := mem_getD hx
  rw [← e, hn j (by omega)]
theorem succ_all {p : Nat → Prop} {i : Nat} (h : ∀ j, j < i → p j) (hi : p i) : ∀ j, j < i + 1 → p j := fun j hj => by
  by_cases e : j = i
  · rw [e]; exact hi
  · exact h j (by omega)
set_option maxRecDepth 10000 in
set_option maxHeartbeats 4000000 in
theorem signs_spec (g : Grammar) (hk : 0 ≤ g.k ∧ g.k ≤ 1000) (hn : 0 ≤ g.n ∧ g.n ≤ 1000) (l : List Int) (hl : l.length ≤ 9223372036854775807) : Dm.Spec Try.prog 46 [.ag (graD g), .sl 1 (i64s l)] (· = .v (.bool (isSigns g l))) := by
  refine spec_of_vc mixed Try.func46 c46 (by rw [show Try.f46.ntmps = _ from Try.ntmps46]; simp) ?_
  unfold m46 r46
  repeat' first | ((first | refine Br.dec ?_ ?_ | refine Br.eqi ?_ ?_) <;> intro h <;> try (exfalso; omega)) | (simp (disch := first | omega | (simp only [vlen]; first | done | omega)) only [↓vAq, vBq, ↓reduceIte, Nat.reduceBEq, Nat.reduceEqDiff, Nat.reduceLT, Nat.reduceLeDiff, Nat.reduceAdd, Nat.reduceMul, Nat.reduceSub, reduceCtorEq, Int.reduceToNat]) | (refine Br.mk ?_ ?_ <;> intro h) | (refine BrN.mk (fun h => ?_) ?_) | (refine AltVC.mk ?_ ?_)
  refine LoopVC.mk (X := Nat) (fun i => [(9, iv .i64 i)]) (fun _ => [(0, ⟨4, [[iv .i64 g.k, iv .i64 g.n, iv .i64 g.start, .sl 2 (tbl rulD g.rules)]], true, false, .fix⟩)]) (fun i => l.length - i) (fun i => i ≤ l.length ∧ ∀ j, j < i → isSign g (l.getD j 0) = true) 0 ⟨by omega, by omega⟩ ?_ ?_
  · (simp (disch := first | omega | (simp only [vlen]; first | done | omega)) only [Fits_u, Fits_m, Fits_nil, List.length_append, ↓vAq, vBq, ↓reduceIte, Nat.reduceBEq, Nat.reduceEqDiff, Nat.reduceLT, Nat.reduceLeDiff, Nat.reduceAdd, Nat.reduceMul, Nat.reduceSub, reduceCtorEq, Int.reduceToNat] <;> (repeat' first | rfl | apply And.intro))
  · rintro i ⟨hi, hb⟩
    repeat' first | ((first | refine Br.dec ?_ ?_ | refine Br.eqi ?_ ?_) <;> intro h <;> try (exfalso; omega)) | (simp (disch := first | omega | (simp only [vlen]; first | done | omega)) only [↓vAq, vBq, ↓reduceIte, Nat.reduceBEq, Nat.reduceEqDiff, Nat.reduceLT, Nat.reduceLeDiff, Nat.reduceAdd, Nat.reduceMul, Nat.reduceSub, reduceCtorEq, Int.reduceToNat]) | (refine Br.mk ?_ ?_ <;> intro h) | (refine BrN.mk (fun h => ?_) ?_) | (refine AltVC.mk ?_ ?_)
    · exact fin_mk (vbEq (all_hit (p := isSign g) (l := l) (i := i) (by omega) (decide_eq_false (by show ¬ (0 ≤ l.getD i 0 ∧ l.getD i 0 < g.k + g.n); omega))).symm)
    · exact fin_mk (vbEq (all_hit (p := isSign g) (l := l) (i := i) (by omega) (decide_eq_false (by show ¬ (0 ≤ l.getD i 0 ∧ l.getD i 0 < g.k + g.n); omega))).symm)
    · refine loopK.mk (i + 1) (by simp (disch := first | omega | (simp only [vlen]; first | done | omega)) only [↓vAq, vBq, ↓reduceIte, Nat.reduceBEq, Nat.reduceEqDiff, Nat.reduceLT, Nat.reduceLeDiff, Nat.reduceAdd, Nat.reduceMul, Nat.reduceSub, reduceCtorEq, Int.reduceToNat]) ⟨by omega, succ_all hb (decide_eq_true (by omega))⟩ (by omega) (by (simp (disch := first | omega | (simp only [vlen]; first | done | omega)) only [Fits_u, Fits_m, Fits_nil, List.length_append, ↓vAq, vBq, ↓reduceIte, Nat.reduceBEq, Nat.reduceEqDiff, Nat.reduceLT, Nat.reduceLeDiff, Nat.reduceAdd, Nat.reduceMul, Nat.reduceSub, reduceCtorEq, Int.reduceToNat] <;> (repeat' first | rfl | apply And.intro)))
    · exact fin_mk (vbEq (all_none (i := i) (by omega) hb).symm)
set_option maxRecDepth 10000 in
set_option maxHeartbeats 4000000 in
theorem refGCheck_spec (g : Grammar) (hg : g.ok) : Dm.Spec Try.prog 20 [.ag (graD g)] (· = iv .i64 (gcode g)) := by
  refine spec_of_vc mixed Try.func20 c20 (by rw [show Try.f20.ntmps = _ from Try.ntmps20]; simp) ?_
  unfold m20 r20
  have hr : g.rules.length ≤ 9223372036854775807 := maxLen_le hg.2.2.2.1
  have hk : -9223372036854775808 ≤ g.k ∧ g.k ≤ 9223372036854775807 := hg.1
  have hn : -9223372036854775808 ≤ g.n ∧ g.n ≤ 9223372036854775807 := hg.2.1
  have hq : ∀ r, r ∈ g.rules → r.right.length ≤ 9223372036854775807 := fun r h => maxLen_le (hg.2.2.2.2 r h).2.1
  have r1 : ¬ (1 ≤ g.k ∧ g.k ≤ 3) ∨ ¬ (1 ≤ g.n ∧ g.n ≤ 5) ∨ 10 < g.rules.length → gcode g = 1 := fun h => by rw [gcode, if_pos h]
  repeat' first | ((first | refine Br.dec ?_ ?_ | refine Br.eqi ?_ ?_) <;> intro h <;> try (exfalso; omega)) | (simp (disch := first | omega | (simp only [vlen]; first | done | omega)) only [↓vAq, vBq, ↓reduceIte, Nat.reduceBEq, Nat.reduceEqDiff, Nat.reduceLT, Nat.reduceLeDiff, Nat.reduceAdd, Nat.reduceMul, Nat.reduceSub, reduceCtorEq, Int.reduceToNat]) | (refine Br.mk ?_ ?_ <;> intro h) | (refine BrN.mk (fun h => ?_) ?_) | (refine AltVC.mk ?_ ?_)
  all_goals first | exact fin_mk (by rw [r1 (by omega)]) | skip
  refine LoopVC.mk (X := Nat) (fun i => [(34, iv .i64 i)]) (fun _ => [(0, ⟨4, [[iv .i64 g.k, iv .i64 g.n, iv .i64 g.start, .sl 2 (tbl rulD g.rules)]], true, false, .fix⟩)]) (fun i => g.rules.length - i) (fun i => i ≤ g.rules.length ∧ ∀ j, j < i → decide (4 < (g.rules.getD j default).right.length) = false) 0 ⟨by omega, by omega⟩ ?_ ?_
  · (simp (disch := first | omega | (simp only [vlen]; first | done | omega)) only [Fits_u, Fits_m, Fits_nil, List.length_append, ↓vAq, vBq, ↓reduceIte, Nat.reduceBEq, Nat.reduceEqDiff, Nat.reduceLT, Nat.reduceLeDiff, Nat.reduceAdd, Nat.reduceMul, Nat.reduceSub, reduceCtorEq, Int.reduceToNat] <;> (repeat' first | rfl | apply And.intro))
  · rintro i ⟨hi, hb⟩
    repeat' first | ((first | refine Br.dec ?_ ?_ | refine Br.eqi ?_ ?_) <;> intro h <;> try (exfalso; omega)) | (simp (disch := first | omega | (simp only [vlen]; first | done | omega)) only [↓vAq, vBq, ↓reduceIte, Nat.reduceBEq, Nat.reduceEqDiff, Nat.reduceLT, Nat.reduceLeDiff, Nat.reduceAdd, Nat.reduceMul, Nat.reduceSub, reduceCtorEq, Int.reduceToNat]) | (refine Br.mk ?_ ?_ <;> intro h) | (refine BrN.mk (fun h => ?_) ?_) | (refine AltVC.mk ?_ ?_)
    · exact fin_mk (by rw [gcode, if_neg (by omega), if_pos (any_hit (p := fun r : Rule => decide (4 < r.right.length)) (l := g.rules) (i := i) (by omega) (decide_eq_true (by omega)))])
    · refine loopK.mk (i + 1) (by simp (disch := first | omega | (simp only [vlen]; first | done | omega)) only [↓vAq, vBq, ↓reduceIte, Nat.reduceBEq, Nat.reduceEqDiff, Nat.reduceLT, Nat.reduceLeDiff, Nat.reduceAdd, Nat.reduceMul, Nat.reduceSub, reduceCtorEq, Int.reduceToNat]) ⟨by omega, succ_all hb (decide_eq_false (by omega))⟩ (by omega) (by (simp (disch := first | omega | (simp only [vlen]; first | done | omega)) only [Fits_u, Fits_m, Fits_nil, List.length_append, ↓vAq, vBq, ↓reduceIte, Nat.reduceBEq, Nat.reduceEqDiff, Nat.reduceLT, Nat.reduceLeDiff, Nat.reduceAdd, Nat.reduceMul, Nat.reduceSub, reduceCtorEq, Int.reduceToNat] <;> (repeat' first | rfl | apply And.intro)))
    · exact fin_mk (by rw [gcode, if_neg (by omega), if_neg (by rw [any_none (i := i) (by omega) hb]; simp), if_pos (by omega)])
    · exact fin_mk (by rw [gcode, if_neg (by omega), if_neg (by rw [any_none (i := i) (by omega) hb]; simp), if_pos (by omega)])
    · have h4 := any_none (p := fun r : Rule => decide (4 < r.right.length)) (i := i) (l := g.rules) (by omega) hb
      refine LoopVC.mk (X := Nat) (fun i => [(56, iv .i64 i)]) (fun _ => [(0, ⟨4, [[iv .i64 g.k, iv .i64 g.n, iv .i64 g.start, .sl 2 (tbl rulD g.rules)]], true, false, .fix⟩)]) (fun i => g.rules.length - i) (fun i => i ≤ g.rules.length ∧ ∀ j, j < i → badRule g (g.rules.getD j default) = false) 0 ⟨by omega, by omega⟩ ?_ ?_
      · (simp (disch := first | omega | (simp only [vlen]; first | done | omega)) only [Fits_u, Fits_m, Fits_nil, List.length_append, ↓vAq, vBq, ↓reduceIte, Nat.reduceBEq, Nat.reduceEqDiff, Nat.reduceLT, Nat.reduceLeDiff, Nat.reduceAdd, Nat.reduceMul, Nat.reduceSub, reduceCtorEq, Int.reduceToNat] <;> (repeat' first | rfl | apply And.intro))
      · rintro k ⟨hk1, hb1⟩
        repeat' first | ((first | refine Br.dec ?_ ?_ | refine Br.eqi ?_ ?_) <;> intro h <;> try (exfalso; omega)) | (simp (disch := first | omega | (simp only [vlen]; first | done | omega)) only [↓vAq, vBq, ↓reduceIte, Nat.reduceBEq, Nat.reduceEqDiff, Nat.reduceLT, Nat.reduceLeDiff, Nat.reduceAdd, Nat.reduceMul, Nat.reduceSub, reduceCtorEq, Int.reduceToNat]) | (refine Br.mk ?_ ?_ <;> intro h) | (refine BrN.mk (fun h => ?_) ?_) | (refine AltVC.mk ?_ ?_)
        · exact fin_mk (by rw [gcode_b, if_neg (by omega), if_neg (by rw [h4]; simp), if_neg (by omega), if_pos (any_hit (i := k) (by omega) (by rw [badRule, decide_eq_false (by omega)]; rfl))])
        · exact fin_mk (by rw [gcode_b, if_neg (by omega), if_neg (by rw [h4]; simp), if_neg (by omega), if_pos (any_hit (i := k) (by omega) (by rw [badRule, decide_eq_false (by omega)]; rfl))])
        · have hm : g.rules.getD k default ∈ g.rules := getD_mem' (by omega)
          refine CallVC.eq (signs_spec g (by omega) (by omega) _ (hq _ hm)) ?_
          repeat' first | ((first | refine Br.dec ?_ ?_ | refine Br.eqi ?_ ?_) <;> intro h <;> try (exfalso; omega)) | (simp (disch := first | omega | (simp only [vlen]; first | done | omega)) only [↓vAq, vBq, ↓reduceIte, Nat.reduceBEq, Nat.reduceEqDiff, Nat.reduceLT, Nat.reduceLeDiff, Nat.reduceAdd, Nat.reduceMul, Nat.reduceSub, reduceCtorEq, Int.reduceToNat]) | (refine Br.mk ?_ ?_ <;> intro h) | (refine BrN.mk (fun h => ?_) ?_) | (refine AltVC.mk ?_ ?_)
          · have e : isSigns g (g.rules.getD k default).right = true := by assumption
            refine loopK.mk (k + 1) (by simp (disch := first | omega | (simp only [vlen]; first | done | omega)) only [↓vAq, vBq, ↓reduceIte, Nat.reduceBEq, Nat.reduceEqDiff, Nat.reduceLT, Nat.reduceLeDiff, Nat.reduceAdd, Nat.reduceMul, Nat.reduceSub, reduceCtorEq, Int.reduceToNat]) ⟨by omega, succ_all hb1 (by rw [badRule, e, decide_eq_true (by omega)]; rfl)⟩ (by omega) (by (simp (disch := first | omega | (simp only [vlen]; first | done | omega)) only [Fits_u, Fits_m, Fits_nil, List.length_append, ↓vAq, vBq, ↓reduceIte, Nat.reduceBEq, Nat.reduceEqDiff, Nat.reduceLT, Nat.reduceLeDiff, Nat.reduceAdd, Nat.reduceMul, Nat.reduceSub, reduceCtorEq, Int.reduceToNat] <;> (repeat' first | rfl | apply And.intro)))
          · have e : isSigns g (g.rules.getD k default).right = false := by assumption
            exact fin_mk (by rw [gcode_b, if_neg (by omega), if_neg (by rw [h4]; simp), if_neg (by omega), if_pos (any_hit (i := k) (by omega) (by rw [badRule, e]; simp))])
        · exact fin_mk (by rw [gcode_b, if_neg (by omega), if_neg (by rw [h4]; simp), if_neg (by omega), if_neg (by rw [any_none (i := k) (by omega) hb1]; simp)])
end Go.Proofs.Ytcbilnmpiladnaa

namespace Go.Proofs.Ytcbilnmpiladnaa
open Go.Dm
set_option linter.unusedSimpArgs false
set_option linter.unnecessarySimpa false
set_option linter.unusedVariables false
end Go.Proofs.Ytcbilnmpiladnaa

namespace Go.Proofs.Ytcbilnmpiladnaa
open Go.Dm
set_option linter.unusedSimpArgs false
set_option linter.unnecessarySimpa false
set_option linter.unusedVariables false
structure Valid (g : Grammar) : Prop where
  k : 1 ≤ g.k ∧ g.k ≤ 3
  n : 1 ≤ g.n ∧ g.n ≤ 5
  start : 0 ≤ g.start ∧ g.start < g.n
  len : g.rules.length ≤ 10
  left : ∀ r, r ∈ g.rules → 0 ≤ r.left ∧ r.left < g.n
  long : ∀ r, r ∈ g.rules → r.right.length ≤ 4
  right : ∀ r, r ∈ g.rules → ∀ y, y ∈ r.right → 0 ≤ y ∧ y < g.k + g.n
theorem valid_of {g : Grammar} (h : gcode g = 0) : Valid g := by
  rw [gcode_b] at h
  split at h
  · omega
  · next h1 =>
    split at h
    · omega
    · next h2 =>
      split at h
      · omega
      · next h3 =>
        split at h
        · omega
        · next h4 =>
          have hr : ∀ r, r ∈ g.rules → badRule g r = false := fun r hm => by
            cases hb : badRule g r
            · rfl
            · exact absurd (List.any_eq_true.2 ⟨r, hm, hb⟩) h4
          have hs : ∀ r, r ∈ g.rules → (0 ≤ r.left ∧ r.left < g.n) ∧ isSigns g r.right = true := fun r hm => by
            have := hr r hm
            simpa [badRule] using this
          refine ⟨by omega, by omega, by omega, by omega, fun r hm => (hs r hm).1, fun r hm => ?_, fun r hm y hy => ?_⟩
          · have : ¬ (4 < r.right.length) := fun hl => h2 (List.any_eq_true.2 ⟨r, hm, decide_eq_true hl⟩)
            omega
          · have := List.all_eq_true.1 (hs r hm).2 y hy
            exact of_decide_eq_true this
end Go.Proofs.Ytcbilnmpiladnaa

namespace Go.Dm
set_option linter.unusedSimpArgs false
set_option linter.defProp false
theorem kBldS_ii {cells : List D} {off : Nat} {k k' : IntKind} {a b : Int} {go : List D → Prop} : kBldS off 2 cells go [.v (.int k a), .v (.int k' b)] = ChkD (off + 2 ≤ cells.length) (splice cells off [.v (.int k a), .v (.int k' b)]) go := by
  rw [kBldS_n]; unfold ChkD; simp [D.one, Value.one]
theorem kBldS_is {cells : List D} {off : Nat} {k : IntKind} {a : Int} {sz : Nat} {es : List (List D)} {go : List D → Prop} : kBldS off 2 cells go [.v (.int k a), .sl sz es] = ChkD (off + 2 ≤ cells.length) (splice cells off [.v (.int k a), .sl sz es]) go := by
  rw [kBldS_n]; unfold ChkD; simp [D.one, Value.one]
theorem kBldS_iiis {cells : List D} {off : Nat} {k k' k'' : IntKind} {a b c : Int} {sz : Nat} {es : List (List D)} {go : List D → Prop} : kBldS off 4 cells go [.v (.int k a), .v (.int k' b), .v (.int k'' c), .sl sz es] = ChkD (off + 4 ≤ cells.length) (splice cells off [.v (.int k a), .v (.int k' b), .v (.int k'' c), .sl sz es]) go := by
  rw [kBldS_n]; unfold ChkD; simp [D.one, Value.one]
section
variable {P : Program} {s : S}
theorem fold_kill {σ τ i o : Nat} {fl : Bool} {K : S → Prop} (h : kFold σ τ i o fl K s) : ∃ s', Gho s (D.kill σ) s' ∧ K s' := by
  unfold kFold kM at h
  split at h
  · next ob hM =>
    unfold kFoldA kM at h
    split at h
    · next ob' hM' =>
      obtain ⟨⟨h1, h1', h2, h3, h4, h6, h7⟩, hk⟩ := h
      unfold kFoldC at hk
      split at hk
      · next υ sz off n hc =>
        obtain ⟨rfl, rfl, rfl, k4, k5, h5, k6⟩ := hk
        exact ⟨_, .fold s υ τ i o n fl ob ob' ⟨h1, h1'⟩ hM hM' h2 h3 h4 h5 h6 h7 hc k4 k5, k6⟩
      · next υ hc =>
        obtain ⟨rfl, k1, k2, k5, k6⟩ := hk
        exact ⟨_, .foldm s υ τ i o fl ob ob' ⟨h1, h1'⟩ hM hM' h2 h3 h4 k1 k2 h6 h7 hc k5, k6⟩
      · exact hk.elim
    · exact h.elim
  · exact h.elim
def callFd (P : Program) (f : FuncId) (d : Option Nat) (K : S → Prop) (σ : Nat) (raws : List D) (s' : S) : Prop := CallVC P f d K (raws.map (D.kill σ)) s'
theorem callFd_eq {f : FuncId} {d : Option Nat} {K : S → Prop} {σ : Nat} {raws : List D} : callFd P f d K σ raws s = kD (raws.map (D.kill σ)) (kCallw P f d K s) := (rfl)
theorem nlo_id {τ i o z : Nat} {K : S → Prop} (h : kNlo τ i o z K s) : ∃ s', Gho s (fun d => d) s' ∧ K s' := by
  unfold kNlo kM at h
  split at h
  · next ob hM =>
    obtain ⟨⟨h1, h2, h3, h4⟩, hk⟩ := h
    exact ⟨_, .nlo s τ i o z ob h1 hM h2 h3 h4, hk⟩
  · exact h.elim
def callNd (P : Program) (f : FuncId) (d : Option Nat) (K : S → Prop) (raws : List D) (s' : S) : Prop := CallVC P f d K (raws.map fun d => d) s'
theorem callNd_eq {f : FuncId} {d : Option Nat} {K : S → Prop} {raws : List D} : callNd P f d K raws s = kD raws (kCallw P f d K s) := by
  unfold callNd; rw [List.map_id']; rfl
theorem CallVC.nlo {f : FuncId} {d : Option Nat} {K : S → Prop} {raws views : List D} {own : Bool} (τ i o z : Nat) (h : kNlo τ i o z (callNd P f d K raws) s) : CallV P f views own raws s d K := fun _ _ => by
  obtain ⟨s', hg, hk⟩ := nlo_id h
  exact .ghost raws s _ _ hg hk
theorem CallVC.fold {f : FuncId} {d : Option Nat} {K : S → Prop} {raws views : List D} {own : Bool} (σ τ i o : Nat) (fl : Bool) (h : kFold σ τ i o fl (callFd P f d K σ raws) s) : CallV P f views own raws s d K := fun _ _ => by
  obtain ⟨s', hg, hk⟩ := fold_kill h
  exact .ghost raws s _ _ hg hk
def finHx (n0 : Nat) (R : D → List (Option Ob) → Prop) (d : D) (s' : S) : Prop := FinH n0 R s' d
theorem finHx_eq {n0 : Nat} {R : D → List (Option Ob) → Prop} {d : D} : finHx n0 R d s = FinH n0 R s d := (rfl)
theorem FinH.fold {n0 : Nat} {R : D → List (Option Ob) → Prop} {d : D} (σ τ i o : Nat) (fl : Bool) (hd : d.kill σ = d) (h : kFold σ τ i o fl (finHx n0 R d) s) : FinH n0 R s d := by
  obtain ⟨s', hg, s'', g, l, h1, h2, h3, h4, h5⟩ := fold_kill h
  refine ⟨s'', _, l, .step _ _ _ _ _ hg h1, h2, h3, h4, ?_⟩
  show R ((g (d.kill σ)).trim l.length) l
  rw [hd]; exact h5
end
def vmr := And.intro @callFd_eq <| And.intro @callNd_eq <| And.intro @finHx_eq <| And.intro @kBldS_ii <| And.intro @kBldS_is @kBldS_iiis
end Go.Dm

namespace Go.Dm
set_option linter.unusedSimpArgs false
set_option linter.defProp false
def ltAll : List Nat → Nat → Prop
  | [], _ => True
  | x :: r, N => x < N ∧ ltAll r N
theorem ltAll_nil {N : Nat} : ltAll [] N = True := (rfl)
theorem ltAll_cons {x N : Nat} {r : List Nat} : ltAll (x :: r) N = (x < N ∧ ltAll r N) := (rfl)
theorem ltAll_spec {N : Nat} : ∀ {l : List Nat}, ltAll l N → ∀ x, x ∈ l → x < N
  | y :: r, h, x, hx => by
    rcases List.mem_cons.1 hx with rfl | hx
    · exact h.1
    · exact ltAll_spec h.2 x hx
def lentM (s : S) (ι : List Nat) : List Nat → List Ob → Prop
  | [], _ => True
  | _, [] => True
  | x :: r, ob :: q => s.M x = some (ob.ren (iotaO ι s.N)) ∧ lentM s ι r q
theorem lentM_nil {s : S} {ι : List Nat} {q : List Ob} : lentM s ι [] q = True := (rfl)
theorem lentM_cons {s : S} {ι : List Nat} {x : Nat} {r : List Nat} {ob : Ob} {q : List Ob} : lentM s ι (x :: r) (ob :: q) = (s.M x = some (ob.ren (iotaO ι s.N)) ∧ lentM s ι r q) := (rfl)
theorem lentM_spec {s : S} {ι : List Nat} : ∀ {l : List Nat} {q : List Ob}, l.length = q.length → lentM s ι l q → ∀ k ob, q[k]? = some ob → s.M (l.getD k 0) = some (ob.ren (iotaO ι s.N))
  | [], [], _, _, k, ob, h => by simp at h
  | [], _ :: _, hl, _, _, _, _ => by simp at hl
  | _ :: _, [], hl, _, _, _, _ => by simp at hl
  | x :: r, o :: q, hl, hm, k, ob, h => by
    cases k with
    | zero => simp at h; subst h; exact hm.1
    | succ k => simpa using lentM_spec (by simpa using hl) hm.2 k ob (by simpa using h)
theorem CallVC.lendE {P : Program} {f : FuncId} {views raws : List D} {own : Bool} {s : S} {d : Option Nat} {K : S → Prop} (ι : List Nat) (ds : List D) (obs : List Ob) {R : D → List (Option Ob) → Prop} (h : SpecH P f ds obs R) (hn : ι.Nodup) (hl : ι.length = obs.length)
    (hq : ltAll ι s.N ∧ raws = ds.map (D.ren (iotaO ι s.N)) ∧ lentM s ι ι obs) (hk : ∀ r l, R r l → K ((s.after ι l).put d (r.ren (iotaO ι s.N)))) : CallV P f views own raws s d K :=
  CallVC.lend ι ds obs h hn (ltAll_spec hq.1) hl hq.2.1 (lentM_spec hl hq.2.2) hk
def vle0 := And.intro @ltAll_nil <| And.intro @ltAll_cons <| And.intro @lentM_nil @lentM_cons
end Go.Dm

namespace Go.Proofs.Ytcbilnmpiladnaa
open Go.Dm
set_option linter.unusedSimpArgs false
set_option linter.unnecessarySimpa false
set_option linter.unusedVariables false
set_option linter.defProp false
def itD (x : It) : List D := [iv .i64 x.1, iv .i64 x.2.1, iv .i64 x.2.2]
theorem itD_eq {x : It} : itD x = [iv .i64 x.1, iv .i64 x.2.1, iv .i64 x.2.2] := (rfl)
abbrev Ha := It × Int
def haD (e : Ha) : List D := [iv .i64 e.1.1, iv .i64 e.1.2.1, iv .i64 e.1.2.2, iv .i64 e.2]
abbrev haK : Kd := .map [.i64, .i64, .i64] true false
def scR (l : List It) : List D := [.own false 3 (tbl itD l)]
theorem scR_eq {l : List It} : scR l = [.own false 3 (tbl itD l)] := (rfl)
def hmR (h : List Ha) : List D := [.omp haK 4 (tbl haD h)]
theorem hmR_eq {h : List Ha} : hmR h = [.omp haK 4 (tbl haD h)] := (rfl)
def chO (g : Grammar) (S : List (List It)) (H : List (List Ha)) : List Ob := [⟨6, [[iv .i64 g.k, iv .i64 g.n, iv .i64 g.start, .sl 2 (tbl rulD g.rules), .ref 1 1 0 S.length, .ref 2 1 0 H.length]], false, true, .fix⟩, ⟨1, tbl scR S, true, true, .fix⟩, ⟨1, tbl hmR H, true, true, .fix⟩]
structure HI (S : List (List It)) (H : List (List Ha)) : Prop where
  len : H.length = S.length
  mem : ∀ i x, (∃ v, (x, v) ∈ H.getD i []) ↔ x ∈ S.getD i []
theorem sc_set {S : List (List It)} {i : Nat} {l : List It} : (tbl scR S).set i [.own false 3 (tbl itD l)] = tbl scR (S.set i l) := by rw [← tbl_set]; rfl
theorem hm_set {H : List (List Ha)} {i : Nat} {h : List Ha} : (tbl hmR H).set i [.omp haK 4 (tbl haD h)] = tbl hmR (H.set i h) := by rw [← tbl_set]; rfl
theorem it_app {l : List It} {a b c : Nat} : tbl itD l ++ [[D.v (.int .i64 a), D.v (.int .i64 b), D.v (.int .i64 c)]] = tbl itD (l ++ [(a, b, c)]) := by rw [tbl_app]; rfl
theorem ha_app {l : List Ha} {a b c : Nat} {v : Int} : tbl haD l ++ [[D.v (.int .i64 a), D.v (.int .i64 b), D.v (.int .i64 c), D.v (.int .i64 v)]] = tbl haD (l ++ [((a, b, c), v)]) := by rw [tbl_app]; rfl
theorem ha_set {l : List Ha} {a b c r : Nat} {v : Int} : (tbl haD l).set r [D.v (.int .i64 a), D.v (.int .i64 b), D.v (.int .i64 c), D.v (.int .i64 v)] = tbl haD (l.set r ((a, b, c), v)) := by rw [← tbl_set]; rfl
theorem ha_in {l : List Ha} {x : It} {r : Nat} (hr : r < (tbl haD l).length) (he : Agr (((tbl haD l).getD r []).take 3) [.v (.int .i64 x.1), .v (.int .i64 x.2.1), .v (.int .i64 x.2.2)]) : ∃ v, (x, v) ∈ l ∧ ((tbl haD l).getD r []).drop 3 = [iv .i64 v] := by
  have hr' : r < l.length := by simpa [tbl] using hr
  have e : (tbl haD l).getD r [] = haD (l.getD r default) := by simp [tbl, List.getD_eq_getElem?_getD, hr']
  have hm := getD_mem' (l := l) (i := r) hr'
  rw [e] at he ⊢
  generalize l.getD r default = y at *
  obtain ⟨⟨a, b, c⟩, v⟩ := y
  obtain ⟨a', b', c'⟩ := x
  simp only [haD, List.take_succ_cons, List.take_zero, Agr_v, D.v.injEq, Value.int.injEq, true_and, Int.natCast_inj] at he
  obtain ⟨rfl, rfl, rfl, _⟩ := he
  exact ⟨v, hm, rfl⟩
theorem ha_out {l : List Ha} {x : It} (hn : ∀ r, r < (tbl haD l).length → ((tbl haD l).getD r []).take 3 ≠ [.v (.int .i64 x.1), .v (.int .i64 x.2.1), .v (.int .i64 x.2.2)]) : ¬ ∃ v, (x, v) ∈ l := fun ⟨v, h⟩ => by
  obtain ⟨r, hr, e⟩ := List.mem_iff_getElem.1 h
  refine hn r (by simpa [tbl] using hr) ?_
  have : (tbl haD l).getD r [] = haD (x, v) := by simp [tbl, List.getD_eq_getElem?_getD, hr, e]
  rw [this]; rfl
theorem set_self {α : Type} {l : List α} {i : Nat} {d : α} (hi : i < l.length) : l.set i (l.getD i d) = l := by
  apply List.ext_getElem (by simp)
  intro j h1 h2
  rw [List.getElem_set]
  split
  · next e => subst e; simp [List.getD_eq_getElem?_getD, hi]
  · rfl
theorem ss_same {l : List (List It)} {i : Nat} (h : i < l.length) : l.set i (l.getD i default) = l := set_self h
theorem hh_same {l : List (List Ha)} {i : Nat} (h : i < l.length) : l.set i (l.getD i default) = l := set_self h
theorem gs_same {l : List (List D)} {i : Nat} {x d : List D} (h : i < l.length) : (l.set i x).getD i d = x := by simp [List.getD_eq_getElem?_getD, h]
theorem sc_all {S : List (List It)} : (tbl scR S).all (fun e => e.all D.clo') = true := by simp [tbl, scR, clo'_own]
theorem hm_all {H : List (List Ha)} : (tbl hmR H).all (fun e => e.all D.clo') = true := by simp [tbl, hmR, clo'_omp]
theorem sc_kill {S : List (List It)} {i τ : Nat} {x : D} : List.map (fun e => List.map (D.kill τ) e) ((tbl scR S).set i [x]) = (tbl scR S).set i [x.kill τ] := by
  have e : ((fun e => List.map (D.kill τ) e) ∘ scR) = scR := by funext l; simp [scR, kill_oo]
  simp [List.map_set, tbl, e]
theorem hm_kill {H : List (List Ha)} {i τ : Nat} {x : D} : List.map (fun e => List.map (D.kill τ) e) ((tbl hmR H).set i [x]) = (tbl hmR H).set i [x.kill τ] := by
  have e : ((fun e => List.map (D.kill τ) e) ∘ hmR) = hmR := by funext l; simp [hmR, kill_om]
  simp [List.map_set, tbl, e]
theorem tu_kill {τ : Nat} : (D.tu []).kill τ = .tu [] := by simp [D.kill, lf_tu]
def vit := And.intro vmr <| And.intro @ss_same <| And.intro @hh_same <| And.intro @sc_kill <| And.intro @hm_kill <| And.intro @gs_same <| And.intro @sc_all <| And.intro @hm_all <| And.intro @itD_eq <| And.intro @scR_eq <| And.intro @hmR_eq <| And.intro @sc_set <| And.intro @hm_set <| And.intro @it_app <| And.intro @ha_app <| And.intro @ha_set @rulD_eq
def nxD (g : Grammar) (x : It) : D := match nxt g x with
  | some s => .tu [iv .i64 s, .v (.bool true)]
  | none => .tu [iv .i64 0, .v (.bool false)]
theorem nxD_some {g : Grammar} {x : It} {s : Int} (h : nxt g x = some s) : nxD g x = .tu [iv .i64 s, .v (.bool true)] := by unfold nxD; rw [h]
theorem nxD_none {g : Grammar} {x : It} (h : nxt g x = none) : nxD g x = .tu [iv .i64 0, .v (.bool false)] := by unfold nxD; rw [h]
theorem ch_fin {g : Grammar} {S : List (List It)} {H : List (List Ha)} {s : Go.Dm.S} {d : D} {R : D → List (Option Ob) → Prop} (h1 : 3 ≤ s.N) (h2 : fitL s 3 0 ((chO g S H).map some)) (hd : R (d.trim 3) ((chO g S H).map some)) : FinH 3 R s d :=
  finH_mk ((chO g S H).map some) (by simp [chO]) (by simpa [chO] using h1) (by simpa [chO] using h2) hd
theorem get_some {l : List Int} {i : Nat} (h : i < l.length) : l[i]? = some (l.getD i 0) := by simp [List.getD_eq_getElem?_getD, h]
set_option maxRecDepth 10000 in
set_option maxHeartbeats 4000000 in
theorem next_spec (g : Grammar) (S : List (List It)) (H : List (List Ha)) (x : It) (h1 : x.1 < g.rules.length) (h2 : x.2.1 ≤ (rgt g x.1).length) : Dm.SpecH Try.prog 95 [.ptr 0 6 0 0, .ag (itD x)] (chO g S H) (fun d o => d = nxD g x ∧ o = (chO g S H).map some) := by
  refine specH_of_vc mixed Try.func95 c95 (by rw [show Try.f95.ntmps = _ from Try.ntmps95]; simp) ?_
  unfold m95 r95
  unfold chO
  unfold rgt at h2
  by_cases he : x.2.1 = (g.rules.getD x.1 default).right.length
  · have hn : nxt g x = none := by unfold nxt rgt; exact List.getElem?_eq_none_iff.2 (by omega)
    repeat' first | ((first | refine Br.dec ?_ ?_ | refine Br.eqi ?_ ?_) <;> intro h <;> try (exfalso; omega)) | (simp (disch := first | omega | (simp only [vlen]; first | done | omega)) only [vit, ↓vAq, vBq, ↓reduceIte, Nat.reduceBEq, Nat.reduceEqDiff, Nat.reduceLT, Nat.reduceLeDiff, Nat.reduceAdd, Nat.reduceMul, Nat.reduceSub, reduceCtorEq, Int.reduceToNat]) | (refine Br.mk ?_ ?_ <;> intro h) | (refine BrN.mk (fun h => ?_) ?_) | (refine AltVC.mk ?_ ?_)
    exact ch_fin (by simp (disch := first | omega | (simp only [vlen]; first | done | omega)) only [vit, ↓vAq, vBq, ↓reduceIte, Nat.reduceBEq, Nat.reduceEqDiff, Nat.reduceLT, Nat.reduceLeDiff, Nat.reduceAdd, Nat.reduceMul, Nat.reduceSub, reduceCtorEq, Int.reduceToNat]) (by unfold chO; simp (disch := first | omega | (simp only [vlen]; first | done | omega)) only [vit, ↓vAq, vBq, ↓reduceIte, Nat.reduceBEq, Nat.reduceEqDiff, Nat.reduceLT, Nat.reduceLeDiff, Nat.reduceAdd, Nat.reduceMul, Nat.reduceSub, reduceCtorEq, Int.reduceToNat]) ⟨by rw [nxD_none hn]; simp (disch := first | omega | (simp only [vlen]; first | done | omega)) only [vit, ↓vAq, vBq, ↓reduceIte, Nat.reduceBEq, Nat.reduceEqDiff, Nat.reduceLT, Nat.reduceLeDiff, Nat.reduceAdd, Nat.reduceMul, Nat.reduceSub, reduceCtorEq, Int.reduceToNat], rfl⟩
  · have hs : nxt g x = some ((g.rules.getD x.1 default).right.getD x.2.1 0) := by
      unfold nxt rgt
      exact get_some (by omega)
    repeat' first | ((first | refine Br.dec ?_ ?_ | refine Br.eqi ?_ ?_) <;> intro h <;> try (exfalso; omega)) | (simp (disch := first | omega | (simp only [vlen]; first | done | omega)) only [vit, ↓vAq, vBq, ↓reduceIte, Nat.reduceBEq, Nat.reduceEqDiff, Nat.reduceLT, Nat.reduceLeDiff, Nat.reduceAdd, Nat.reduceMul, Nat.reduceSub, reduceCtorEq, Int.reduceToNat]) | (refine Br.mk ?_ ?_ <;> intro h) | (refine BrN.mk (fun h => ?_) ?_) | (refine AltVC.mk ?_ ?_)
    exact ch_fin (by simp (disch := first | omega | (simp only [vlen]; first | done | omega)) only [vit, ↓vAq, vBq, ↓reduceIte, Nat.reduceBEq, Nat.reduceEqDiff, Nat.reduceLT, Nat.reduceLeDiff, Nat.reduceAdd, Nat.reduceMul, Nat.reduceSub, reduceCtorEq, Int.reduceToNat]) (by unfold chO; simp (disch := first | omega | (simp only [vlen]; first | done | omega)) only [vit, ↓vAq, vBq, ↓reduceIte, Nat.reduceBEq, Nat.reduceEqDiff, Nat.reduceLT, Nat.reduceLeDiff, Nat.reduceAdd, Nat.reduceMul, Nat.reduceSub, reduceCtorEq, Int.reduceToNat]) ⟨by rw [nxD_some hs]; simp (disch := first | omega | (simp only [vlen]; first | done | omega)) only [vit, ↓vAq, vBq, ↓reduceIte, Nat.reduceBEq, Nat.reduceEqDiff, Nat.reduceLT, Nat.reduceLeDiff, Nat.reduceAdd, Nat.reduceMul, Nat.reduceSub, reduceCtorEq, Int.reduceToNat], rfl⟩
theorem getD_set' {α : Type} {l : List α} {i j : Nat} {x d : α} (hi : i < l.length) : (l.set i x).getD j d = if j = i then x else l.getD j d := by
  by_cases e : j = i
  · subst e; rw [if_pos rfl]; simp [List.getD_eq_getElem?_getD, hi]
  · rw [if_neg e]
    simp only [List.getD_eq_getElem?_getD, List.getElem?_set]
    rw [if_neg (fun e' => e e'.symm)]
theorem HI.add {S : List (List It)} {H : List (List Ha)} (h : HI S H) {i : Nat} (hi : i < S.length) {x : It} {v : Int} : HI (S.set i (S.getD i [] ++ [x])) (H.set i (H.getD i [] ++ [(x, v)])) :=
  ⟨by simp [h.len], fun j y => by
    rw [getD_set' hi, getD_set' (by rw [h.len]; exact hi)]
    by_cases e : j = i
    · rw [if_pos e, if_pos e]
      have := h.mem i y
      constructor
      · rintro ⟨u, hu⟩
        rcases List.mem_append.1 hu with hu | hu
        · exact List.mem_append_left _ (this.1 ⟨u, hu⟩)
        · have := List.mem_singleton.1 hu
          rw [Prod.mk.injEq] at this
          rw [this.1]; simp
      · intro hy
        rcases List.mem_append.1 hy with hy | hy
        · obtain ⟨u, hu⟩ := this.2 hy
          exact ⟨u, List.mem_append_left _ hu⟩
        · rw [List.mem_singleton.1 hy]
          exact ⟨v, by simp⟩
    · rw [if_neg e, if_neg e]; exact h.mem j y⟩
def adR (g : Grammar) (S : List (List It)) (i : Nat) (x : It) (d : D) (o : List (Option Ob)) : Prop := d = .tu [] ∧ ∃ H', o = (chO g (addS S i x) H').map some ∧ HI (addS S i x) H'
set_option maxRecDepth 10000 in
set_option maxHeartbeats 4000000 in
theorem add_spec (g : Grammar) (S : List (List It)) (H : List (List Ha)) (hH : HI S H) (i : Nat) (hi : i < S.length) (hl : (S.getD i []).length ≤ 100000) (x : It) (hx : x.1 ≤ 100000 ∧ x.2.1 ≤ 100000 ∧ x.2.2 ≤ 100000) : Dm.SpecH Try.prog 96 [.ptr 0 6 0 0, iv .i64 i, .ag (itD x)] (chO g S H) (adR g S i x) := by
  refine specH_of_vc mixed Try.func96 c96 (by rw [show Try.f96.ntmps = _ from Try.ntmps96]; simp) ?_
  unfold m96 r96
  have hlen := hH.len
  have hmem := hH.mem i x
  have hl' : (S.getD i default).length ≤ 100000 := hl
  unfold chO
  repeat' first | ((first | refine Br.dec ?_ ?_ | refine Br.eqi ?_ ?_) <;> intro h <;> try (exfalso; omega)) | (simp (disch := first | omega | (simp only [vlen]; first | done | omega)) only [vit, ↓vAq, vBq, ↓reduceIte, Nat.reduceBEq, Nat.reduceEqDiff, Nat.reduceLT, Nat.reduceLeDiff, Nat.reduceAdd, Nat.reduceMul, Nat.reduceSub, reduceCtorEq, Int.reduceToNat]) | (refine Br.mk ?_ ?_ <;> intro h) | (refine BrN.mk (fun h => ?_) ?_) | (refine AltVC.mk ?_ ?_)
  refine BrK.mk (fun r hr he => ?_) (fun hn => ?_)
  · obtain ⟨v, hv, hR⟩ := ha_in hr he
    have hin : x ∈ S.getD i [] := hmem.1 ⟨v, hv⟩
    have ea : addS S i x = S := if_pos hin
    repeat' first | ((first | refine Br.dec ?_ ?_ | refine Br.eqi ?_ ?_) <;> intro h <;> try (exfalso; omega)) | (simp (disch := first | omega | (simp only [vlen]; first | done | omega)) only [hR, vit, ↓vAq, vBq, ↓reduceIte, Nat.reduceBEq, Nat.reduceEqDiff, Nat.reduceLT, Nat.reduceLeDiff, Nat.reduceAdd, Nat.reduceMul, Nat.reduceSub, reduceCtorEq, Int.reduceToNat]) | (refine Br.mk ?_ ?_ <;> intro h) | (refine BrN.mk (fun h => ?_) ?_) | (refine AltVC.mk ?_ ?_)
    refine FinH.fold 4 2 i 0 true tu_kill ?_
    repeat' first | ((first | refine Br.dec ?_ ?_ | refine Br.eqi ?_ ?_) <;> intro h <;> try (exfalso; omega)) | (simp (disch := first | omega | (simp only [vlen]; first | done | omega)) only [vit, ↓vAq, vBq, ↓reduceIte, Nat.reduceBEq, Nat.reduceEqDiff, Nat.reduceLT, Nat.reduceLeDiff, Nat.reduceAdd, Nat.reduceMul, Nat.reduceSub, reduceCtorEq, Int.reduceToNat]) | (refine Br.mk ?_ ?_ <;> intro h) | (refine BrN.mk (fun h => ?_) ?_) | (refine AltVC.mk ?_ ?_)
    exact ch_fin (g := g) (S := S) (H := H) (by simp (disch := first | omega | (simp only [vlen]; first | done | omega)) only [vit, ↓vAq, vBq, ↓reduceIte, Nat.reduceBEq, Nat.reduceEqDiff, Nat.reduceLT, Nat.reduceLeDiff, Nat.reduceAdd, Nat.reduceMul, Nat.reduceSub, reduceCtorEq, Int.reduceToNat]) (by unfold chO; simp (disch := first | omega | (simp only [vlen]; first | done | omega)) only [vit, ↓vAq, vBq, ↓reduceIte, Nat.reduceBEq, Nat.reduceEqDiff, Nat.reduceLT, Nat.reduceLeDiff, Nat.reduceAdd, Nat.reduceMul, Nat.reduceSub, reduceCtorEq, Int.reduceToNat]) ⟨by simp (disch := first | omega | (simp only [vlen]; first | done | omega)) only [vit, ↓vAq, vBq, ↓reduceIte, Nat.reduceBEq, Nat.reduceEqDiff, Nat.reduceLT, Nat.reduceLeDiff, Nat.reduceAdd, Nat.reduceMul, Nat.reduceSub, reduceCtorEq, Int.reduceToNat], _, by rw [ea], by rw [ea]; exact hH⟩
  · have hnin : x ∉ S.getD i [] := fun h => ha_out hn (hmem.2 h)
    have ea : addS S i x = S.set i (S.getD i [] ++ [x]) := if_neg hnin
    repeat' first | ((first | refine Br.dec ?_ ?_ | refine Br.eqi ?_ ?_) <;> intro h <;> try (exfalso; omega)) | (simp (disch := first | omega | (simp only [vlen]; first | done | omega)) only [vit, ↓vAq, vBq, ↓reduceIte, Nat.reduceBEq, Nat.reduceEqDiff, Nat.reduceLT, Nat.reduceLeDiff, Nat.reduceAdd, Nat.reduceMul, Nat.reduceSub, reduceCtorEq, Int.reduceToNat]) | (refine Br.mk ?_ ?_ <;> intro h) | (refine BrN.mk (fun h => ?_) ?_) | (refine AltVC.mk ?_ ?_)
    refine BrK.mk (fun r hr he => ?_) (fun hn2 => ?_)
    · obtain ⟨v, hv, hR⟩ := ha_in hr he
      exact absurd (hmem.1 ⟨v, hv⟩) hnin
    repeat' first | ((first | refine Br.dec ?_ ?_ | refine Br.eqi ?_ ?_) <;> intro h <;> try (exfalso; omega)) | (simp (disch := first | omega | (simp only [vlen]; first | done | omega)) only [vit, ↓vAq, vBq, ↓reduceIte, Nat.reduceBEq, Nat.reduceEqDiff, Nat.reduceLT, Nat.reduceLeDiff, Nat.reduceAdd, Nat.reduceMul, Nat.reduceSub, reduceCtorEq, Int.reduceToNat]) | (refine Br.mk ?_ ?_ <;> intro h) | (refine BrN.mk (fun h => ?_) ?_) | (refine AltVC.mk ?_ ?_)
    refine DrawVC.u ?_
    repeat' first | ((first | refine Br.dec ?_ ?_ | refine Br.eqi ?_ ?_) <;> intro h <;> try (exfalso; omega)) | (simp (disch := first | omega | (simp only [vlen]; first | done | omega)) only [vit, ↓vAq, vBq, ↓reduceIte, Nat.reduceBEq, Nat.reduceEqDiff, Nat.reduceLT, Nat.reduceLeDiff, Nat.reduceAdd, Nat.reduceMul, Nat.reduceSub, reduceCtorEq, Int.reduceToNat]) | (refine Br.mk ?_ ?_ <;> intro h) | (refine BrN.mk (fun h => ?_) ?_) | (refine AltVC.mk ?_ ?_)
    all_goals
      refine FinH.fold 4 2 i 0 true tu_kill ?_
      repeat' first | ((first | refine Br.dec ?_ ?_ | refine Br.eqi ?_ ?_) <;> intro h <;> try (exfalso; omega)) | (simp (disch := first | omega | (simp only [vlen]; first | done | omega)) only [vit, ↓vAq, vBq, ↓reduceIte, Nat.reduceBEq, Nat.reduceEqDiff, Nat.reduceLT, Nat.reduceLeDiff, Nat.reduceAdd, Nat.reduceMul, Nat.reduceSub, reduceCtorEq, Int.reduceToNat]) | (refine Br.mk ?_ ?_ <;> intro h) | (refine BrN.mk (fun h => ?_) ?_) | (refine AltVC.mk ?_ ?_)
      refine FinH.fold 5 1 i 0 true tu_kill ?_
      repeat' first | ((first | refine Br.dec ?_ ?_ | refine Br.eqi ?_ ?_) <;> intro h <;> try (exfalso; omega)) | (simp (disch := first | omega | (simp only [vlen]; first | done | omega)) only [vit, ↓vAq, vBq, ↓reduceIte, Nat.reduceBEq, Nat.reduceEqDiff, Nat.reduceLT, Nat.reduceLeDiff, Nat.reduceAdd, Nat.reduceMul, Nat.reduceSub, reduceCtorEq, Int.reduceToNat]) | (refine Br.mk ?_ ?_ <;> intro h) | (refine BrN.mk (fun h => ?_) ?_) | (refine AltVC.mk ?_ ?_)
      exact ch_fin (g := g) (S := S.set i (S.getD i default ++ [x])) (H := H.set i (H.getD i default ++ [(x, ((S.getD i default).length : Int))])) (by simp (disch := first | omega | (simp only [vlen]; first | done | omega)) only [vit, ↓vAq, vBq, ↓reduceIte, Nat.reduceBEq, Nat.reduceEqDiff, Nat.reduceLT, Nat.reduceLeDiff, Nat.reduceAdd, Nat.reduceMul, Nat.reduceSub, reduceCtorEq, Int.reduceToNat]) (by unfold chO; simp (disch := first | omega | (simp only [vlen]; first | done | omega)) only [vit, ↓vAq, vBq, ↓reduceIte, Nat.reduceBEq, Nat.reduceEqDiff, Nat.reduceLT, Nat.reduceLeDiff, Nat.reduceAdd, Nat.reduceMul, Nat.reduceSub, reduceCtorEq, Int.reduceToNat]) ⟨by simp (disch := first | omega | (simp only [vlen]; first | done | omega)) only [vit, ↓vAq, vBq, ↓reduceIte, Nat.reduceBEq, Nat.reduceEqDiff, Nat.reduceLT, Nat.reduceLeDiff, Nat.reduceAdd, Nat.reduceMul, Nat.reduceSub, reduceCtorEq, Int.reduceToNat], _, by rw [ea]; rfl, by rw [ea]; exact hH.add hi⟩
end Go.Proofs.Ytcbilnmpiladnaa
