/-
 Texts of this claim, one behind another.
-/
import Derived.Test.YtdncgpgfnclifaaMg10
import Derived.Test.YtdncgpgfnclifaaMg12
import Derived.Test.YtdncgpgfnclifaaCode
namespace Go.Proofs.Ytdncgpgfnclifaa
open Go.Dm
set_option linter.unusedSimpArgs false
set_option linter.unnecessarySimpa false
set_option linter.unusedVariables false
theorem mixed : Try.prog.follows .mixedOrders = true := by kernel_rfl
end Go.Proofs.Ytdncgpgfnclifaa

namespace Go.Proofs.Ytdncgpgfnclifaa
open Go.Dm
set_option linter.unusedSimpArgs false
set_option linter.unnecessarySimpa false
set_option linter.unusedVariables false
def idxOf {α : Type} (p : α → Bool) (l : List α) : Int := if l.any p = true then ((l.findIdx p : Nat) : Int) else -1
theorem idxOf_hit {α : Type} [Inhabited α] {p : α → Bool} {l : List α} {i : Nat} (hi : i < l.length) (h : p (l.getD i default) = true) (hn : ∀ j, j < i → p (l.getD j default) = false) : idxOf p l = i := by
  have e : ∀ j (hj : j < l.length), l.getD j default = l[j] := fun j hj => by simp [List.getD, hj]
  unfold idxOf
  rw [if_pos (List.any_eq_true.2 ⟨l[i], List.getElem_mem hi, by rw [← e i hi]; exact h⟩)]
  rw [(List.findIdx_eq hi).2 ⟨by rw [← e i hi]; exact h, fun j hj => by rw [← e j (by omega)]; exact hn j hj⟩]
theorem any_none {α : Type} [Inhabited α] {p : α → Bool} {l : List α} {i : Nat} (hi : l.length ≤ i) (hn : ∀ j, j < i → p (l.getD j default) = false) : l.any p = false := by
  rw [List.any_eq_false]
  intro x hx
  obtain ⟨j, hj, e⟩ := mem_getD hx
  rw [← e, hn j (by omega)]
  simp
theorem idxOf_miss {α : Type} [Inhabited α] {p : α → Bool} {l : List α} {i : Nat} (hi : l.length ≤ i) (hn : ∀ j, j < i → p (l.getD j default) = false) : idxOf p l = -1 := by
  unfold idxOf
  rw [if_neg (by rw [any_none hi hn]; simp)]
theorem idxOf_geq {α : Type} {p : α → Bool} {l : List α} : decide (0 ≤ idxOf p l) = l.any p := by
  unfold idxOf
  by_cases h : l.any p = true
  · rw [if_pos h, h]; exact decide_eq_true (by omega)
  · rw [if_neg h, Bool.not_eq_true] at *; rw [h]; rfl
theorem cl_lf {f : D → D} (hf : ∀ d, clL d = true → f d = d) : ∀ d : D, d.cl = true → d.lf f = d
  | .ag ds, h => by
    have hd : ∀ d, d ∈ ds → d.cl = true := fun d hm => by rw [D.cl, alls_ag] at h; exact List.all_eq_true.1 h d hm
    have ih : ∀ d, d ∈ ds → d.lf f = d := fun d hm => cl_lf hf d (hd d hm)
    rw [lf_ag, List.map_congr_left ih, List.map_id']
  | .tu ds, h => by
    have hd : ∀ d, d ∈ ds → d.cl = true := fun d hm => by rw [D.cl, alls_tu] at h; exact List.all_eq_true.1 h d hm
    have ih : ∀ d, d ∈ ds → d.lf f = d := fun d hm => cl_lf hf d (hd d hm)
    rw [lf_tu, List.map_congr_left ih, List.map_id']
  | .clo g ds, h => by
    have hd : ∀ d, d ∈ ds → d.cl = true := fun d hm => by rw [cl_clo] at h; exact List.all_eq_true.1 h d hm
    have ih : ∀ d, d ∈ ds → d.lf f = d := fun d hm => cl_lf hf d (hd d hm)
    rw [lf_clo, List.map_congr_left ih, List.map_id']
  | .v x, h => by rw [lf_leaf rfl]; exact hf _ rfl
  | .nl, h => by rw [lf_leaf rfl]; exact hf _ rfl
  | .sl _ _, h => by rw [lf_leaf rfl]; exact hf _ rfl
  | .ip _ _, h => by rw [lf_leaf rfl]; exact hf _ rfl
  | .ref _ _ _ _, h => by rw [D.cl, alls_leaf rfl] at h; cases h
  | .ptr _ _ _ _, h => by rw [D.cl, alls_leaf rfl] at h; cases h
  | .mp _, h => by rw [D.cl, alls_leaf rfl] at h; cases h
  | .own _ _ _, h => by rw [D.cl, alls_leaf rfl] at h; cases h
  | .omp _ _ _, h => by rw [D.cl, alls_leaf rfl] at h; cases h
  | .junk, h => by rw [D.cl, alls_leaf rfl] at h; cases h
termination_by d => SizeOf.sizeOf d
decreasing_by all_goals (have := List.sizeOf_lt_of_mem hm; simp; omega)
theorem cl_J : ∀ d : D, d.alls clL = true → d.alls clJ = true
  | .ag ds, h => by
    rw [alls_ag] at h ⊢
    exact List.all_eq_true.2 fun d hm => cl_J d (List.all_eq_true.1 h d hm)
  | .tu ds, h => by
    rw [alls_tu] at h ⊢
    exact List.all_eq_true.2 fun d hm => cl_J d (List.all_eq_true.1 h d hm)
  | .clo g ds, h => by
    rw [alls_clo] at h ⊢
    exact List.all_eq_true.2 fun d hm => cl_J d (List.all_eq_true.1 h d hm)
  | .v x, h => by rw [alls_leaf rfl]; rfl
  | .nl, h => by rw [alls_leaf rfl]; rfl
  | .sl _ _, h => by rw [alls_leaf rfl]; rfl
  | .ip _ _, h => by rw [alls_leaf rfl]; rfl
  | .ref _ _ _ _, h => by rw [alls_leaf rfl] at h; cases h
  | .ptr _ _ _ _, h => by rw [alls_leaf rfl] at h; cases h
  | .mp _, h => by rw [alls_leaf rfl] at h; cases h
  | .own _ _ _, h => by rw [alls_leaf rfl] at h; cases h
  | .omp _ _ _, h => by rw [alls_leaf rfl] at h; cases h
  | .junk, h => by rw [alls_leaf rfl] at h; cases h
termination_by d => SizeOf.sizeOf d
decreasing_by all_goals (have := List.sizeOf_lt_of_mem hm; simp; omega)
section
variable {ds : List D} (hd : ds.all D.cl = true)
include hd
theorem map_lf {f : D → D} (hf : ∀ d, clL d = true → f d = d) : ds.map (D.lf f) = ds := by
  rw [List.map_congr_left (fun d hm => cl_lf hf d (List.all_eq_true.1 hd d hm)), List.map_id']
theorem cl_trims (n : Nat) : (ds.map fun d => d.trim n) = ds := map_lf hd (f := trimL n) (fun d h => by cases d <;> first | rfl | cases h)
theorem cl_views (s : S) : ds.map s.view = ds := map_lf hd (f := s.viewL) (fun d h => by cases d <;> first | rfl | cases h)
theorem cl_owned : ds.any D.owned = false := by
  rw [List.any_eq_false]
  intro d hm
  have h := List.all_eq_true.1 hd d hm
  have : d.alls clJ = true := by
    revert h
    unfold D.cl
    exact cl_J d
  simp [D.owned, this]
end
set_option maxRecDepth 10000 in
set_option maxHeartbeats 4000000 in
theorem idxF_ints (l : List (List Int)) (p : List Int → Bool) (f : FuncId) (ds : List D) (hl : l.length ≤ 9223372036854775807) (hd : ds.all D.cl = true) (hp : ∀ a, a ∈ l → Dm.Spec Try.prog f (.sl 1 (i64s a) :: ds) (· = .v (.bool (p a)))) : Dm.Spec Try.prog 25 [.sl 1 (rows i64s l), .clo f ds] (· = .v (.int .i64 (idxOf p l))) := by
  refine spec_of_vc mixed Try.func25 c25 (by rw [show Try.f25.ntmps = _ from Try.ntmps25]; simp) ?_
  unfold m25 r25
  repeat' first | ((first | refine Br.dec ?_ ?_ | refine Br.eqi ?_ ?_) <;> intro h <;> try (exfalso; omega)) | (simp (disch := first | omega | (simp only [vlen]; first | done | omega)) only [↓vAq, vBq, ↓reduceIte, Nat.reduceBEq, Nat.reduceEqDiff, Nat.reduceLT, Nat.reduceLeDiff, Nat.reduceAdd, Nat.reduceMul, Nat.reduceSub, reduceCtorEq, Int.reduceToNat]) | (refine Br.mk ?_ ?_ <;> intro h) | (refine BrN.mk (fun h => ?_) ?_) | (refine AltVC.mk ?_ ?_)
  refine LoopVC.mk (X := Nat) (fun i => [(1, .clo f ds), (8, iv .i64 i)]) (fun _ => []) (fun i => l.length - i) (fun i => i ≤ l.length ∧ ∀ j, j < i → p (l.getD j default) = false) 0 ⟨by omega, by omega⟩ ?_ ?_
  · (simp (disch := first | omega | (simp only [vlen]; first | done | omega)) only [Fits_u, Fits_m, Fits_nil, List.length_append, ↓vAq, vBq, ↓reduceIte, Nat.reduceBEq, Nat.reduceEqDiff, Nat.reduceLT, Nat.reduceLeDiff, Nat.reduceAdd, Nat.reduceMul, Nat.reduceSub, reduceCtorEq, Int.reduceToNat] <;> (repeat' first | rfl | apply And.intro))
  · rintro i ⟨hi, hn⟩
    repeat' first | ((first | refine Br.dec ?_ ?_ | refine Br.eqi ?_ ?_) <;> intro h <;> try (exfalso; omega)) | (simp (disch := first | omega | (simp only [vlen]; first | done | omega)) only [↓vAq, vBq, ↓reduceIte, Nat.reduceBEq, Nat.reduceEqDiff, Nat.reduceLT, Nat.reduceLeDiff, Nat.reduceAdd, Nat.reduceMul, Nat.reduceSub, reduceCtorEq, Int.reduceToNat]) | (refine Br.mk ?_ ?_ <;> intro h) | (refine BrN.mk (fun h => ?_) ?_) | (refine AltVC.mk ?_ ?_)
    · rw [cl_views hd, cl_owned hd]
      refine CallVC.eq (hp (l.getD i default) (getD_mem' (by omega))) ?_
      repeat' first | ((first | refine Br.dec ?_ ?_ | refine Br.eqi ?_ ?_) <;> intro h <;> try (exfalso; omega)) | (simp (disch := first | omega | (simp only [vlen]; first | done | omega)) only [↓vAq, vBq, ↓reduceIte, Nat.reduceBEq, Nat.reduceEqDiff, Nat.reduceLT, Nat.reduceLeDiff, Nat.reduceAdd, Nat.reduceMul, Nat.reduceSub, reduceCtorEq, Int.reduceToNat]) | (refine Br.mk ?_ ?_ <;> intro h) | (refine BrN.mk (fun h => ?_) ?_) | (refine AltVC.mk ?_ ?_)
      · refine fin_mk (viEq ?_)
        rw [idxOf_hit (by omega) (by assumption) hn]
      · refine loopK.mk (i + 1) (by simp (disch := first | omega | (simp only [vlen]; first | done | omega)) only [↓vAq, vBq, ↓reduceIte, Nat.reduceBEq, Nat.reduceEqDiff, Nat.reduceLT, Nat.reduceLeDiff, Nat.reduceAdd, Nat.reduceMul, Nat.reduceSub, reduceCtorEq, Int.reduceToNat]) ⟨by omega, fun j hj => ?_⟩ (by omega) ?_
        · by_cases e : j = i
          · subst e; assumption
          · exact hn j (by omega)
        · (simp (disch := first | omega | (simp only [vlen]; first | done | omega)) only [Fits_u, Fits_m, Fits_nil, List.length_append, ↓vAq, vBq, ↓reduceIte, Nat.reduceBEq, Nat.reduceEqDiff, Nat.reduceLT, Nat.reduceLeDiff, Nat.reduceAdd, Nat.reduceMul, Nat.reduceSub, reduceCtorEq, Int.reduceToNat] <;> (repeat' first | rfl | apply And.intro))
          rw [cl_trims hd]
    · refine fin_mk (viEq ?_)
      rw [idxOf_miss (by omega) hn]
set_option maxRecDepth 10000 in
set_option maxHeartbeats 4000000 in
theorem conF_ints (l : List (List Int)) (p : List Int → Bool) (f : FuncId) (ds : List D) (hl : l.length ≤ 9223372036854775807) (hd : ds.all D.cl = true) (hp : ∀ a, a ∈ l → Dm.Spec Try.prog f (.sl 1 (i64s a) :: ds) (· = .v (.bool (p a)))) : Dm.Spec Try.prog 20 [.sl 1 (rows i64s l), .clo f ds] (· = .v (.bool (l.any p))) := by
  refine spec_of_vc mixed Try.func20 c20 (by rw [show Try.f20.ntmps = _ from Try.ntmps20]; simp) ?_
  unfold m20 r20
  repeat' first | ((first | refine Br.dec ?_ ?_ | refine Br.eqi ?_ ?_) <;> intro h <;> try (exfalso; omega)) | (simp (disch := first | omega | (simp only [vlen]; first | done | omega)) only [↓vAq, vBq, ↓reduceIte, Nat.reduceBEq, Nat.reduceEqDiff, Nat.reduceLT, Nat.reduceLeDiff, Nat.reduceAdd, Nat.reduceMul, Nat.reduceSub, reduceCtorEq, Int.reduceToNat]) | (refine Br.mk ?_ ?_ <;> intro h) | (refine BrN.mk (fun h => ?_) ?_) | (refine AltVC.mk ?_ ?_)
  rw [cl_views hd, cl_owned hd]
  refine CallVC.eq (idxF_ints l p f ds hl hd hp) ?_
  repeat' first | ((first | refine Br.dec ?_ ?_ | refine Br.eqi ?_ ?_) <;> intro h <;> try (exfalso; omega)) | (simp (disch := first | omega | (simp only [vlen]; first | done | omega)) only [↓vAq, vBq, ↓reduceIte, Nat.reduceBEq, Nat.reduceEqDiff, Nat.reduceLT, Nat.reduceLeDiff, Nat.reduceAdd, Nat.reduceMul, Nat.reduceSub, reduceCtorEq, Int.reduceToNat]) | (refine Br.mk ?_ ?_ <;> intro h) | (refine BrN.mk (fun h => ?_) ?_) | (refine AltVC.mk ?_ ?_)
  exact fin_mk (vbEq idxOf_geq)
end Go.Proofs.Ytdncgpgfnclifaa

namespace Go.Proofs.Ytdncgpgfnclifaa
open Go.Dm
set_option linter.unusedSimpArgs false
set_option linter.unnecessarySimpa false
set_option linter.unusedVariables false
def nodeCode (k i : Int) (n : Dm.Node) : Int :=
  if n.kind < 1 ∨ 6 < n.kind then 6
  else if n.kind = 3 ∧ (n.a < 0 ∨ k ≤ n.a) then 2
  else if 4 ≤ n.kind ∧ (n.a < 0 ∨ i ≤ n.a) then 2
  else if (n.kind = 4 ∨ n.kind = 5) ∧ (n.b < 0 ∨ i ≤ n.b) then 2
  else 0
def rightF (k : Int) : Nat → List Dm.Node → Int
  | _, [] => 0
  | i, n :: r => if nodeCode k i n = 0 then rightF k (i + 1) r else nodeCode k i n
theorem dropN {l : List Dm.Node} {i : Nat} (h : i < l.length) : l.drop i = l.getD i default :: l.drop (i + 1) := by
  rw [List.drop_eq_getElem_cons h]; simp [List.getD, h]
theorem right_step {k : Int} {l : List Dm.Node} {i : Nat} (h : i < l.length) (hc : nodeCode k i (l.getD i default) = 0) : rightF k i (l.drop i) = rightF k (i + 1) (l.drop (i + 1)) := by
  rw [dropN h, rightF, if_pos hc]
theorem right_hit {k : Int} {l : List Dm.Node} {i : Nat} (h : i < l.length) (hc : ¬ nodeCode k i (l.getD i default) = 0) : rightF k i (l.drop i) = nodeCode k i (l.getD i default) := by
  rw [dropN h, rightF, if_neg hc]
theorem right_end {k : Int} {l : List Dm.Node} {i : Nat} (h : l.length ≤ i) : rightF k i (l.drop i) = 0 := by
  rw [List.drop_eq_nil_of_le h]; rfl
set_option maxRecDepth 10000 in
set_option maxHeartbeats 4000000 in
theorem right_spec (k : Int) (l : List Dm.Node) (hl : l.length ≤ 9223372036854775807) : Dm.Spec Try.prog 6 [iv .i64 k, .sl 3 (tbl nodD l)] (· = iv .i64 (rightF k 0 l)) := by
  refine spec_of_vc mixed Try.func6 c6 (by rw [show Try.f6.ntmps = _ from Try.ntmps6]; simp) ?_
  unfold m6 r6
  repeat' first | ((first | refine Br.dec ?_ ?_ | refine Br.eqi ?_ ?_) <;> intro h <;> try (exfalso; omega)) | (simp (disch := first | omega | (simp only [vlen]; first | done | omega)) only [↓vAq, vBq, ↓reduceIte, Nat.reduceBEq, Nat.reduceEqDiff, Nat.reduceLT, Nat.reduceLeDiff, Nat.reduceAdd, Nat.reduceMul, Nat.reduceSub, reduceCtorEq, Int.reduceToNat]) | (refine Br.mk ?_ ?_ <;> intro h) | (refine BrN.mk (fun h => ?_) ?_) | (refine AltVC.mk ?_ ?_)
  refine LoopVC.mk (X := Nat) (fun i => [(9, iv .i64 i)]) (fun _ => []) (fun i => l.length - i) (fun i => i ≤ l.length ∧ rightF k 0 l = rightF k i (l.drop i)) 0 ⟨by omega, by simp⟩ ?_ ?_
  · (simp (disch := first | omega | (simp only [vlen]; first | done | omega)) only [Fits_u, Fits_m, Fits_nil, List.length_append, ↓vAq, vBq, ↓reduceIte, Nat.reduceBEq, Nat.reduceEqDiff, Nat.reduceLT, Nat.reduceLeDiff, Nat.reduceAdd, Nat.reduceMul, Nat.reduceSub, reduceCtorEq, Int.reduceToNat] <;> (repeat' first | rfl | apply And.intro))
  · rintro i ⟨h1, h2⟩
    have hc : nodeCode k i (l.getD i default) = nodeCode k i (l.getD i default) := rfl
    conv at hc => rhs; unfold nodeCode
    repeat' first | ((first | refine Br.dec ?_ ?_ | refine Br.eqi ?_ ?_) <;> intro h <;> try (exfalso; omega)) | (simp (disch := first | omega | (simp only [vlen]; first | done | omega)) only [↓vAq, vBq, ↓reduceIte, Nat.reduceBEq, Nat.reduceEqDiff, Nat.reduceLT, Nat.reduceLeDiff, Nat.reduceAdd, Nat.reduceMul, Nat.reduceSub, reduceCtorEq, Int.reduceToNat]) | (refine Br.mk ?_ ?_ <;> intro h) | (refine BrN.mk (fun h => ?_) ?_) | (refine AltVC.mk ?_ ?_)
    all_goals first
      | exact fin_mk (viEq (by rw [h2, right_end (by omega)]))
      | exact fin_mk (viEq (by
          have hn : nodeCode k i (l.getD i default) = 2 ∨ nodeCode k i (l.getD i default) = 6 := by rw [hc]; (repeat' split) <;> omega
          rw [h2, right_hit (by omega) (by omega), hc]
          (repeat' split) <;> omega))
      | exact loopK.mk (i + 1) (by simp (disch := first | omega | (simp only [vlen]; first | done | omega)) only [↓vAq, vBq, ↓reduceIte, Nat.reduceBEq, Nat.reduceEqDiff, Nat.reduceLT, Nat.reduceLeDiff, Nat.reduceAdd, Nat.reduceMul, Nat.reduceSub, reduceCtorEq, Int.reduceToNat]) ⟨by omega, by rw [h2, right_step (by omega) (by rw [hc]; (repeat' split) <;> omega)]⟩ (by omega) (by (simp (disch := first | omega | (simp only [vlen]; first | done | omega)) only [Fits_u, Fits_m, Fits_nil, List.length_append, ↓vAq, vBq, ↓reduceIte, Nat.reduceBEq, Nat.reduceEqDiff, Nat.reduceLT, Nat.reduceLeDiff, Nat.reduceAdd, Nat.reduceMul, Nat.reduceSub, reduceCtorEq, Int.reduceToNat] <;> (repeat' first | rfl | apply And.intro)))
end Go.Proofs.Ytdncgpgfnclifaa

namespace Go.Dm
set_option linter.unusedSimpArgs false
set_option linter.unnecessarySimpa false
set_option linter.unusedVariables false
abbrev Lg := List Int → Prop
def noL : Lg := fun _ => False
instance : Inhabited Lg := ⟨noL⟩
inductive Star (L : Lg) : Lg
  | nil : Star L []
  | app {a b : List Int} (h : L a) (t : Star L b) : Star L (a ++ b)
def catL (A B : Lg) : Lg := fun u => ∃ a b, A a ∧ B b ∧ u = a ++ b
def orL (A B : Lg) : Lg := fun u => A u ∨ B u
def emL : Lg := fun u => u = []
def syL (s : Int) : Lg := fun u => u = [s]
def stepL (Ls : List Lg) (x : Node) : Lg :=
  if x.kind = 2 then emL else if x.kind = 3 then syL x.a
  else if x.kind = 4 then catL (Ls.getD x.a.toNat noL) (Ls.getD x.b.toNat noL)
  else if x.kind = 5 then orL (Ls.getD x.a.toNat noL) (Ls.getD x.b.toNat noL)
  else if x.kind = 6 then Star (Ls.getD x.a.toNat noL) else noL
def langs (l : List Node) : List Lg := l.foldl (fun Ls x => Ls ++ [stepL Ls x]) []
def lang (l : List Node) (k : Nat) : Lg := (langs l).getD k noL
theorem langs_snoc {l : List Node} {x : Node} : langs (l ++ [x]) = langs l ++ [stepL (langs l) x] := by
  unfold langs; rw [List.foldl_append]; rfl
theorem snoc_ind {α : Type} {P : List α → Prop} (h0 : P []) (h1 : ∀ l x, P l → P (l ++ [x])) (l : List α) : P l := by
  have : ∀ r : List α, P r.reverse := fun r => by
    induction r with
    | nil => exact h0
    | cons x r ih => rw [List.reverse_cons]; exact h1 _ _ ih
  have h := this l.reverse
  rwa [List.reverse_reverse] at h
theorem langs_len {l : List Node} : (langs l).length = l.length := by
  induction l using snoc_ind with
  | h0 => rfl
  | h1 l x ih => rw [langs_snoc, List.length_append, List.length_append, ih]; rfl
theorem lang_pre {l r : List Node} {k : Nat} (h : k < l.length) : lang (l ++ r) k = lang l k := by
  induction r using snoc_ind with
  | h0 => rw [List.append_nil]
  | h1 r x ih =>
    rw [← ih, ← List.append_assoc]
    unfold lang
    rw [langs_snoc]
    have : k < (langs (l ++ r)).length := by rw [langs_len, List.length_append]; omega
    simp [List.getD, List.getElem?_append_left this]
theorem lang_last {l : List Node} {x : Node} : lang (l ++ [x]) l.length = stepL (langs l) x := by
  unfold lang
  rw [langs_snoc]
  have := @langs_len l
  simp [List.getD, ← this]
theorem lang_at {l : List Node} {k : Nat} (h : k < l.length) : lang l k = stepL (langs (l.take k)) (l.getD k default) := by
  have e : l = (l.take k ++ [l.getD k default]) ++ l.drop (k + 1) := by
    rw [← take_succ_getD h, List.take_append_drop]
  have h2 : (l.take k).length = k := by simp; omega
  conv => lhs; rw [e]
  rw [lang_pre (by rw [List.length_append, h2]; simp)]
  have := @lang_last (l.take k) (l.getD k default)
  rwa [h2] at this
theorem langs_take {l : List Node} {k a : Nat} (h : k ≤ l.length) (ha : a < k) : (langs (l.take k)).getD a noL = lang l a := by
  have h2 : (l.take k).length = k := by simp; omega
  have := @lang_pre (l.take k) (l.drop k) a (by omega)
  rw [List.take_append_drop] at this
  exact this.symm
def NodeOk (k : Int) (i : Nat) (n : Node) : Prop := 1 ≤ n.kind ∧ n.kind ≤ 6 ∧ (n.kind = 3 → 0 ≤ n.a ∧ n.a < k) ∧ (4 ≤ n.kind → 0 ≤ n.a ∧ n.a < i) ∧ (n.kind = 4 ∨ n.kind = 5 → 0 ≤ n.b ∧ n.b < i)
def NodesOk (k : Int) (l : List Node) : Prop := ∀ i, i < l.length → NodeOk k i (l.getD i default)
section
variable {k : Int} {l : List Node} {i : Nat}
theorem lang_1 (h : i < l.length) (e : (l.getD i default).kind = 1) : lang l i = noL := by rw [lang_at h]; unfold stepL; rw [e]; rfl
theorem lang_2 (h : i < l.length) (e : (l.getD i default).kind = 2) : lang l i = emL := by rw [lang_at h]; unfold stepL; rw [e]; rfl
theorem lang_3 (h : i < l.length) (e : (l.getD i default).kind = 3) : lang l i = syL (l.getD i default).a := by rw [lang_at h]; unfold stepL; rw [e]; rfl
theorem lang_4 (hv : NodesOk k l) (h : i < l.length) (e : (l.getD i default).kind = 4) : lang l i = catL (lang l (l.getD i default).a.toNat) (lang l (l.getD i default).b.toNat) := by
  have := hv i h
  obtain ⟨h1, h2, h3, h4, h5⟩ := this
  have h4 := h4 (by omega)
  have h5 := h5 (.inl e)
  rw [lang_at h]
  simp only [stepL, e]
  rw [langs_take (by omega) (by omega), langs_take (by omega) (by omega)]
  rfl
theorem lang_5 (hv : NodesOk k l) (h : i < l.length) (e : (l.getD i default).kind = 5) : lang l i = orL (lang l (l.getD i default).a.toNat) (lang l (l.getD i default).b.toNat) := by
  have := hv i h
  obtain ⟨h1, h2, h3, h4, h5⟩ := this
  have h4 := h4 (by omega)
  have h5 := h5 (.inr e)
  rw [lang_at h]
  simp only [stepL, e]
  rw [langs_take (by omega) (by omega), langs_take (by omega) (by omega)]
  rfl
theorem lang_6 (hv : NodesOk k l) (h : i < l.length) (e : (l.getD i default).kind = 6) : lang l i = Star (lang l (l.getD i default).a.toNat) := by
  have := hv i h
  obtain ⟨h1, h2, h3, h4, h5⟩ := this
  have h4 := h4 (by omega)
  rw [lang_at h]
  simp only [stepL, e]
  rw [langs_take (by omega) (by omega)]
  rfl
end
def seg (w : List Int) (i j : Nat) : List Int := (w.drop i).take (j - i)
section
variable {w : List Int} {i m j : Nat}
theorem seg_len (hj : j ≤ w.length) : (seg w i j).length = j - i := by simp [seg]; omega
theorem seg_self : seg w i i = [] := by simp [seg]
theorem seg_all : seg w 0 w.length = w := by simp [seg]
theorem seg_app (h1 : i ≤ m) (h2 : m ≤ j) (h3 : j ≤ w.length) : seg w i j = seg w i m ++ seg w m j := by
  unfold seg
  have e : j - i = (m - i) + (j - m) := by omega
  rw [e, List.take_add, List.drop_drop, show i + (m - i) = m by omega]
theorem seg_one (h : i < w.length) : seg w i (i + 1) = [w.getD i 0] := by
  unfold seg
  rw [show i + 1 - i = 1 by omega, List.drop_eq_getElem_cons h, List.take_succ_cons, List.take_zero]
  simp [List.getD, h]
theorem seg_split {a b : List Int} (h1 : i ≤ j) (h2 : j ≤ w.length) (h : seg w i j = a ++ b) : a = seg w i (i + a.length) ∧ b = seg w (i + a.length) j ∧ i + a.length ≤ j := by
  have hl := seg_len (i := i) h2
  rw [h, List.length_append] at hl
  have e := seg_app (m := i + a.length) (i := i) (j := j) (w := w) (by omega) (by omega) h2
  rw [h] at e
  have h3 : (seg w i (i + a.length)).length = a.length := by rw [seg_len (by omega)]; omega
  have := List.append_inj e h3.symm
  exact ⟨this.1, this.2, by omega⟩
end
def Mt (l : List Node) (w : List Int) (k i j : Nat) : Prop := i ≤ j ∧ lang l k (seg w i j)
theorem cat_seg {A B : Lg} {w : List Int} {i j : Nat} (h : i ≤ j) (hj : j ≤ w.length) : catL A B (seg w i j) ↔ ∃ m, i ≤ m ∧ m ≤ j ∧ A (seg w i m) ∧ B (seg w m j) := by
  constructor
  · rintro ⟨a, b, ha, hb, e⟩
    obtain ⟨e1, e2, e3⟩ := seg_split h hj e
    exact ⟨i + a.length, by omega, e3, e1 ▸ ha, e2 ▸ hb⟩
  · rintro ⟨m, h1, h2, ha, hb⟩
    exact ⟨_, _, ha, hb, seg_app h1 h2 hj⟩
theorem star_app {L : Lg} {a b : List Int} (ha : Star L a) (hb : Star L b) : Star L (a ++ b) := by
  induction ha with
  | nil => exact hb
  | app h t ih => rw [List.append_assoc]; exact .app h ih
theorem star_one {L : Lg} {a : List Int} (h : L a) : Star L a := by
  have := Star.app h Star.nil
  rwa [List.append_nil] at this
theorem star_front {L : Lg} {u : List Int} (h : Star L u) : u = [] ∨ ∃ a b, a ≠ [] ∧ L a ∧ Star L b ∧ u = a ++ b := by
  induction h with
  | nil => exact .inl rfl
  | @app a b h t ih =>
    by_cases e : a = []
    · subst e; exact ih
    · exact .inr ⟨a, b, e, h, t, rfl⟩
theorem star_seg {L : Lg} {w : List Int} {i j : Nat} (h : i ≤ j) (hj : j ≤ w.length) : Star L (seg w i j) ↔ i = j ∨ ∃ m, i + 1 ≤ m ∧ m ≤ j ∧ L (seg w i m) ∧ Star L (seg w m j) := by
  constructor
  · intro hs
    rcases star_front hs with e | ⟨a, b, e, ha, hb, e2⟩
    · left
      have := seg_len (i := i) hj
      rw [e] at this; simp at this; omega
    · obtain ⟨e1, e2, e3⟩ := seg_split h hj e2
      have : 0 < a.length := List.length_pos_iff.mpr e
      exact .inr ⟨i + a.length, by omega, e3, e1 ▸ ha, e2 ▸ hb⟩
  · rintro (e | ⟨m, h1, h2, ha, hb⟩)
    · subst e; rw [seg_self]; exact .nil
    · rw [seg_app (m := m) (by omega) h2 hj]; exact .app ha hb
section
variable {k : Int} {l : List Node} {w : List Int} {x i j : Nat}
theorem mt_1 (h : x < l.length) (e : (l.getD x default).kind = 1) : ¬ Mt l w x i j := by
  rintro ⟨_, h2⟩; rw [lang_1 h e] at h2; exact h2
theorem mt_2 (h : x < l.length) (e : (l.getD x default).kind = 2) (hj : j ≤ w.length) : Mt l w x i j ↔ i = j := by
  unfold Mt; rw [lang_2 h e]
  constructor
  · rintro ⟨h1, h2⟩
    have := seg_len (i := i) hj
    rw [show seg w i j = [] from h2] at this; simp at this; omega
  · rintro rfl; exact ⟨Nat.le_refl _, seg_self⟩
theorem mt_3 (h : x < l.length) (e : (l.getD x default).kind = 3) (hj : j ≤ w.length) : Mt l w x i j ↔ j = i + 1 ∧ w.getD i 0 = (l.getD x default).a := by
  unfold Mt; rw [lang_3 h e]
  constructor
  · rintro ⟨h1, h2⟩
    have h3 := seg_len (i := i) hj
    rw [show seg w i j = [_] from h2] at h3
    have h4 : j = i + 1 := by simp at h3; omega
    subst h4
    rw [syL, seg_one (by omega)] at h2
    exact ⟨rfl, by simpa using h2⟩
  · rintro ⟨rfl, h2⟩
    exact ⟨by omega, by rw [syL, seg_one (by omega), h2]⟩
theorem mt_4 (hv : NodesOk k l) (h : x < l.length) (e : (l.getD x default).kind = 4) (hj : j ≤ w.length) : Mt l w x i j ↔ ∃ m, i ≤ m ∧ m ≤ j ∧ Mt l w (l.getD x default).a.toNat i m ∧ Mt l w (l.getD x default).b.toNat m j := by
  unfold Mt; rw [lang_4 hv h e]
  constructor
  · rintro ⟨h1, h2⟩
    obtain ⟨m, a, b, c, d⟩ := (cat_seg h1 hj).mp h2
    exact ⟨m, a, b, ⟨a, c⟩, b, d⟩
  · rintro ⟨m, a, b, ⟨_, c⟩, _, d⟩
    exact ⟨by omega, (cat_seg (by omega) hj).mpr ⟨m, a, b, c, d⟩⟩
theorem mt_5 (hv : NodesOk k l) (h : x < l.length) (e : (l.getD x default).kind = 5) : Mt l w x i j ↔ Mt l w (l.getD x default).a.toNat i j ∨ Mt l w (l.getD x default).b.toNat i j := by
  unfold Mt; rw [lang_5 hv h e]
  unfold orL
  constructor
  · rintro ⟨h1, h2 | h2⟩
    · exact .inl ⟨h1, h2⟩
    · exact .inr ⟨h1, h2⟩
  · rintro (⟨h1, h2⟩ | ⟨h1, h2⟩)
    · exact ⟨h1, .inl h2⟩
    · exact ⟨h1, .inr h2⟩
theorem mt_6 (hv : NodesOk k l) (h : x < l.length) (e : (l.getD x default).kind = 6) (hi : i ≤ j) (hj : j ≤ w.length) : Mt l w x i j ↔ i = j ∨ ∃ m, i + 1 ≤ m ∧ m ≤ j ∧ Mt l w (l.getD x default).a.toNat i m ∧ Mt l w x m j := by
  unfold Mt; rw [lang_6 hv h e]
  constructor
  · rintro ⟨h1, h2⟩
    rcases (star_seg h1 hj).mp h2 with e | ⟨m, a, b, c, d⟩
    · exact .inl e
    · exact .inr ⟨m, a, b, ⟨by omega, c⟩, b, d⟩
  · rintro (e | ⟨m, a, b, ⟨_, c⟩, _, d⟩)
    · exact ⟨hi, (star_seg hi hj).mpr (.inl e)⟩
    · exact ⟨hi, (star_seg hi hj).mpr (.inr ⟨m, a, b, c, d⟩)⟩
end
end Go.Dm

namespace Go.Proofs.Ytdncgpgfnclifaa
open Go.Dm
set_option linter.unusedSimpArgs false
set_option linter.unnecessarySimpa false
set_option linter.unusedVariables false
theorem and_one (n : Nat) : n &&& 1 = n % 2 := by
  have := Nat.and_two_pow_sub_one_eq_mod n 1
  simpa using this
theorem bit_eq {S n : Nat} : decide ((((S >>> n) &&& 1 : Nat) : Int) = 1) = S.testBit n := by
  rw [and_one, Nat.testBit_eq_decide_div_mod_eq, Nat.shiftRight_eq_div_pow]
  exact dec_iff (by omega)
theorem shrN {S n : Nat} (hn : n ≤ 32) : ((S : Nat) : Int).fdiv (2 ^ (min n IntKind.u32.bits)) = ((S >>> n : Nat) : Int) := by
  have e : min n IntKind.u32.bits = n := Nat.min_eq_left (by show n ≤ 32; omega)
  rw [e, Int.fdiv_eq_ediv_of_nonneg _ (Int.le_of_lt (Int.pow_pos (by omega))), Nat.shiftRight_eq_div_pow, Int.natCast_ediv]
  congr 1
theorem andN {S T : Nat} (hS : (S : Int) ≤ 4294967295) (hT : (T : Int) ≤ 4294967295) : IntKind.u32.wrap ((BitVec.ofInt IntKind.u32.bits (S : Int) &&& BitVec.ofInt IntKind.u32.bits (T : Int)).toNat : Int) = ((S &&& T : Nat) : Int) := by
  rw [and32 (by omega) (by omega), Int.toNat_natCast, Int.toNat_natCast]
theorem shlN {n : Nat} (hn : n ≤ 31) : IntKind.u32.wrap (1 * 2 ^ (min n IntKind.u32.bits)) = ((2 ^ n : Nat) : Int) := by
  have := shl32_1 (n := n) (by omega)
  rwa [Int.toNat_natCast] at this
theorem shr_le {S n : Nat} : S >>> n ≤ S := by rw [Nat.shiftRight_eq_div_pow]; exact Nat.div_le_self _ _
theorem pow_le31 {n : Nat} (hn : n ≤ 31) : ((2 ^ n : Nat) : Int) ≤ 2147483648 := by
  have h : 2 ^ n ≤ 2 ^ 31 := Nat.pow_le_pow_right (by omega) hn
  omega
set_option maxRecDepth 10000 in
set_option maxHeartbeats 4000000 in
theorem has_spec (S n : Nat) (hS : (S : Int) ≤ 4294967295) (hn : n ≤ 31) : Dm.Spec Try.prog 16 [iv .u32 S, iv .i64 n] (· = .v (.bool (S.testBit n))) := by
  refine spec_of_vc mixed Try.func16 c16 (by rw [show Try.f16.ntmps = _ from Try.ntmps16]; simp) ?_
  unfold m16 r16
  repeat' first | ((first | refine Br.dec ?_ ?_ | refine Br.eqi ?_ ?_) <;> intro h <;> try (exfalso; omega)) | (simp (disch := first | omega | (simp only [vlen]; first | done | omega)) only [↓vAq, vBq, ↓reduceIte, Nat.reduceBEq, Nat.reduceEqDiff, Nat.reduceLT, Nat.reduceLeDiff, Nat.reduceAdd, Nat.reduceMul, Nat.reduceSub, reduceCtorEq, Int.reduceToNat]) | (refine Br.mk ?_ ?_ <;> intro h) | (refine BrN.mk (fun h => ?_) ?_) | (refine AltVC.mk ?_ ?_)
  refine fin_mk (vbEq ?_)
  have := @shr_le S n
  rw [shrN (by omega), show (1 : Int) = ((1 : Nat) : Int) from rfl, andN (by omega) (by omega), ← bit_eq]
  rfl
theorem bit_and {S n : Nat} : decide (((S &&& 2 ^ n : Nat) : Int) = 0) = !S.testBit n := by
  have h : S &&& 2 ^ n = if S.testBit n then 2 ^ n else 0 := by
    apply Nat.eq_of_testBit_eq
    intro i
    rw [Nat.testBit_and]
    by_cases e : i = n
    · subst e; rw [Nat.testBit_two_pow_self]; cases h : S.testBit i <;> simp
    · rw [Nat.testBit_two_pow_of_ne (by omega)]; cases h : S.testBit n <;> simp [Nat.testBit_two_pow_of_ne (Ne.symm e)]
  have hp : 0 < 2 ^ n := Nat.pow_pos (by omega)
  rw [h]
  cases S.testBit n
  · simp
  · simp only [if_true]; rw [decide_eq_false (by omega)]; rfl
set_option maxRecDepth 10000 in
set_option maxHeartbeats 4000000 in
theorem bit_spec (S : Nat) (i : Int) (hS : (S : Int) ≤ 4294967295) (hi : ok64 i) : Dm.Spec Try.prog 17 [iv .u32 S, iv .i64 i] (· = .v (.bool (decide (0 ≤ i ∧ i < 32) && S.testBit i.toNat))) := by
  refine spec_of_vc mixed Try.func17 c17 (by rw [show Try.f17.ntmps = _ from Try.ntmps17]; simp) ?_
  unfold m17 r17
  repeat' first | ((first | refine Br.dec ?_ ?_ | refine Br.eqi ?_ ?_) <;> intro h <;> try (exfalso; omega)) | (simp (disch := first | omega | (simp only [vlen]; first | done | omega)) only [↓vAq, vBq, ↓reduceIte, Nat.reduceBEq, Nat.reduceEqDiff, Nat.reduceLT, Nat.reduceLeDiff, Nat.reduceAdd, Nat.reduceMul, Nat.reduceSub, reduceCtorEq, Int.reduceToNat]) | (refine Br.mk ?_ ?_ <;> intro h) | (refine BrN.mk (fun h => ?_) ?_) | (refine AltVC.mk ?_ ?_)
  · refine fin_mk (vbEq ?_)
    obtain ⟨n, rfl⟩ : ∃ n : Nat, i = n := ⟨i.toNat, by omega⟩
    have hp := @pow_le31 n (by omega)
    rw [Int.toNat_natCast, shlN (by omega), andN hS (by omega), decide_eq_true (by omega), Bool.true_and]
    have := @bit_and S n
    rw [show ((((S &&& 2 ^ n : Nat) : Int)) != 0) = !decide (((S &&& 2 ^ n : Nat) : Int) = 0) from rfl, this, Bool.not_not]
  · exact fin_mk (vbEq (by rw [decide_eq_false (by omega)]; rfl))
  · exact fin_mk (vbEq (by rw [decide_eq_false (by omega)]; rfl))
end Go.Proofs.Ytdncgpgfnclifaa

namespace Go.Proofs.Ytdncgpgfnclifaa
open Go.Dm
set_option linter.unusedSimpArgs false
set_option linter.unnecessarySimpa false
set_option linter.unusedVariables false
theorem any_hit {α : Type} [Inhabited α] {p : α → Bool} {l : List α} {i : Nat} (hi : i < l.length) (h : p (l.getD i default) = true) : l.any p = true :=
  List.any_eq_true.2 ⟨_, getD_mem' hi, h⟩
theorem succ_all {p : Nat → Prop} {i : Nat} (h : ∀ j, j < i → p j) (hi : p i) : ∀ j, j < i + 1 → p j := fun j hj => by
  by_cases e : j = i
  · rw [e]; exact hi
  · exact h j (by omega)
def badState (m : Dm.Machine) (x : Int) : Bool := decide (x < 0 ∨ m.n ≤ x)
def mcode (m : Dm.Machine) : Int :=
  if ¬ (1 ≤ m.n ∧ m.n ≤ 7) ∨ ¬ (1 ≤ m.k ∧ m.k ≤ 3) then 1
  else if (m.next.length : Int) ≠ m.n ∨ m.next.any (fun l => decide ((l.length : Int) ≠ m.k)) = true then 3
  else if m.next.any (fun l => l.any (badState m)) = true ∨ badState m m.start = true then 2
  else if 2 ^ m.n.toNat ≤ m.final.toNat then 4
  else 0
structure VM (m : Dm.Machine) : Prop where
  n : 1 ≤ m.n ∧ m.n ≤ 7
  k : 1 ≤ m.k ∧ m.k ≤ 3
  len : (m.next.length : Int) = m.n
  row : ∀ l, l ∈ m.next → (l.length : Int) = m.k
  to : ∀ l, l ∈ m.next → ∀ x, x ∈ l → 0 ≤ x ∧ x < m.n
  start : 0 ≤ m.start ∧ m.start < m.n
  final : 0 ≤ m.final ∧ m.final.toNat < 2 ^ m.n.toNat
theorem vm_of {m : Dm.Machine} (hf : 0 ≤ m.final) (h : mcode m = 0) : VM m := by
  unfold mcode at h
  split at h
  · omega
  · next h1 =>
    split at h
    · omega
    · next h2 =>
      split at h
      · omega
      · next h3 =>
        split at h
        · omega
        · next h4 =>
          have hb : ∀ x, ¬ badState m x = true → 0 ≤ x ∧ x < m.n := fun x hx => by
            unfold badState at hx; rw [decide_eq_true_eq] at hx; omega
          refine ⟨by omega, by omega, by omega, fun l hl => ?_, fun l hl x hx => hb x fun e => h3 (.inl (List.any_eq_true.2 ⟨l, hl, List.any_eq_true.2 ⟨x, hx, e⟩⟩)), hb _ fun e => h3 (.inr e), hf, by omega⟩
          by_cases e : (l.length : Int) = m.k
          · exact e
          · exact absurd (.inr (List.any_eq_true.2 ⟨l, hl, decide_eq_true e⟩)) h2
set_option maxRecDepth 10000 in
set_option maxHeartbeats 4000000 in
theorem within_spec (n lo hi : Int) : Dm.Spec Try.prog 19 [iv .i64 n, iv .i64 lo, iv .i64 hi] (· = .v (.bool (decide (lo ≤ n ∧ n ≤ hi)))) := by
  refine spec_of_vc mixed Try.func19 c19 (by rw [show Try.f19.ntmps = _ from Try.ntmps19]; simp) ?_
  unfold m19 r19
  repeat' first | ((first | refine Br.dec ?_ ?_ | refine Br.eqi ?_ ?_) <;> intro h <;> try (exfalso; omega)) | (simp (disch := first | omega | (simp only [vlen]; first | done | omega)) only [↓vAq, vBq, ↓reduceIte, Nat.reduceBEq, Nat.reduceEqDiff, Nat.reduceLT, Nat.reduceLeDiff, Nat.reduceAdd, Nat.reduceMul, Nat.reduceSub, reduceCtorEq, Int.reduceToNat]) | (refine Br.mk ?_ ?_ <;> intro h) | (refine BrN.mk (fun h => ?_) ?_) | (refine AltVC.mk ?_ ?_)
  · exact fin_mk (vbEq (dec_iff (by omega)))
  · exact fin_mk (vbEq (decide_eq_false (by omega)).symm)
set_option maxRecDepth 10000 in
set_option maxHeartbeats 4000000 in
theorem mrow_spec (m : Dm.Machine) (l : List Int) : Dm.Spec Try.prog 21 [.sl 1 (i64s l), .ip (macD m) 0] (· = .v (.bool (decide ((l.length : Int) ≠ m.k)))) := by
  refine spec_of_vc mixed Try.func21 c21 (by rw [show Try.f21.ntmps = _ from Try.ntmps21]; simp) ?_
  unfold m21 r21
  repeat' first | ((first | refine Br.dec ?_ ?_ | refine Br.eqi ?_ ?_) <;> intro h <;> try (exfalso; omega)) | (simp (disch := first | omega | (simp only [vlen]; first | done | omega)) only [↓vAq, vBq, ↓reduceIte, Nat.reduceBEq, Nat.reduceEqDiff, Nat.reduceLT, Nat.reduceLeDiff, Nat.reduceAdd, Nat.reduceMul, Nat.reduceSub, reduceCtorEq, Int.reduceToNat]) | (refine Br.mk ?_ ?_ <;> intro h) | (refine BrN.mk (fun h => ?_) ?_) | (refine AltVC.mk ?_ ?_)
  exact fin_mk (vbEq (by rw [decide_not]; rfl))
set_option maxRecDepth 10000 in
set_option maxHeartbeats 4000000 in
theorem mstate_spec (m : Dm.Machine) (hn : 1 ≤ m.n ∧ m.n ≤ 7) (x : Int) : Dm.Spec Try.prog 22 [iv .i64 x, .ip (macD m) 0] (· = .v (.bool (!badState m x))) := by
  refine spec_of_vc mixed Try.func22 c22 (by rw [show Try.f22.ntmps = _ from Try.ntmps22]; simp) ?_
  unfold m22 r22
  repeat' first | ((first | refine Br.dec ?_ ?_ | refine Br.eqi ?_ ?_) <;> intro h <;> try (exfalso; omega)) | (simp (disch := first | omega | (simp only [vlen]; first | done | omega)) only [↓vAq, vBq, ↓reduceIte, Nat.reduceBEq, Nat.reduceEqDiff, Nat.reduceLT, Nat.reduceLeDiff, Nat.reduceAdd, Nat.reduceMul, Nat.reduceSub, reduceCtorEq, Int.reduceToNat]) | (refine Br.mk ?_ ?_ <;> intro h) | (refine BrN.mk (fun h => ?_) ?_) | (refine AltVC.mk ?_ ?_)
  refine CallVC.eq (within_spec _ _ _) ?_
  repeat' first | ((first | refine Br.dec ?_ ?_ | refine Br.eqi ?_ ?_) <;> intro h <;> try (exfalso; omega)) | (simp (disch := first | omega | (simp only [vlen]; first | done | omega)) only [↓vAq, vBq, ↓reduceIte, Nat.reduceBEq, Nat.reduceEqDiff, Nat.reduceLT, Nat.reduceLeDiff, Nat.reduceAdd, Nat.reduceMul, Nat.reduceSub, reduceCtorEq, Int.reduceToNat]) | (refine Br.mk ?_ ?_ <;> intro h) | (refine BrN.mk (fun h => ?_) ?_) | (refine AltVC.mk ?_ ?_)
  refine fin_mk (vbEq ?_)
  unfold badState
  rw [← decide_not]
  exact dec_iff (by omega)
theorem fin_zero {f n : Int} (hf : 0 ≤ f ∧ f ≤ 4294967295) (hn : 0 ≤ n ∧ n ≤ 32) : f.fdiv (2 ^ (min n.toNat IntKind.u32.bits)) = 0 ↔ f.toNat < 2 ^ n.toNat := by
  rw [shr32 hf hn, ← shr_zero]
  omega
abbrev mOb (m : Dm.Machine) : Ob := ⟨5, [[iv .i64 m.n, iv .i64 m.k, .sl 1 (rows i64s m.next), iv .i64 m.start, iv .u32 m.final]], true, false, .fix⟩
set_option maxRecDepth 10000 in
set_option maxHeartbeats 4000000 in
theorem mCheck_spec (m : Dm.Machine) (hm : m.ok) : Dm.Spec Try.prog 10 [.ag (macD m)] (· = iv .i64 (mcode m)) := by
  refine spec_of_vc mixed Try.func10 c10 (by rw [show Try.f10.ntmps = _ from Try.ntmps10]; simp) ?_
  unfold m10 r10
  have hr : m.next.length ≤ 9223372036854775807 := maxLen_le hm.2.2.1.1
  have hq : ∀ r, r ∈ m.next → r.length ≤ 9223372036854775807 := fun r h => maxLen_le (hm.2.2.1.2 r h).1
  have hf : 0 ≤ m.final ∧ m.final ≤ 4294967295 := hm.2.2.2.2
  have r1 : ¬ (1 ≤ m.n ∧ m.n ≤ 7) ∨ ¬ (1 ≤ m.k ∧ m.k ≤ 3) → mcode m = 1 := fun h => by rw [mcode, if_pos h]
  repeat' first | ((first | refine Br.dec ?_ ?_ | refine Br.eqi ?_ ?_) <;> intro h <;> try (exfalso; omega)) | (simp (disch := first | omega | (simp only [vlen]; first | done | omega)) only [↓vAq, vBq, ↓reduceIte, Nat.reduceBEq, Nat.reduceEqDiff, Nat.reduceLT, Nat.reduceLeDiff, Nat.reduceAdd, Nat.reduceMul, Nat.reduceSub, reduceCtorEq, Int.reduceToNat]) | (refine Br.mk ?_ ?_ <;> intro h) | (refine BrN.mk (fun h => ?_) ?_) | (refine AltVC.mk ?_ ?_)
  refine CallVC.eq (within_spec _ _ _) ?_
  repeat' first | ((first | refine Br.dec ?_ ?_ | refine Br.eqi ?_ ?_) <;> intro h <;> try (exfalso; omega)) | (simp (disch := first | omega | (simp only [vlen]; first | done | omega)) only [↓vAq, vBq, ↓reduceIte, Nat.reduceBEq, Nat.reduceEqDiff, Nat.reduceLT, Nat.reduceLeDiff, Nat.reduceAdd, Nat.reduceMul, Nat.reduceSub, reduceCtorEq, Int.reduceToNat]) | (refine Br.mk ?_ ?_ <;> intro h) | (refine BrN.mk (fun h => ?_) ?_) | (refine AltVC.mk ?_ ?_)
  · refine CallVC.eq (within_spec _ _ _) ?_
    repeat' first | ((first | refine Br.dec ?_ ?_ | refine Br.eqi ?_ ?_) <;> intro h <;> try (exfalso; omega)) | (simp (disch := first | omega | (simp only [vlen]; first | done | omega)) only [↓vAq, vBq, ↓reduceIte, Nat.reduceBEq, Nat.reduceEqDiff, Nat.reduceLT, Nat.reduceLeDiff, Nat.reduceAdd, Nat.reduceMul, Nat.reduceSub, reduceCtorEq, Int.reduceToNat]) | (refine Br.mk ?_ ?_ <;> intro h) | (refine BrN.mk (fun h => ?_) ?_) | (refine AltVC.mk ?_ ?_)
    · refine CallVC.eqo (conF_ints m.next (fun l => decide ((l.length : Int) ≠ m.k)) _ [.ip (macD m) 0] hr (by simp (disch := first | omega | (simp only [vlen]; first | done | omega)) only [↓vAq, vBq, ↓reduceIte, Nat.reduceBEq, Nat.reduceEqDiff, Nat.reduceLT, Nat.reduceLeDiff, Nat.reduceAdd, Nat.reduceMul, Nat.reduceSub, reduceCtorEq, Int.reduceToNat]) fun l h => mrow_spec m l) (by simp (disch := first | omega | (simp only [vlen]; first | done | omega)) only [↓vAq, vBq, ↓reduceIte, Nat.reduceBEq, Nat.reduceEqDiff, Nat.reduceLT, Nat.reduceLeDiff, Nat.reduceAdd, Nat.reduceMul, Nat.reduceSub, reduceCtorEq, Int.reduceToNat]) ?_
      repeat' first | ((first | refine Br.dec ?_ ?_ | refine Br.eqi ?_ ?_) <;> intro h <;> try (exfalso; omega)) | (simp (disch := first | omega | (simp only [vlen]; first | done | omega)) only [↓vAq, vBq, ↓reduceIte, Nat.reduceBEq, Nat.reduceEqDiff, Nat.reduceLT, Nat.reduceLeDiff, Nat.reduceAdd, Nat.reduceMul, Nat.reduceSub, reduceCtorEq, Int.reduceToNat]) | (refine Br.mk ?_ ?_ <;> intro h) | (refine BrN.mk (fun h => ?_) ?_) | (refine AltVC.mk ?_ ?_)
      · exact fin_mk (by rw [mcode, if_neg (by omega), if_pos (.inr (by assumption))])
      · have h3 : (m.next.any fun l => decide ((l.length : Int) ≠ m.k)) = false := by assumption
        have h3' : ¬ ((m.next.length : Int) ≠ m.n ∨ (m.next.any fun l => decide ((l.length : Int) ≠ m.k)) = true) := by rw [h3]; simp; omega
        refine LoopVC.mk (X := Nat) (fun i => [(34, iv .i64 i)]) (fun _ => [(0, mOb m)]) (fun i => m.next.length - i) (fun i => i ≤ m.next.length ∧ ∀ j, j < i → (m.next.getD j default).any (badState m) = false) 0 ⟨by omega, by omega⟩ ?_ ?_
        · (simp (disch := first | omega | (simp only [vlen]; first | done | omega)) only [Fits_u, Fits_m, Fits_nil, List.length_append, ↓vAq, vBq, ↓reduceIte, Nat.reduceBEq, Nat.reduceEqDiff, Nat.reduceLT, Nat.reduceLeDiff, Nat.reduceAdd, Nat.reduceMul, Nat.reduceSub, reduceCtorEq, Int.reduceToNat] <;> (repeat' first | rfl | apply And.intro))
        · rintro i ⟨h4, h5⟩
          repeat' first | ((first | refine Br.dec ?_ ?_ | refine Br.eqi ?_ ?_) <;> intro h <;> try (exfalso; omega)) | (simp (disch := first | omega | (simp only [vlen]; first | done | omega)) only [↓vAq, vBq, ↓reduceIte, Nat.reduceBEq, Nat.reduceEqDiff, Nat.reduceLT, Nat.reduceLeDiff, Nat.reduceAdd, Nat.reduceMul, Nat.reduceSub, reduceCtorEq, Int.reduceToNat]) | (refine Br.mk ?_ ?_ <;> intro h) | (refine BrN.mk (fun h => ?_) ?_) | (refine AltVC.mk ?_ ?_)
          · have hmem : m.next.getD i default ∈ m.next := getD_mem' (by omega)
            have hlen := hq _ hmem
            refine LoopVC.mk (X := Nat) (fun k => [(40, iv .i64 k)]) (fun _ => [(0, mOb m)]) (fun k => (m.next.getD i default).length - k) (fun k => k ≤ (m.next.getD i default).length ∧ ∀ j, j < k → badState m ((m.next.getD i default).getD j 0) = false) 0 ⟨by omega, by omega⟩ ?_ ?_
            · (simp (disch := first | omega | (simp only [vlen]; first | done | omega)) only [Fits_u, Fits_m, Fits_nil, List.length_append, ↓vAq, vBq, ↓reduceIte, Nat.reduceBEq, Nat.reduceEqDiff, Nat.reduceLT, Nat.reduceLeDiff, Nat.reduceAdd, Nat.reduceMul, Nat.reduceSub, reduceCtorEq, Int.reduceToNat] <;> (repeat' first | rfl | apply And.intro))
            · rintro k ⟨h6, h7⟩
              repeat' first | ((first | refine Br.dec ?_ ?_ | refine Br.eqi ?_ ?_) <;> intro h <;> try (exfalso; omega)) | (simp (disch := first | omega | (simp only [vlen]; first | done | omega)) only [↓vAq, vBq, ↓reduceIte, Nat.reduceBEq, Nat.reduceEqDiff, Nat.reduceLT, Nat.reduceLeDiff, Nat.reduceAdd, Nat.reduceMul, Nat.reduceSub, reduceCtorEq, Int.reduceToNat]) | (refine Br.mk ?_ ?_ <;> intro h) | (refine BrN.mk (fun h => ?_) ?_) | (refine AltVC.mk ?_ ?_)
              · refine CallVC.eqo (mstate_spec m (by omega) _) (by simp (disch := first | omega | (simp only [vlen]; first | done | omega)) only [↓vAq, vBq, ↓reduceIte, Nat.reduceBEq, Nat.reduceEqDiff, Nat.reduceLT, Nat.reduceLeDiff, Nat.reduceAdd, Nat.reduceMul, Nat.reduceSub, reduceCtorEq, Int.reduceToNat]) ?_
                repeat' first | ((first | refine Br.dec ?_ ?_ | refine Br.eqi ?_ ?_) <;> intro h <;> try (exfalso; omega)) | (simp (disch := first | omega | (simp only [vlen]; first | done | omega)) only [↓vAq, vBq, ↓reduceIte, Nat.reduceBEq, Nat.reduceEqDiff, Nat.reduceLT, Nat.reduceLeDiff, Nat.reduceAdd, Nat.reduceMul, Nat.reduceSub, reduceCtorEq, Int.reduceToNat]) | (refine Br.mk ?_ ?_ <;> intro h) | (refine BrN.mk (fun h => ?_) ?_) | (refine AltVC.mk ?_ ?_)
                · have hb : badState m ((m.next.getD i default).getD k 0) = true := decide_eq_true (by assumption)
                  exact fin_mk (by rw [mcode, if_neg (by omega), if_neg h3', if_pos (.inl (any_hit (i := i) (by omega) (any_hit (i := k) (by omega) hb)))])
                · have hb : badState m ((m.next.getD i default).getD k 0) = false := decide_eq_false (by assumption)
                  exact loopK.mk (k + 1) (by simp (disch := first | omega | (simp only [vlen]; first | done | omega)) only [↓vAq, vBq, ↓reduceIte, Nat.reduceBEq, Nat.reduceEqDiff, Nat.reduceLT, Nat.reduceLeDiff, Nat.reduceAdd, Nat.reduceMul, Nat.reduceSub, reduceCtorEq, Int.reduceToNat]) ⟨by omega, succ_all h7 hb⟩ (by omega) (by (simp (disch := first | omega | (simp only [vlen]; first | done | omega)) only [Fits_u, Fits_m, Fits_nil, List.length_append, ↓vAq, vBq, ↓reduceIte, Nat.reduceBEq, Nat.reduceEqDiff, Nat.reduceLT, Nat.reduceLeDiff, Nat.reduceAdd, Nat.reduceMul, Nat.reduceSub, reduceCtorEq, Int.reduceToNat] <;> (repeat' first | rfl | apply And.intro)))
              · exact loopK.mk (i + 1) (by simp (disch := first | omega | (simp only [vlen]; first | done | omega)) only [↓vAq, vBq, ↓reduceIte, Nat.reduceBEq, Nat.reduceEqDiff, Nat.reduceLT, Nat.reduceLeDiff, Nat.reduceAdd, Nat.reduceMul, Nat.reduceSub, reduceCtorEq, Int.reduceToNat]) ⟨by omega, succ_all h5 (any_none (i := k) (by omega) h7)⟩ (by omega) (by (simp (disch := first | omega | (simp only [vlen]; first | done | omega)) only [Fits_u, Fits_m, Fits_nil, List.length_append, ↓vAq, vBq, ↓reduceIte, Nat.reduceBEq, Nat.reduceEqDiff, Nat.reduceLT, Nat.reduceLeDiff, Nat.reduceAdd, Nat.reduceMul, Nat.reduceSub, reduceCtorEq, Int.reduceToNat] <;> (repeat' first | rfl | apply And.intro)))
          · have h8 : (m.next.any fun l => l.any (badState m)) = false := any_none (i := i) (by omega) h5
            refine CallVC.eqo (mstate_spec m (by omega) _) (by simp (disch := first | omega | (simp only [vlen]; first | done | omega)) only [↓vAq, vBq, ↓reduceIte, Nat.reduceBEq, Nat.reduceEqDiff, Nat.reduceLT, Nat.reduceLeDiff, Nat.reduceAdd, Nat.reduceMul, Nat.reduceSub, reduceCtorEq, Int.reduceToNat]) ?_
            repeat' first | ((first | refine Br.dec ?_ ?_ | refine Br.eqi ?_ ?_) <;> intro h <;> try (exfalso; omega)) | (simp (disch := first | omega | (simp only [vlen]; first | done | omega)) only [↓vAq, vBq, ↓reduceIte, Nat.reduceBEq, Nat.reduceEqDiff, Nat.reduceLT, Nat.reduceLeDiff, Nat.reduceAdd, Nat.reduceMul, Nat.reduceSub, reduceCtorEq, Int.reduceToNat]) | (refine Br.mk ?_ ?_ <;> intro h) | (refine BrN.mk (fun h => ?_) ?_) | (refine AltVC.mk ?_ ?_)
            · have hb : badState m m.start = true := decide_eq_true (by assumption)
              exact fin_mk (by rw [mcode, if_neg (by omega), if_neg h3', if_pos (.inr hb)])
            · exact fin_mk (by rw [mcode, if_neg (by omega), if_neg h3', if_neg (by rw [h8, show badState m m.start = false from decide_eq_false (by assumption)]; simp), if_neg (by have := (fin_zero (n := m.n) hf (by omega)).1 (by assumption); omega)])
            · exact fin_mk (by rw [mcode, if_neg (by omega), if_neg h3', if_neg (by rw [h8, show badState m m.start = false from decide_eq_false (by assumption)]; simp), if_pos (by
                have hz : ¬ m.final.fdiv (2 ^ min m.n.toNat IntKind.u32.bits) = 0 := by assumption
                have : ¬ m.final.toNat < 2 ^ m.n.toNat := fun hl => hz ((fin_zero (n := m.n) hf (by omega)).2 hl)
                omega)])
    · exact fin_mk (by rw [mcode, if_neg (by omega), if_pos (.inl (by omega))])
    · exact fin_mk (by rw [r1 (by omega)])
  · exact fin_mk (by rw [r1 (by omega)])
set_option maxRecDepth 10000 in
set_option maxHeartbeats 4000000 in
theorem refMCheck_spec (m : Dm.Machine) (hm : m.ok) : Dm.Spec Try.prog 5 [.ag (macD m)] (· = iv .i64 (mcode m)) := by
  refine spec_of_vc mixed Try.func5 c5 (by rw [show Try.f5.ntmps = _ from Try.ntmps5]; simp) ?_
  unfold m5 r5
  have hr : m.next.length ≤ 9223372036854775807 := maxLen_le hm.2.2.1.1
  have hq : ∀ r, r ∈ m.next → r.length ≤ 9223372036854775807 := fun r h => maxLen_le (hm.2.2.1.2 r h).1
  have hf : 0 ≤ m.final ∧ m.final ≤ 4294967295 := hm.2.2.2.2
  have hfe : ((m.final.toNat : Nat) : Int) = m.final := by omega
  have r1 : ¬ (1 ≤ m.n ∧ m.n ≤ 7) ∨ ¬ (1 ≤ m.k ∧ m.k ≤ 3) → mcode m = 1 := fun h => by rw [mcode, if_pos h]
  repeat' first | ((first | refine Br.dec ?_ ?_ | refine Br.eqi ?_ ?_) <;> intro h <;> try (exfalso; omega)) | (simp (disch := first | omega | (simp only [vlen]; first | done | omega)) only [↓vAq, vBq, ↓reduceIte, Nat.reduceBEq, Nat.reduceEqDiff, Nat.reduceLT, Nat.reduceLeDiff, Nat.reduceAdd, Nat.reduceMul, Nat.reduceSub, reduceCtorEq, Int.reduceToNat]) | (refine Br.mk ?_ ?_ <;> intro h) | (refine BrN.mk (fun h => ?_) ?_) | (refine AltVC.mk ?_ ?_)
  all_goals first
    | exact fin_mk (by rw [r1 (by omega)])
    | exact fin_mk (by rw [mcode, if_neg (by omega), if_pos (.inl (by omega))])
    | skip
  refine LoopVC.mk (X := Nat) (fun i => [(36, iv .i64 i)]) (fun _ => [(0, mOb m)]) (fun i => m.next.length - i) (fun i => i ≤ m.next.length ∧ ∀ j, j < i → decide (((m.next.getD j default).length : Int) ≠ m.k) = false) 0 ⟨by omega, by omega⟩ ?_ ?_
  · (simp (disch := first | omega | (simp only [vlen]; first | done | omega)) only [Fits_u, Fits_m, Fits_nil, List.length_append, ↓vAq, vBq, ↓reduceIte, Nat.reduceBEq, Nat.reduceEqDiff, Nat.reduceLT, Nat.reduceLeDiff, Nat.reduceAdd, Nat.reduceMul, Nat.reduceSub, reduceCtorEq, Int.reduceToNat] <;> (repeat' first | rfl | apply And.intro))
  · rintro i ⟨h1, h2⟩
    repeat' first | ((first | refine Br.dec ?_ ?_ | refine Br.eqi ?_ ?_) <;> intro h <;> try (exfalso; omega)) | (simp (disch := first | omega | (simp only [vlen]; first | done | omega)) only [↓vAq, vBq, ↓reduceIte, Nat.reduceBEq, Nat.reduceEqDiff, Nat.reduceLT, Nat.reduceLeDiff, Nat.reduceAdd, Nat.reduceMul, Nat.reduceSub, reduceCtorEq, Int.reduceToNat]) | (refine Br.mk ?_ ?_ <;> intro h) | (refine BrN.mk (fun h => ?_) ?_) | (refine AltVC.mk ?_ ?_)
    · exact loopK.mk (i + 1) (by simp (disch := first | omega | (simp only [vlen]; first | done | omega)) only [↓vAq, vBq, ↓reduceIte, Nat.reduceBEq, Nat.reduceEqDiff, Nat.reduceLT, Nat.reduceLeDiff, Nat.reduceAdd, Nat.reduceMul, Nat.reduceSub, reduceCtorEq, Int.reduceToNat]) ⟨by omega, succ_all h2 (decide_eq_false (by omega))⟩ (by omega) (by (simp (disch := first | omega | (simp only [vlen]; first | done | omega)) only [Fits_u, Fits_m, Fits_nil, List.length_append, ↓vAq, vBq, ↓reduceIte, Nat.reduceBEq, Nat.reduceEqDiff, Nat.reduceLT, Nat.reduceLeDiff, Nat.reduceAdd, Nat.reduceMul, Nat.reduceSub, reduceCtorEq, Int.reduceToNat] <;> (repeat' first | rfl | apply And.intro)))
    · exact fin_mk (by rw [mcode, if_neg (by omega), if_pos (.inr (any_hit (p := fun l : List Int => decide ((l.length : Int) ≠ m.k)) (l := m.next) (i := i) (by omega) (decide_eq_true (by omega))))])
    · have h3 : (m.next.any fun l => decide ((l.length : Int) ≠ m.k)) = false := any_none (i := i) (by omega) h2
      have h3' : ¬ ((m.next.length : Int) ≠ m.n ∨ (m.next.any fun l => decide ((l.length : Int) ≠ m.k)) = true) := by rw [h3]; simp; omega
      refine LoopVC.mk (X := Nat) (fun i => [(49, iv .i64 i)]) (fun _ => [(0, mOb m)]) (fun i => m.next.length - i) (fun i => i ≤ m.next.length ∧ ∀ j, j < i → (m.next.getD j default).any (badState m) = false) 0 ⟨by omega, by omega⟩ ?_ ?_
      · (simp (disch := first | omega | (simp only [vlen]; first | done | omega)) only [Fits_u, Fits_m, Fits_nil, List.length_append, ↓vAq, vBq, ↓reduceIte, Nat.reduceBEq, Nat.reduceEqDiff, Nat.reduceLT, Nat.reduceLeDiff, Nat.reduceAdd, Nat.reduceMul, Nat.reduceSub, reduceCtorEq, Int.reduceToNat] <;> (repeat' first | rfl | apply And.intro))
      · rintro i ⟨h4, h5⟩
        repeat' first | ((first | refine Br.dec ?_ ?_ | refine Br.eqi ?_ ?_) <;> intro h <;> try (exfalso; omega)) | (simp (disch := first | omega | (simp only [vlen]; first | done | omega)) only [↓vAq, vBq, ↓reduceIte, Nat.reduceBEq, Nat.reduceEqDiff, Nat.reduceLT, Nat.reduceLeDiff, Nat.reduceAdd, Nat.reduceMul, Nat.reduceSub, reduceCtorEq, Int.reduceToNat]) | (refine Br.mk ?_ ?_ <;> intro h) | (refine BrN.mk (fun h => ?_) ?_) | (refine AltVC.mk ?_ ?_)
        · have hmem : m.next.getD i default ∈ m.next := getD_mem' (by omega)
          have hlen := hq _ hmem
          refine LoopVC.mk (X := Nat) (fun k => [(55, iv .i64 k)]) (fun _ => [(0, mOb m)]) (fun k => (m.next.getD i default).length - k) (fun k => k ≤ (m.next.getD i default).length ∧ ∀ j, j < k → badState m ((m.next.getD i default).getD j 0) = false) 0 ⟨by omega, by omega⟩ ?_ ?_
          · (simp (disch := first | omega | (simp only [vlen]; first | done | omega)) only [Fits_u, Fits_m, Fits_nil, List.length_append, ↓vAq, vBq, ↓reduceIte, Nat.reduceBEq, Nat.reduceEqDiff, Nat.reduceLT, Nat.reduceLeDiff, Nat.reduceAdd, Nat.reduceMul, Nat.reduceSub, reduceCtorEq, Int.reduceToNat] <;> (repeat' first | rfl | apply And.intro))
          · rintro k ⟨h6, h7⟩
            repeat' first | ((first | refine Br.dec ?_ ?_ | refine Br.eqi ?_ ?_) <;> intro h <;> try (exfalso; omega)) | (simp (disch := first | omega | (simp only [vlen]; first | done | omega)) only [↓vAq, vBq, ↓reduceIte, Nat.reduceBEq, Nat.reduceEqDiff, Nat.reduceLT, Nat.reduceLeDiff, Nat.reduceAdd, Nat.reduceMul, Nat.reduceSub, reduceCtorEq, Int.reduceToNat]) | (refine Br.mk ?_ ?_ <;> intro h) | (refine BrN.mk (fun h => ?_) ?_) | (refine AltVC.mk ?_ ?_)
            all_goals first
              | exact fin_mk (by rw [mcode, if_neg (by omega), if_neg h3', if_pos (.inl (any_hit (p := fun l : List Int => l.any (badState m)) (l := m.next) (i := i) (by omega) (any_hit (p := badState m) (l := m.next.getD i default) (i := k) (by omega) (decide_eq_true (by show (m.next.getD i default).getD k 0 < 0 ∨ m.n ≤ (m.next.getD i default).getD k 0; omega)))))])
              | exact loopK.mk (k + 1) (by simp (disch := first | omega | (simp only [vlen]; first | done | omega)) only [↓vAq, vBq, ↓reduceIte, Nat.reduceBEq, Nat.reduceEqDiff, Nat.reduceLT, Nat.reduceLeDiff, Nat.reduceAdd, Nat.reduceMul, Nat.reduceSub, reduceCtorEq, Int.reduceToNat]) ⟨by omega, succ_all h7 (decide_eq_false (by omega))⟩ (by omega) (by (simp (disch := first | omega | (simp only [vlen]; first | done | omega)) only [Fits_u, Fits_m, Fits_nil, List.length_append, ↓vAq, vBq, ↓reduceIte, Nat.reduceBEq, Nat.reduceEqDiff, Nat.reduceLT, Nat.reduceLeDiff, Nat.reduceAdd, Nat.reduceMul, Nat.reduceSub, reduceCtorEq, Int.reduceToNat] <;> (repeat' first | rfl | apply And.intro)))
              | exact loopK.mk (i + 1) (by simp (disch := first | omega | (simp only [vlen]; first | done | omega)) only [↓vAq, vBq, ↓reduceIte, Nat.reduceBEq, Nat.reduceEqDiff, Nat.reduceLT, Nat.reduceLeDiff, Nat.reduceAdd, Nat.reduceMul, Nat.reduceSub, reduceCtorEq, Int.reduceToNat]) ⟨by omega, succ_all h5 (any_none (i := k) (by omega) h7)⟩ (by omega) (by (simp (disch := first | omega | (simp only [vlen]; first | done | omega)) only [Fits_u, Fits_m, Fits_nil, List.length_append, ↓vAq, vBq, ↓reduceIte, Nat.reduceBEq, Nat.reduceEqDiff, Nat.reduceLT, Nat.reduceLeDiff, Nat.reduceAdd, Nat.reduceMul, Nat.reduceSub, reduceCtorEq, Int.reduceToNat] <;> (repeat' first | rfl | apply And.intro)))
              | skip
        all_goals
          have h8 : (m.next.any fun l => l.any (badState m)) = false := any_none (i := i) (by omega) h5
        · exact fin_mk (by rw [mcode, if_neg (by omega), if_neg h3', if_pos (.inr (decide_eq_true (by omega)))])
        · exact fin_mk (by rw [mcode, if_neg (by omega), if_neg h3', if_pos (.inr (decide_eq_true (by omega)))])
        · have hz : IntKind.u32.wrap (1 * 2 ^ min m.n.toNat IntKind.u32.bits) ≤ m.final := by assumption
          rw [shlN (by omega)] at hz
          exact fin_mk (by rw [mcode, if_neg (by omega), if_neg h3', if_neg (by rw [h8, show badState m m.start = false from decide_eq_false (by omega)]; simp), if_pos (by omega)])
        · have hz : ¬ IntKind.u32.wrap (1 * 2 ^ min m.n.toNat IntKind.u32.bits) ≤ m.final := by assumption
          rw [shlN (by omega)] at hz
          exact fin_mk (by rw [mcode, if_neg (by omega), if_neg h3', if_neg (by rw [h8, show badState m m.start = false from decide_eq_false (by omega)]; simp), if_neg (by omega)])
end Go.Proofs.Ytdncgpgfnclifaa

namespace Go.Proofs.Ytdncgpgfnclifaa
open Go.Dm
set_option linter.unusedSimpArgs false
set_option linter.unnecessarySimpa false
set_option linter.unusedVariables false
def badSym (k s : Int) : Bool := decide (s < 0 ∨ k ≤ s)
def wcode (k : Int) (w : List Int) : Int := if 12 < (w.length : Int) then 1 else if w.any (badSym k) = true then 2 else 0
theorem wcode_ok {k : Int} {w : List Int} (h : wcode k w = 0) : w.length ≤ 12 ∧ ∀ s, s ∈ w → 0 ≤ s ∧ s < k := by
  unfold wcode at h
  split at h
  · omega
  · split at h
    · omega
    · next h1 h2 =>
      refine ⟨by omega, fun s hs => ?_⟩
      have : ¬ badSym k s = true := fun e => h2 (List.any_eq_true.2 ⟨s, hs, e⟩)
      unfold badSym at this
      rw [decide_eq_true_eq] at this
      omega
theorem getD_ok {k : Int} {w : List Int} (hk : 1 ≤ k) (h : ∀ s, s ∈ w → 0 ≤ s ∧ s < k) (i : Nat) : 0 ≤ w.getD i 0 ∧ w.getD i 0 < k := by
  by_cases hi : i < w.length
  · exact h _ (getD_mem' hi)
  · rw [show w.getD i 0 = 0 by simp [List.getD, show w[i]? = none from List.getElem?_eq_none (by omega)]]; omega
def mstep (m : Dm.Machine) (p s : Int) : Int := (m.next.getD p.toNat default).getD s.toNat 0
def leads (m : Dm.Machine) (p : Int) (w : List Int) : Int := w.foldl (mstep m) p
theorem leads_succ {m : Dm.Machine} {p : Int} {w : List Int} {i : Nat} (hi : i < w.length) : leads m p (w.take (i + 1)) = mstep m (leads m p (w.take i)) (w.getD i 0) := by
  unfold leads
  rw [take_succ_getD hi 0, List.foldl_append]; rfl
theorem VM.nx {m : Dm.Machine} (hv : VM m) {p : Int} (hp : 0 ≤ p ∧ p < m.n) : ((m.next.getD p.toNat default).length : Int) = m.k :=
  hv.row _ (getD_mem' (by have := hv.len; omega))
theorem VM.st {m : Dm.Machine} (hv : VM m) {p s : Int} (hp : 0 ≤ p ∧ p < m.n) : 0 ≤ mstep m p s ∧ mstep m p s < m.n := by
  have := hv.len
  exact getD_ok (by have := hv.n; omega) (hv.to _ (getD_mem' (by omega))) _
theorem leads_ok {m : Dm.Machine} (hv : VM m) : ∀ {w : List Int} {p : Int}, 0 ≤ p ∧ p < m.n → 0 ≤ leads m p w ∧ leads m p w < m.n
  | [], p, h => h
  | s :: w, p, h => leads_ok (w := w) hv (hv.st h)
set_option maxRecDepth 10000 in
set_option maxHeartbeats 4000000 in
theorem refWord_spec (k : Int) (hk : 0 ≤ k ∧ k ≤ 3) (w : List Int) (hw : w.length ≤ 9223372036854775807) : Dm.Spec Try.prog 7 [iv .i64 k, .sl 1 (i64s w)] (· = iv .i64 (wcode k w)) := by
  refine spec_of_vc mixed Try.func7 c7 (by rw [show Try.f7.ntmps = _ from Try.ntmps7]; simp) ?_
  unfold m7 r7
  repeat' first | ((first | refine Br.dec ?_ ?_ | refine Br.eqi ?_ ?_) <;> intro h <;> try (exfalso; omega)) | (simp (disch := first | omega | (simp only [vlen]; first | done | omega)) only [↓vAq, vBq, ↓reduceIte, Nat.reduceBEq, Nat.reduceEqDiff, Nat.reduceLT, Nat.reduceLeDiff, Nat.reduceAdd, Nat.reduceMul, Nat.reduceSub, reduceCtorEq, Int.reduceToNat]) | (refine Br.mk ?_ ?_ <;> intro h) | (refine BrN.mk (fun h => ?_) ?_) | (refine AltVC.mk ?_ ?_)
  · exact fin_mk (by rw [wcode, if_pos (by assumption)])
  · refine LoopVC.mk (X := Nat) (fun i => [(12, iv .i64 i)]) (fun _ => []) (fun i => w.length - i) (fun i => i ≤ w.length ∧ ∀ j, j < i → badSym k (w.getD j 0) = false) 0 ⟨by omega, by omega⟩ ?_ ?_
    · (simp (disch := first | omega | (simp only [vlen]; first | done | omega)) only [Fits_u, Fits_m, Fits_nil, List.length_append, ↓vAq, vBq, ↓reduceIte, Nat.reduceBEq, Nat.reduceEqDiff, Nat.reduceLT, Nat.reduceLeDiff, Nat.reduceAdd, Nat.reduceMul, Nat.reduceSub, reduceCtorEq, Int.reduceToNat] <;> (repeat' first | rfl | apply And.intro))
    · rintro i ⟨h1, h2⟩
      repeat' first | ((first | refine Br.dec ?_ ?_ | refine Br.eqi ?_ ?_) <;> intro h <;> try (exfalso; omega)) | (simp (disch := first | omega | (simp only [vlen]; first | done | omega)) only [↓vAq, vBq, ↓reduceIte, Nat.reduceBEq, Nat.reduceEqDiff, Nat.reduceLT, Nat.reduceLeDiff, Nat.reduceAdd, Nat.reduceMul, Nat.reduceSub, reduceCtorEq, Int.reduceToNat]) | (refine Br.mk ?_ ?_ <;> intro h) | (refine BrN.mk (fun h => ?_) ?_) | (refine AltVC.mk ?_ ?_)
      · exact fin_mk (by rw [wcode, if_neg (by assumption), if_pos (any_hit (p := badSym k) (i := i) (by omega) (decide_eq_true (.inl (by assumption))))])
      · exact fin_mk (by rw [wcode, if_neg (by assumption), if_pos (any_hit (p := badSym k) (i := i) (by omega) (decide_eq_true (.inr (by assumption))))])
      · exact loopK.mk (i + 1) (by simp (disch := first | omega | (simp only [vlen]; first | done | omega)) only [↓vAq, vBq, ↓reduceIte, Nat.reduceBEq, Nat.reduceEqDiff, Nat.reduceLT, Nat.reduceLeDiff, Nat.reduceAdd, Nat.reduceMul, Nat.reduceSub, reduceCtorEq, Int.reduceToNat]) ⟨by omega, succ_all h2 (decide_eq_false (by show ¬ (w.getD i 0 < 0 ∨ k ≤ w.getD i 0); omega))⟩ (by omega) (by (simp (disch := first | omega | (simp only [vlen]; first | done | omega)) only [Fits_u, Fits_m, Fits_nil, List.length_append, ↓vAq, vBq, ↓reduceIte, Nat.reduceBEq, Nat.reduceEqDiff, Nat.reduceLT, Nat.reduceLeDiff, Nat.reduceAdd, Nat.reduceMul, Nat.reduceSub, reduceCtorEq, Int.reduceToNat] <;> (repeat' first | rfl | apply And.intro)))
      · have h3 : w.any (badSym k) = false := any_none (i := i) (by omega) h2
        exact fin_mk (by rw [wcode, if_neg (by assumption), if_neg (by rw [h3]; simp)])
theorem bit_i (S n : Int) (hS : 0 ≤ S ∧ S ≤ 4294967295) (hn : 0 ≤ n ∧ n ≤ 31) : Dm.Spec Try.prog 17 [iv .u32 S, iv .i64 n] (· = .v (.bool (S.toNat.testBit n.toNat))) := by
  have := bit_spec S.toNat n (by omega) (by constructor <;> omega)
  rwa [show ((S.toNat : Nat) : Int) = S by omega, decide_eq_true (by omega), Bool.true_and] at this
set_option maxRecDepth 10000 in
set_option maxHeartbeats 4000000 in
theorem leads_spec (m : Dm.Machine) (hv : VM m) (p : Int) (hp : 0 ≤ p ∧ p < m.n) (w : List Int) (hs : ∀ s, s ∈ w → 0 ≤ s ∧ s < m.k) (hw : w.length ≤ 100000) : Dm.Spec Try.prog 18 [.ag (macD m), iv .i64 p, .sl 1 (i64s w)] (· = iv .i64 (leads m p w)) := by
  refine spec_of_vc mixed Try.func18 c18 (by rw [show Try.f18.ntmps = _ from Try.ntmps18]; simp) ?_
  unfold m18 r18
  have hn := hv.n
  have hk := hv.k
  have hlen := hv.len
  repeat' first | ((first | refine Br.dec ?_ ?_ | refine Br.eqi ?_ ?_) <;> intro h <;> try (exfalso; omega)) | (simp (disch := first | omega | (simp only [vlen]; first | done | omega)) only [↓vAq, vBq, ↓reduceIte, Nat.reduceBEq, Nat.reduceEqDiff, Nat.reduceLT, Nat.reduceLeDiff, Nat.reduceAdd, Nat.reduceMul, Nat.reduceSub, reduceCtorEq, Int.reduceToNat]) | (refine Br.mk ?_ ?_ <;> intro h) | (refine BrN.mk (fun h => ?_) ?_) | (refine AltVC.mk ?_ ?_)
  refine LoopVC.mk (X := Nat) (fun i => [(1, iv .i64 (leads m p (w.take i))), (11, iv .i64 i)]) (fun _ => [(0, mOb m)]) (fun i => w.length - i) (fun i => i ≤ w.length) 0 (by omega) ?_ ?_
  · (simp (disch := first | omega | (simp only [vlen]; first | done | omega)) only [Fits_u, Fits_m, Fits_nil, List.length_append, ↓vAq, vBq, ↓reduceIte, Nat.reduceBEq, Nat.reduceEqDiff, Nat.reduceLT, Nat.reduceLeDiff, Nat.reduceAdd, Nat.reduceMul, Nat.reduceSub, reduceCtorEq, Int.reduceToNat] <;> (repeat' first | rfl | apply And.intro))
  · intro i h1
    have hp := leads_ok (w := w.take i) hv hp
    have hx := hv.nx hp
    have hsi := getD_ok (by omega) hs i
    repeat' first | ((first | refine Br.dec ?_ ?_ | refine Br.eqi ?_ ?_) <;> intro h <;> try (exfalso; omega)) | (simp (disch := first | omega | (simp only [vlen]; first | done | omega)) only [↓vAq, vBq, ↓reduceIte, Nat.reduceBEq, Nat.reduceEqDiff, Nat.reduceLT, Nat.reduceLeDiff, Nat.reduceAdd, Nat.reduceMul, Nat.reduceSub, reduceCtorEq, Int.reduceToNat]) | (refine Br.mk ?_ ?_ <;> intro h) | (refine BrN.mk (fun h => ?_) ?_) | (refine AltVC.mk ?_ ?_)
    · have e := leads_succ (m := m) (p := p) (w := w) (i := i) (by omega)
      exact loopK.mk (i + 1) (by simp (disch := first | omega | (simp only [vlen]; first | done | omega)) only [↓vAq, vBq, ↓reduceIte, Nat.reduceBEq, Nat.reduceEqDiff, Nat.reduceLT, Nat.reduceLeDiff, Nat.reduceAdd, Nat.reduceMul, Nat.reduceSub, reduceCtorEq, Int.reduceToNat]) (by omega) (by omega) (by (simp (disch := first | omega | (simp only [vlen]; first | done | omega)) only [Fits_u, Fits_m, Fits_nil, List.length_append, ↓vAq, vBq, ↓reduceIte, Nat.reduceBEq, Nat.reduceEqDiff, Nat.reduceLT, Nat.reduceLeDiff, Nat.reduceAdd, Nat.reduceMul, Nat.reduceSub, reduceCtorEq, Int.reduceToNat] <;> (repeat' first | rfl | apply And.intro)); exact viEq e.symm)
    · exact fin_mk rfl
set_option maxRecDepth 10000 in
set_option maxHeartbeats 4000000 in
theorem takes_spec (m : Dm.Machine) (hf : 0 ≤ m.final ∧ m.final ≤ 4294967295) (hv : VM m) (w : List Int) (hs : ∀ s, s ∈ w → 0 ≤ s ∧ s < m.k) (hw : w.length ≤ 100000) : Dm.Spec Try.prog 9 [.ag (macD m), .sl 1 (i64s w)] (· = .v (.bool (m.final.toNat.testBit (leads m m.start w).toNat))) := by
  refine spec_of_vc mixed Try.func9 c9 (by rw [show Try.f9.ntmps = _ from Try.ntmps9]; simp) ?_
  unfold m9 r9
  repeat' first | ((first | refine Br.dec ?_ ?_ | refine Br.eqi ?_ ?_) <;> intro h <;> try (exfalso; omega)) | (simp (disch := first | omega | (simp only [vlen]; first | done | omega)) only [↓vAq, vBq, ↓reduceIte, Nat.reduceBEq, Nat.reduceEqDiff, Nat.reduceLT, Nat.reduceLeDiff, Nat.reduceAdd, Nat.reduceMul, Nat.reduceSub, reduceCtorEq, Int.reduceToNat]) | (refine Br.mk ?_ ?_ <;> intro h) | (refine BrN.mk (fun h => ?_) ?_) | (refine AltVC.mk ?_ ?_)
  have hp := leads_ok (w := w) hv hv.start
  have hn := hv.n
  refine CallP.eq (leads_spec m hv m.start hv.start w hs hw) (by simp) ?_
  repeat' first | ((first | refine Br.dec ?_ ?_ | refine Br.eqi ?_ ?_) <;> intro h <;> try (exfalso; omega)) | (simp (disch := first | omega | (simp only [vlen]; first | done | omega)) only [↓vAq, vBq, ↓reduceIte, Nat.reduceBEq, Nat.reduceEqDiff, Nat.reduceLT, Nat.reduceLeDiff, Nat.reduceAdd, Nat.reduceMul, Nat.reduceSub, reduceCtorEq, Int.reduceToNat]) | (refine Br.mk ?_ ?_ <;> intro h) | (refine BrN.mk (fun h => ?_) ?_) | (refine AltVC.mk ?_ ?_)
  refine CallP.eq (bit_i _ _ hf (by omega)) (by simp) ?_
  repeat' first | ((first | refine Br.dec ?_ ?_ | refine Br.eqi ?_ ?_) <;> intro h <;> try (exfalso; omega)) | (simp (disch := first | omega | (simp only [vlen]; first | done | omega)) only [↓vAq, vBq, ↓reduceIte, Nat.reduceBEq, Nat.reduceEqDiff, Nat.reduceLT, Nat.reduceLeDiff, Nat.reduceAdd, Nat.reduceMul, Nat.reduceSub, reduceCtorEq, Int.reduceToNat]) | (refine Br.mk ?_ ?_ <;> intro h) | (refine BrN.mk (fun h => ?_) ?_) | (refine AltVC.mk ?_ ?_)
  exact fin_mk rfl
end Go.Proofs.Ytdncgpgfnclifaa
