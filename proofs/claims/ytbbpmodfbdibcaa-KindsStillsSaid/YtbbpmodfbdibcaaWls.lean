/-
  A list of numbers of which the empty one is nil: a description that is not looked into.
-/
import Derived.Test.YtbbpmodfbdibcaaDmX
namespace Go.Proofs.Ytbbpmodfbdibcaa
open Go.Dm
set_option linter.unusedSimpArgs false
set_option linter.unnecessarySimpa false
set_option linter.unusedVariables false
set_option linter.defProp false

def wsl (w : List Int) : D := if w = [] then .nl else .sl 1 (i64s w)
section
variable {l : List Int} {s : S} {τ m : Nat} {ob : Ob} {f : Nat → Nat} {ι : List Nat}
theorem wsl_view : s.view (wsl l) = wsl l := by unfold wsl; split <;> simp [view_nl, view_sl]
theorem wsl_owned : (wsl l).owned = false := by unfold wsl; split <;> simp [owned_nl, owned_sl]
theorem wsl_cl : (wsl l).cl = true := by unfold wsl; split <;> simp [cl_nl, cl_sl]
theorem wsl_clo : (wsl l).clo' = true := by unfold wsl; split <;> simp [clo'_nl, clo'_sl]
theorem wsl_kOwn {i o : Nat} {k : S → D → Prop} : kOwn s τ i o ob k (wsl l) = k s (wsl l) := by unfold wsl; split <;> rfl
theorem wsl_one : (wsl l).one = true := by unfold wsl; split <;> rfl
theorem wsl_cells : (wsl l).cells = [wsl l] := by unfold wsl; split <;> rfl
theorem wsl_kill : (wsl l).kill τ = wsl l := by unfold wsl; split <;> simp [kill_nl, kill_sl]
theorem wsl_trim : (wsl l).trim m = wsl l := by unfold wsl; split <;> simp [trim_nl, trim_sl]
theorem wsl_frz : (wsl l).frz τ ob = wsl l := by unfold wsl; split <;> simp [frz_nl, frz_sl]
theorem wsl_keep : (wsl l).keep s = wsl l := by unfold wsl; split <;> simp [keep_nl, keep_sl]
theorem wsl_ren : (wsl l).ren f = wsl l := by unfold wsl; split <;> simp [ren_nl, ren_sl]
theorem wsl_lent : (wsl l).lent s ι = wsl l := by unfold wsl; split <;> simp [lent_nl, lent_sl]
end
theorem wsl_le {l : List Int} : (wsl l).Le (.sl 1 (i64s l)) := by
  by_cases h : l = []
  · subst h; exact Le_nl 1
  · rw [wsl, if_neg h]; exact Le_refl _
theorem wsl_sl {l : List Int} (h : l ≠ []) : wsl l = .sl 1 (i64s l) := if_neg h
theorem wsl_snoc {l : List Int} {s : Int} : wsl (l ++ [s]) = .sl 1 (i64s (l ++ [s])) := if_neg (by simp)
theorem wsl_nil : wsl [] = .nl := if_pos rfl
def wwD (W : List (List Int)) : List (List D) := W.map fun w => [wsl w]
theorem wwD_len {W : List (List Int)} : (wwD W).length = W.length := by simp [wwD]
theorem wwD_get {W : List (List Int)} {i : Nat} (h : i < W.length) : (wwD W).getD i [] = [wsl (W.getD i [])] := by
  simp [wwD, List.getD, List.getElem?_map, h]
theorem wwD_clo {W : List (List Int)} : (wwD W).all (fun e => e.all D.clo') = true := by simp [wwD, wsl_clo]
theorem wwD_kill {W : List (List Int)} {τ : Nat} : (wwD W).map (fun e => e.map (D.kill τ)) = wwD W := by simp [wwD, wsl_kill]
theorem wwD_frz {W : List (List Int)} {τ : Nat} {ob : Ob} : (wwD W).map (fun e => e.map (D.frz τ ob)) = wwD W := by simp [wwD, wsl_frz]
theorem wwD_take {W : List (List Int)} : (wwD W).take W.length = wwD W := List.take_of_length_le (by rw [wwD_len]; omega)
def vws := And.intro @wwD_len <| And.intro @wwD_clo <| And.intro @wwD_kill <| And.intro @wwD_frz <| And.intro @wwD_take <| And.intro @wsl_nil <| And.intro @wsl_kOwn <| And.intro @Int.add_sub_cancel <| And.intro @wsl_view <| And.intro @wsl_owned <| And.intro @wsl_cl <| And.intro @wsl_clo <| And.intro @wsl_one <| And.intro @wsl_cells <| And.intro @wsl_kill <| And.intro @wsl_trim <| And.intro @wsl_frz <| And.intro @wsl_keep <| And.intro @wsl_ren @wsl_lent

end Go.Proofs.Ytbbpmodfbdibcaa
