/-
  'Rows.AheadClearsSaid' is proved: whatever the input, the law answers true and its input reads as it did. No conditions.
-/
import Derived.Test.YtplkkacfjepgpaaRows
import Derived.Test.YtplkkacfjepgpaaOpen
import Derived.Test.YtplkkacfjepgpaaAheadH
namespace Go.Proofs.Ytplkkacfjepgpaa
open Go.ChangeShapes Go.WideShapes Go.ChangeAt Go.RowKit Go.Dm

set_option maxRecDepth 100000 in
theorem aheadClears_lifted (os : Os) (started : os.Started) (H : Type) (enc : TypeId × Value → H) :
    ReturnsInHanded {} Try.checked os 6 .any (Rows.aheadClearsSpec.pre6 enc Try.prog Try.f6 Rows.aheadClearsRow.domain false) (Rows.aheadClearsSpec.post enc Try.prog Try.f6 false true false false) := by
  refine returnsInHanded_of_change (C := Try.checked) Try.own started (by kernel_rfl) Try.func6
    (ChangeSpec.witness6 (enc := enc) (C := Try.checked) false ⟨#[], #[.agg #[.int .i64 0, .int .i64 0, .int .i64 0, .slice none 0 0]], []⟩ 8 (by kernel_rfl) (by kernel_rfl) (by kernel_rfl) (by kernel_rfl)) ?_
  intro W base args ds gs before hval0 hW _ _
  have hval : ∀ (j : Nat) t v, Try.f6.params[j]? = some t → args[j]? = some v → Value.okWide Try.prog W .any base t v := hval0
  have hW' := hW
  obtain ⟨p, q, hA0, hV, rfl, _, _⟩ := hW
  have hA : DataW.TrodAll enc Try.prog W 0 (fun _ => true) true Try.f6.params.toList args.toList ds p := hA0
  rw [Try.params6] at hA hval
  obtain ⟨v0, d0, rfl, rfl, h0⟩ := trodAll_one hA
  obtain ⟨rfl, rfl⟩ := trodVars_none hV
  obtain ⟨a0, k0, c0⟩ := Try.o_gra.arg_struct Try.underlying24 (hval 0 24 v0 rfl rfl) h0
  exact row_of_spec (tb := 4) (dd := [D.ag (graD a0)]) Try.laidOut rfl (by kernel_rfl) (by kernel_rfl) (by kernel_rfl) rfl hW' rfl (fun i hi => by
    match i, hi with
    | 0, _ => exact c0) (aheadClears_spec a0 k0)

theorem aheadClears_holds : Rows.AheadClearsSaid :=
  OpenClaim.holds_of_wide 6 Try.f6 rfl rfl rfl rfl rfl rfl rfl ⟨rfl, rfl, rfl, rfl, rfl⟩ rfl rfl rfl rfl rfl (by kernel_rfl) Try.func6 (by kernel_rfl)
    (of_decide_eq_true (by kernel_rfl)) (by unfold Func.isWrapper; first | (rw [if_pos (by decide +kernel)]; kernel_rfl) | (rw [if_neg (by decide +kernel)]; exact ⟨rfl, rfl⟩))
    (fun os started H enc _ => aheadClears_lifted os started H enc)
end Go.Proofs.Ytplkkacfjepgpaa
