/-
  'Rows.ThicketBuildsSaid' is proved: whatever the input, the law answers true and its input reads as it did. No conditions.
-/
import Derived.Test.YtcclchnbjpncdaaRows
import Derived.Test.YtcclchnbjpncdaaMg11
import Derived.Test.YtcclchnbjpncdaaMg19
namespace Go.Proofs.Ytcclchnbjpncdaa
open Go.ChangeShapes Go.WideShapes Go.ChangeAt Go.RowKit Go.Dm
set_option maxRecDepth 100000 in
theorem thicketBuilds_lifted (os : Os) (started : os.Started) (H : Type) (enc : TypeId × Value → H) :
    ReturnsInHanded {} Try.checked os 3 .any (Rows.thicketBuildsSpec.pre6 enc Try.prog Try.f3 Rows.thicketBuildsRow.domain false) (Rows.thicketBuildsSpec.post enc Try.prog Try.f3 false true false false) := by
  refine returnsInHanded_of_change (C := Try.checked) Try.own started (by kernel_rfl) Try.func3
    (ChangeSpec.witness6 (enc := enc) (C := Try.checked) false ⟨#[], #[.agg #[.int .i64 0, .int .i64 0, .int .i64 0, .slice none 0 0], .slice none 0 0], []⟩ 8 (by kernel_rfl) (by kernel_rfl) (by kernel_rfl) (by kernel_rfl)) ?_
  intro W base args ds gs before hval0 hW _ _
  have hval : ∀ (j : Nat) t v, Try.f3.params[j]? = some t → args[j]? = some v → Value.okWide Try.prog W .any base t v := hval0
  have hW' := hW
  obtain ⟨p, q, hA0, hV, rfl, _, _⟩ := hW
  have hA : DataW.TrodAll enc Try.prog W 0 (fun _ => true) true Try.f3.params.toList args.toList ds p := hA0
  rw [Try.params3] at hA hval
  obtain ⟨v0, v1, d0, d1, _p0, _p1, rfl, rfl, _, h0, h1⟩ := trodAll_two hA
  obtain ⟨rfl, rfl⟩ := trodVars_none hV
  obtain ⟨a0, k0, c0⟩ := Try.o_gra.arg_struct Try.underlying24 (hval 0 24 v0 rfl rfl) h0
  obtain ⟨a1, k1, c1⟩ := Try.o_ints.arg_slice Try.underlying25 (hval 1 25 v1 rfl rfl) h1
  exact row_of_spec (tb := 4) (dd := [D.ag (graD a0), D.sl 1 (i64s a1)]) Try.laidOut rfl (by kernel_rfl) (by kernel_rfl) (by kernel_rfl) rfl hW' rfl (fun i hi => by
    match i, hi with
    | 0, _ => exact c0
    | 1, _ => exact c1) (thicketBuilds_spec a0 k0 a1 k1)
theorem thicketBuilds_holds : Rows.ThicketBuildsSaid :=
  OpenClaim.holds_of_wide 3 Try.f3 rfl rfl rfl rfl rfl rfl rfl ⟨rfl, rfl, rfl, rfl, rfl⟩ rfl rfl rfl rfl rfl (by kernel_rfl) Try.func3 (by kernel_rfl)
    (of_decide_eq_true (by kernel_rfl)) (by unfold Func.isWrapper; first | (rw [if_pos (by decide +kernel)]; kernel_rfl) | (rw [if_neg (by decide +kernel)]; exact ⟨rfl, rfl⟩))
    (fun os started H enc _ => thicketBuilds_lifted os started H enc)
end Go.Proofs.Ytcclchnbjpncdaa
