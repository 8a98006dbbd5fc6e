/-
  'Rows.EndsCommonsSaid' is proved: whatever the input, the law answers true and its input reads as it did. No conditions.
-/
import Derived.Test.YtdcdldfleeilnaaRows
import Derived.Test.YtdcdldfleeilnaaOpen
import Derived.Test.YtdcdldfleeilnaaEndO
namespace Go.Proofs.Ytdcdldfleeilnaa
open Go.ChangeShapes Go.WideShapes Go.ChangeAt Go.RowKit Go.Dm

set_option maxRecDepth 100000 in
theorem endsCommons_lifted (os : Os) (started : os.Started) (H : Type) (enc : TypeId × Value → H) :
    ReturnsInHanded {} Try.checked os 4 .any (Rows.endsCommonsSpec.pre6 enc Try.prog Try.f4 Rows.endsCommonsRow.domain false) (Rows.endsCommonsSpec.post enc Try.prog Try.f4 false true false false) := by
  refine returnsInHanded_of_change (C := Try.checked) Try.own started (by kernel_rfl) Try.func4
    (ChangeSpec.witness6 (enc := enc) (C := Try.checked) false ⟨#[], #[.slice none 0 0], []⟩ 8 (by kernel_rfl) (by kernel_rfl) (by kernel_rfl) (by kernel_rfl)) ?_
  intro W base args ds gs before hval0 hW _ _
  have hval : ∀ (j : Nat) t v, Try.f4.params[j]? = some t → args[j]? = some v → Value.okWide Try.prog W .any base t v := hval0
  have hW' := hW
  obtain ⟨p, q, hA0, hV, rfl, _, _⟩ := hW
  have hA : DataW.TrodAll enc Try.prog W 0 (fun _ => true) true Try.f4.params.toList args.toList ds p := hA0
  rw [Try.params4] at hA hval
  obtain ⟨v0, d0, rfl, rfl, h0⟩ := trodAll_one hA
  obtain ⟨rfl, rfl⟩ := trodVars_none hV
  obtain ⟨a0, k0, c0⟩ := Try.o_u8s.arg_slice Try.underlying22 (hval 0 22 v0 rfl rfl) h0
  exact row_of_spec (tb := 4) (dd := [D.sl 1 (Go.Dm.u8s a0)]) Try.laidOut rfl (by kernel_rfl) (by kernel_rfl) (by kernel_rfl) rfl hW' rfl (fun i hi => by
    match i, hi with
    | 0, _ => exact c0) (endsCommons_spec a0 k0)

theorem endsCommons_holds : Rows.EndsCommonsSaid :=
  OpenClaim.holds_of_wide 4 Try.f4 rfl rfl rfl rfl rfl rfl rfl ⟨rfl, rfl, rfl, rfl, rfl⟩ rfl rfl rfl rfl rfl (by kernel_rfl) Try.func4 (by kernel_rfl)
    (of_decide_eq_true (by kernel_rfl)) (by unfold Func.isWrapper; first | (rw [if_pos (by decide +kernel)]; kernel_rfl) | (rw [if_neg (by decide +kernel)]; exact ⟨rfl, rfl⟩))
    (fun os started H enc _ => endsCommons_lifted os started H enc)
end Go.Proofs.Ytdcdldfleeilnaa
