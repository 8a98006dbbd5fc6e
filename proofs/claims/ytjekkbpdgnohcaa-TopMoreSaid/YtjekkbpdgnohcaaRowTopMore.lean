/-
  'Rows.TopMoreSaid' is proved: whatever the input, the law answers true and its input reads as it did. No conditions.
-/
import Derived.Test.YtjekkbpdgnohcaaRows
import Derived.Test.YtjekkbpdgnohcaaMg11
import Derived.Test.YtjekkbpdgnohcaaMg19
namespace Go.Proofs.Ytjekkbpdgnohcaa
open Go.ChangeShapes Go.WideShapes Go.ChangeAt Go.RowKit Go.Dm
set_option maxRecDepth 100000 in
theorem topMore_lifted (os : Os) (started : os.Started) (H : Type) (enc : TypeId × Value → H) :
    ReturnsInHanded {} Try.checked os 5 .any (Rows.topMoreSpec.pre6 enc Try.prog Try.f5 Rows.topMoreRow.domain false) (Rows.topMoreSpec.post enc Try.prog Try.f5 false true false false) := by
  refine returnsInHanded_of_change_sized (C := Try.checked) Try.own started (by kernel_rfl) Try.func5
    (ChangeSpec.witness6 (enc := enc) (C := Try.checked) false ⟨#[], #[.int .i64 0, .int .i64 0, .slice none 0 0, .slice none 0 0, .agg #[.int .i64 0, .slice none 0 0]], []⟩ 8 (by kernel_rfl) (by kernel_rfl) (by kernel_rfl) (by kernel_rfl)) ?_
  intro W base args ds gs before hval0 hW _ hsz _
  have hval : ∀ (j : Nat) t v, Try.f5.params[j]? = some t → args[j]? = some v → Value.okWide Try.prog W .any base t v := hval0
  have hW' := hW
  obtain ⟨p, q, hA0, hV, rfl, _, _⟩ := hW
  have hA : DataW.TrodAll enc Try.prog W 0 (fun _ => true) true Try.f5.params.toList args.toList ds p := hA0
  rw [Try.params5] at hA hval hsz
  obtain ⟨v0, v1, v2, v3, v4, d0, d1, d2, d3, d4, _p0, _p1, _p2, _p3, _p4, rfl, rfl, _, h0, h1, h2, h3, h4⟩ := trodAll_five hA
  obtain ⟨rfl, rfl⟩ := trodVars_none hV
  obtain ⟨a0, k0, c0⟩ := Try.o_int.arg_int Try.underlying3 (hval 0 3 v0 rfl rfl) h0
  obtain ⟨a1, k1, c1⟩ := Try.o_int.arg_int Try.underlying3 (hval 1 3 v1 rfl rfl) h1
  obtain ⟨a2, k2, c2⟩ := Try.w_dees.arg_slice Try.underlying22 (hval 2 22 v2 rfl rfl) h2 (weights_at hsz (j := 2) rfl rfl)
  obtain ⟨a3, k3, c3⟩ := Try.o_ints.arg_slice Try.underlying28 (hval 3 28 v3 rfl rfl) h3
  obtain ⟨a4, k4, c4⟩ := Try.w_rul.arg_struct Try.underlying30 (hval 4 30 v4 rfl rfl) h4 (weights_at hsz (j := 4) rfl rfl)
  exact row_of_spec (tb := 4) (dd := [D.v (.int .i64 a0), D.v (.int .i64 a1), D.sl 6 (tbl deeD a2), D.sl 1 (i64s a3), D.ag (rulD a4)]) Try.laidOut rfl (by kernel_rfl) (by kernel_rfl) (by kernel_rfl) rfl hW' rfl (fun i hi => by
    match i, hi with
    | 0, _ => exact c0
    | 1, _ => exact c1
    | 2, _ => exact c2
    | 3, _ => exact c3
    | 4, _ => exact c4) (topMore_spec a0 k0 a1 k1 a2 k2 a3 k3 a4 k4)
theorem topMore_holds : Rows.TopMoreSaid :=
  OpenClaim.holds_of_wide 5 Try.f5 rfl rfl rfl rfl rfl rfl rfl ⟨rfl, rfl, rfl, rfl, rfl⟩ rfl rfl rfl rfl rfl (by kernel_rfl) Try.func5 (by kernel_rfl)
    (of_decide_eq_true (by kernel_rfl)) (by unfold Func.isWrapper; first | (rw [if_pos (by decide +kernel)]; kernel_rfl) | (rw [if_neg (by decide +kernel)]; exact ⟨rfl, rfl⟩))
    (fun os started H enc _ => topMore_lifted os started H enc)
end Go.Proofs.Ytjekkbpdgnohcaa
