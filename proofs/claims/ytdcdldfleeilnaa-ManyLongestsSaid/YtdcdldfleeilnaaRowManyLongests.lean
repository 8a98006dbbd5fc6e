/-
  'Rows.ManyLongestsSaid' is proved: whatever the input, the law answers true and its input reads as it did. No conditions.
-/
import Derived.Test.YtdcdldfleeilnaaRows
import Derived.Test.YtdcdldfleeilnaaMg11
import Derived.Test.YtdcdldfleeilnaaMg15
namespace Go.Proofs.Ytdcdldfleeilnaa
open Go.ChangeShapes Go.WideShapes Go.ChangeAt Go.RowKit Go.Dm
set_option maxRecDepth 100000 in
theorem manyLongests_lifted (os : Os) (started : os.Started) (H : Type) (enc : TypeId × Value → H) :
    ReturnsInHanded {} Try.checked os 6 .any (Rows.manyLongestsSpec.pre6 enc Try.prog Try.f6 Rows.manyLongestsRow.domain false) (Rows.manyLongestsSpec.post enc Try.prog Try.f6 false true false false) := by
  refine returnsInHanded_of_change_sized (C := Try.checked) Try.own started (by kernel_rfl) Try.func6
    (ChangeSpec.witness6 (enc := enc) (C := Try.checked) false ⟨#[], #[.slice none 0 0, .slice none 0 0], []⟩ 8 (by kernel_rfl) (by kernel_rfl) (by kernel_rfl) (by kernel_rfl)) ?_
  intro W base args ds gs before hval0 hW _ hsz _
  have hval : ∀ (j : Nat) t v, Try.f6.params[j]? = some t → args[j]? = some v → Value.okWide Try.prog W .any base t v := hval0
  have hW' := hW
  obtain ⟨p, q, hA0, hV, rfl, _, _⟩ := hW
  have hA : DataW.TrodAll enc Try.prog W 0 (fun _ => true) true Try.f6.params.toList args.toList ds p := hA0
  rw [Try.params6] at hA hval hsz
  obtain ⟨v0, v1, d0, d1, _p0, _p1, rfl, rfl, _, h0, h1⟩ := trodAll_two hA
  obtain ⟨rfl, rfl⟩ := trodVars_none hV
  obtain ⟨a0, k0, c0⟩ := Try.o_words.arg_slice Try.underlying34 (hval 0 34 v0 rfl rfl) h0
  obtain ⟨a1, k1, c1⟩ := Try.o_u8s.arg_slice Try.underlying22 (hval 1 22 v1 rfl rfl) h1
  have hz : a0.length * 24 ≤ 140737488351232 := sized_words Try.underlying34 (by kernel_rfl) h0 (fun elems sp e => by
    subst e
    exact sized_slice (j := 0) hsz rfl rfl Try.underlying34) c0
  exact row_of_spec (tb := 4) (dd := [D.sl 1 (rows u8s a0), D.sl 1 (Go.Dm.u8s a1)]) Try.laidOut rfl (by kernel_rfl) (by kernel_rfl) (by kernel_rfl) rfl hW' rfl (fun i hi => by
    match i, hi with
    | 0, _ => exact c0
    | 1, _ => exact c1) (manyLongests_spec a0 k0 a1 k1 hz)
theorem manyLongests_holds : Rows.ManyLongestsSaid :=
  OpenClaim.holds_of_wide 6 Try.f6 rfl rfl rfl rfl rfl rfl rfl ⟨rfl, rfl, rfl, rfl, rfl⟩ rfl rfl rfl rfl rfl (by kernel_rfl) Try.func6 (by kernel_rfl)
    (of_decide_eq_true (by kernel_rfl)) (by unfold Func.isWrapper; first | (rw [if_pos (by decide +kernel)]; kernel_rfl) | (rw [if_neg (by decide +kernel)]; exact ⟨rfl, rfl⟩))
    (fun os started H enc _ => manyLongests_lifted os started H enc)
end Go.Proofs.Ytdcdldfleeilnaa
