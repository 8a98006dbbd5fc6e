/-
  'Rows.ThicketCutsUptoSaid' is proved: whatever the input of the stated bulk, the law answers true and its input reads as it did. No conditions.
-/
import Derived.Test.YtcbilnmpiladnaaRows
import Derived.Test.YtcbilnmpiladnaaOpen
import Derived.Test.YtcbilnmpiladnaaBulkN
import Derived.JoinedCond
import Derived.Test.YtcbilnmpiladnaaCutC
namespace Go.Proofs.Ytcbilnmpiladnaa
open Go.ChangeShapes Go.WideShapes Go.ChangeAt Go.RowKit Go.Dm

set_option maxRecDepth 100000 in
theorem thicketCuts_lifted (os : Os) (started : os.Started) (H : Type) (enc : TypeId × Value → H) (F : Stop.Interp) :
    ReturnsInHanded {} Try.checked os 6 .any ((Rows.OpenSpec.upto Rows.thicketCutsSpec).pre6 enc Try.prog Try.f6 Rows.thicketCutsUptoRow.domain false) (((Rows.OpenSpec.upto Rows.thicketCutsSpec).at F).post enc Try.prog Try.f6 false true false false) := by
  refine returnsInHanded_of_cond (C := Try.checked) (s := Rows.OpenSpec.upto Rows.thicketCutsSpec) (k := Rows.uptoSmall) rfl Try.own started (by kernel_rfl) Try.func6
    (OpenSpec.witness (enc := enc) (C := Try.checked) (s := Rows.OpenSpec.upto Rows.thicketCutsSpec) (k := Rows.uptoSmall) rfl false ⟨#[], #[.agg #[.int .i64 0, .int .i64 0, .int .i64 0, .slice none 0 0], .agg #[.slice none 0 0, .int .i64 0], .int .i64 0], []⟩ 8 (by kernel_rfl) (by kernel_rfl) (by kernel_rfl)
      (x := ([.agg [.lit (.int .i64 0), .lit (.int .i64 0), .lit (.int .i64 0), .nil], .agg [.nil, .lit (.int .i64 0)], .lit (.int .i64 0)], [], [])) (by kernel_rfl) rfl (by kernel_rfl)) ?_
  intro W base args ds gs before hval0 hW _ hk _
  have hval : ∀ (j : Nat) t v, Try.f6.params[j]? = some t → args[j]? = some v → Value.okWide Try.prog W .any base t v := hval0
  have hW' := hW
  obtain ⟨p, q, hA0, hV, rfl, _, _⟩ := hW
  have hA : DataW.TrodAll enc Try.prog W 0 (fun _ => true) true Try.f6.params.toList args.toList ds p := hA0
  rw [Try.params6] at hA hval
  obtain ⟨v0, v1, v2, d0, d1, d2, _p0, _p1, _p2, rfl, rfl, _, h0, h1, h2⟩ := trodAll_three hA
  obtain ⟨rfl, rfl⟩ := trodVars_none hV
  obtain ⟨a0, k0, c0⟩ := Try.o_gra.arg_struct Try.underlying46 (hval 0 46 v0 rfl rfl) h0
  obtain ⟨a1, k1, u1, c1⟩ := Try.b_thi.arg_struct Try.underlying24 (hval 1 24 v1 rfl rfl) h1
  obtain ⟨a2, k2, c2⟩ := Try.o_int.arg_int Try.underlying3 (hval 2 3 v2 rfl rfl) h2
  have hz : (nums a1).length ≤ 4294967296 := Nat.le_trans nums_thiU (Nat.le_trans u1 (Nat.le_trans (small_at (l := [d0, d1, d2]) (i := 1) (by simpa using hk) (by simp)) (by decide)))
  exact row_of_spec (tb := 4) (dd := [D.ag (graD a0), D.ag (thiD a1), D.v (.int .i64 a2)]) Try.laidOut rfl (by kernel_rfl) (by kernel_rfl) (by kernel_rfl) rfl hW' rfl (fun i hi => by
    match i, hi with
    | 0, _ => exact c0
    | 1, _ => exact c1
    | 2, _ => exact c2) (thicketCuts_spec a0 k0 a1 k1 a2 k2 hz)

theorem thicketCutsUpto_holds : Rows.ThicketCutsUptoSaid :=
  OpenClaim.holds_of_cond 6 Try.f6 rfl rfl rfl rfl rfl rfl rfl ⟨rfl, rfl, rfl, rfl, rfl⟩ rfl rfl rfl rfl rfl (by kernel_rfl) Try.func6 (by kernel_rfl)
    (of_decide_eq_true (by kernel_rfl)) (by unfold Func.isWrapper; first | (rw [if_pos (by decide +kernel)]; kernel_rfl) | (rw [if_neg (by decide +kernel)]; exact ⟨rfl, rfl⟩))
    (fun os started H enc _ F => thicketCuts_lifted os started H enc F)
end Go.Proofs.Ytcbilnmpiladnaa
