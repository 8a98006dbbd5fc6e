/-
  'Rows.StorePacksUptoSaid' is proved: whatever the input of the stated bulk, the law answers true and its input reads as it did. No conditions.
-/
import Derived.Test.YtcbilnmpiladnaaRows
import Derived.Test.YtcbilnmpiladnaaOpen
import Derived.Test.YtcbilnmpiladnaaBulkN
import Derived.JoinedCond
import Derived.Test.YtcbilnmpiladnaaPack
namespace Go.Proofs.Ytcbilnmpiladnaa
open Go.ChangeShapes Go.WideShapes Go.ChangeAt Go.RowKit Go.Dm

set_option maxRecDepth 100000 in
theorem storePacks_lifted (os : Os) (started : os.Started) (H : Type) (enc : TypeId × Value → H) (F : Stop.Interp) :
    ReturnsInHanded {} Try.checked os 3 .any ((Rows.OpenSpec.upto Rows.storePacksSpec).pre6 enc Try.prog Try.f3 Rows.storePacksUptoRow.domain false) (((Rows.OpenSpec.upto Rows.storePacksSpec).at F).post enc Try.prog Try.f3 false true false false) := by
  refine returnsInHanded_of_cond (C := Try.checked) (s := Rows.OpenSpec.upto Rows.storePacksSpec) (k := Rows.uptoSmall) rfl Try.own started (by kernel_rfl) Try.func3
    (OpenSpec.witness (enc := enc) (C := Try.checked) (s := Rows.OpenSpec.upto Rows.storePacksSpec) (k := Rows.uptoSmall) rfl false ⟨#[], #[.agg #[.slice none 0 0, .int .i64 0]], []⟩ 8 (by kernel_rfl) (by kernel_rfl) (by kernel_rfl)
      (x := ([.agg [.nil, .lit (.int .i64 0)]], [], [])) (by kernel_rfl) rfl (by kernel_rfl)) ?_
  intro W base args ds gs before hval0 hW _ hk _
  have hval : ∀ (j : Nat) t v, Try.f3.params[j]? = some t → args[j]? = some v → Value.okWide Try.prog W .any base t v := hval0
  have hW' := hW
  obtain ⟨p, q, hA0, hV, rfl, _, _⟩ := hW
  have hA : DataW.TrodAll enc Try.prog W 0 (fun _ => true) true Try.f3.params.toList args.toList ds p := hA0
  rw [Try.params3] at hA hval
  obtain ⟨v0, d0, rfl, rfl, h0⟩ := trodAll_one hA
  obtain ⟨rfl, rfl⟩ := trodVars_none hV
  obtain ⟨a0, k0, u0, c0⟩ := Try.b_thi.arg_struct Try.underlying24 (hval 0 24 v0 rfl rfl) h0
  have hz : (nums a0).length ≤ 4294967296 := Nat.le_trans nums_thiU (Nat.le_trans u0 (Nat.le_trans (small_at (l := [d0]) (i := 0) (by simpa using hk) (by simp)) (by decide)))
  exact row_of_spec (tb := 4) (dd := [D.ag (thiD a0)]) Try.laidOut rfl (by kernel_rfl) (by kernel_rfl) (by kernel_rfl) rfl hW' rfl (fun i hi => by
    match i, hi with
    | 0, _ => exact c0) (storePacks_spec a0 k0 hz)

theorem storePacksUpto_holds : Rows.StorePacksUptoSaid :=
  OpenClaim.holds_of_cond 3 Try.f3 rfl rfl rfl rfl rfl rfl rfl ⟨rfl, rfl, rfl, rfl, rfl⟩ rfl rfl rfl rfl rfl (by kernel_rfl) Try.func3 (by kernel_rfl)
    (of_decide_eq_true (by kernel_rfl)) (by unfold Func.isWrapper; first | (rw [if_pos (by decide +kernel)]; kernel_rfl) | (rw [if_neg (by decide +kernel)]; exact ⟨rfl, rfl⟩))
    (fun os started H enc _ F => storePacks_lifted os started H enc F)
end Go.Proofs.Ytcbilnmpiladnaa
