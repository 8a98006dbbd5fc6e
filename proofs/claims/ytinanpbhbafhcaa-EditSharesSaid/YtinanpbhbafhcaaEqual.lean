/-
  bytes.Equal, as a contract on descriptions.
-/
import Derived.Test.YtinanpbhbafhcaaBytes
import Derived.Lib.Bytes
import Derived.Lib.Walk
import Derived.Laws.BytesArg
namespace Go.Proofs.Ytinanpbhbafhcaa
open Go.Dm

def nums (a : List UInt8) : List Int := a.map fun b => (b.toNat : Int)
theorem nums_inj {a b : List UInt8} (h : (strOfNums (nums a)) = strOfNums (nums b)) : a = b := by
  have e : ∀ a : List UInt8, (strOfNums (nums a)).data.toList = a := by
    intro a
    rw [strOfNums_data, nums, List.map_map]
    have : ((fun n : Int => UInt8.ofNat n.toNat) ∘ fun b : UInt8 => (b.toNat : Int)) = id := by
      funext b; simp
    rw [this, List.map_id]
  rw [← e a, ← e b, h]

section
variable {P : Program} {w : World} {A : Nat → Prop}
theorem conv_bytes {t e st : TypeId} (ht : P.underlying t = some (.slice e)) (he : P.underlying e = some (.int .u8)) (hs : P.underlying st = some .string) {a : List UInt8} {v : Value} (h : CR w A (.sl 1 (Go.Dm.u8s a)) v) :
    (convert t st v).run P w = .ok (.string (strOfNums (nums a))) w := by
  generalize hd : D.sl 1 (Go.Dm.u8s a) = d at h
  cases h with
  | sl0 sz b c =>
    injection hd with h1 h2
    have ha : a = [] := by
      cases a with
      | nil => rfl
      | cons x l => simp [Go.Dm.u8s] at h2
    subst ha
    cases b with
    | none => exact run_convert_bytes_nil w t e ht he 0 c st hs
    | some p =>
      rw [run_convert_bytes_string w t st e _ 0 c ht he hs]
      simp [Conv.bytesToString, loadCells, loadCellsFrom, nums, strOfNums]
      rfl
  | sl sz es b off n c us hA hn hcap hsz hc hr =>
    injection hd with h1 h2
    subst h1
    subst h2
    rw [u8s_len] at hn
    refine run_convert_bytes_arg w t e ht he b off n c (nums a) (by simp [nums, hn]) (fun i hi => ?_) st hs
    have hi' : i < (Go.Dm.u8s a).length := by rw [u8s_len]; omega
    have h3 := (hc i 0 hi' (by omega)).1
    have h4 := hr i 0 hi' (by omega)
    rw [u8s_get (by omega)] at h4
    simp only [List.getD_cons_zero] at h4
    have e1 : us i 0 = .int .u8 ((a.getD i 0).toNat : Int) := by
      generalize us i 0 = u at h4
      cases h4; rfl
    rw [Nat.mul_one, Nat.add_zero, e1] at h3
    rw [h3]
    have : (nums a).getD i 0 = ((a.getD i 0).toNat : Int) := map_getD (fun b : UInt8 => (b.toNat : Int)) a i 0 0 (by omega)
    rw [this]
  | v | nl | ag | tu | ip | clo | junk => cases hd
end

set_option maxHeartbeats 1000000 in
theorem bytes_Equal (v1 v2 : Value) (xs ys : List Int) (w : World)
    (h1 : (convert 22 9 v1).run Try.prog w = .ok (.string (strOfNums xs)) w) (h2 : (convert 22 9 v2).run Try.prog w = .ok (.string (strOfNums ys)) w) :
    Calls Try.prog 31 #[v1, v2] w fun e w' => e = .returned (.bool (Lib.bytesOf xs == Lib.bytesOf ys)) ∧ w' = w := by
  rw [← Lib.strOfNums_toList, ← Lib.strOfNums_toList]
  go_enter Try.func31, Try.ntmps31
  go_wp2
  go_ret
  exact ⟨rfl, rfl⟩

theorem equal_spec (a b : List UInt8) : Dm.Spec Try.prog 31 [.sl 1 (Go.Dm.u8s a), .sl 1 (Go.Dm.u8s b)] (· = .v (.bool (decide (a = b)))) := by
  refine ⟨⟨_, Try.func31, by kernel_rfl, by kernel_rfl⟩, fun w A vs low hsz hcr => ?_⟩
  have e : vs = #[vs.getD 0 undef, vs.getD 1 undef] := by
    apply Array.ext
    · simpa using hsz
    · intro i h1 h2
      have : i < 2 := by simpa using h2
      match i, this with
      | 0, _ => simp [h1]
      | 1, _ => simp [h1]
  have h0 := hcr 0 (by simp)
  have h1 := hcr 1 (by simp)
  rw [e]
  refine (bytes_Equal _ _ (nums a) (nums b) w (conv_bytes Try.underlying22 Try.underlying5 Try.underlying9 h0) (conv_bytes Try.underlying22 Try.underlying5 Try.underlying9 h1)).mono ?_
  rintro e' w' ⟨rfl, rfl⟩
  refine ⟨_, _, rfl, rfl, Go.RowKit.Below.refl _ _, ?_⟩
  have : (Lib.bytesOf (nums a) == Lib.bytesOf (nums b)) = decide (a = b) := by
    rw [Bool.eq_iff_iff]
    simp only [beq_iff_eq, decide_eq_true_eq]
    rw [← Lib.strOfNums_toList, ← Lib.strOfNums_toList]
    constructor
    · intro h
      apply nums_inj
      apply ByteArray.ext
      apply Array.ext'
      simpa [ByteArray.toList_eq] using h
    · rintro rfl; rfl
  rw [this]
  exact .v _
end Go.Proofs.Ytinanpbhbafhcaa
