/-
  bytes.Equal, as a contract on descriptions.
-/
import Derived.Test.YtdcdldfleeilnaaBytes
import Derived.Lib.Bytes
import Derived.Lib.Walk
import Derived.Laws.BytesArg
namespace Go.Proofs.Ytdcdldfleeilnaa
open Go.Dm

def nums (a : List UInt8) : List Int := a.map fun b => (b.toNat : Int)
theorem nums_inj {a b : List UInt8} (h : (strOfNums (nums a)) = strOfNums (nums b)) : a = b := by
  have e : ∀ a : List UInt8, (strOfNums (nums a)).data.toList = a := by
    intro a
    rw [strOfNums_data, nums, List.map_map]
    have : ((fun n : Int => UInt8.ofNat n.toNat) ∘ fun b : UInt8 => (b.toNat : Int)) = id := by
      funext b; simp
    rw [this, List.map_id]
  rw [← e a, ← e b, h]

section
variable {P : Program} {w : World} {A : Nat → Prop}
theorem conv_bytes {t e st : TypeId} (ht : P.underlying t = some (.slice e)) (he : P.underlying e = some (.int .u8)) (hs : P.underlying st = some .string) {a : List UInt8} {v : Value} (h : CR w A (.sl 1 (Go.Dm.u8s a)) v) :
    (convert t st v).run P w = .ok (.string (strOfNums (nums a))) w := by
  generalize hd : D.sl 1 (Go.Dm.u8s a) = d at h
  cases h with
  | sl0 sz b c =>
    injection hd with h1 h2
    have ha : a = [] := by
      cases a with
      | nil => rfl
      | cons x l => simp [Go.Dm.u8s] at h2
    subst ha
    cases b with
    | none => exact run_convert_bytes_nil w t e ht he 0 c st hs
    | some p =>
      rw [run_convert_bytes_string w t st e _ 0 c ht he hs]
      simp [Conv.bytesToString, loadCells, loadCellsFrom, nums, strOfNums]
      rfl
  | sl sz es b off n c us hA hn hcap hsz hc hr =>
    injection hd with h1 h2
    subst h1
    subst h2
    rw [u8s_len] at hn
    refine run_convert_bytes_arg w t e ht he b off n c (nums a) (by simp [nums, hn]) (fun i hi => ?_) st hs
    have hi' : i < (Go.Dm.u8s a).length := by rw [u8s_len]; omega
    have h3 := (hc i 0 hi' (by omega)).1
    have h4 := hr i 0 hi' (by omega)
    rw [u8s_get (by omega)] at h4
    simp only [List.getD_cons_zero] at h4
    have e1 : us i 0 = .int .u8 ((a.getD i 0).toNat : Int) := by
      generalize us i 0 = u at h4
      cases h4; rfl
    rw [Nat.mul_one, Nat.add_zero, e1] at h3
    rw [h3]
    have : (nums a).getD i 0 = ((a.getD i 0).toNat : Int) := map_getD (fun b : UInt8 => (b.toNat : Int)) a i 0 0 (by omega)
    rw [this]
  | v | nl | ag | tu | ip | clo | junk => cases hd
end

end Go.Proofs.Ytdcdldfleeilnaa
