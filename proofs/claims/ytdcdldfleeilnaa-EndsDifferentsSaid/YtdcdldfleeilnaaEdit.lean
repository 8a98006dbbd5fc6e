/-
  edit.Inside: whether a word lies in another one with gaps; the law EditInsides.
-/
import Derived.Test.YtdcdldfleeilnaaWords
namespace Go.Proofs.Ytdcdldfleeilnaa
open Go.Dm
set_option linter.unusedSimpArgs false
set_option linter.unnecessarySimpa false
set_option linter.unusedVariables false

/-- How far u is met, after v, from k on. -/
def gIn (u : List UInt8) : List UInt8 → Nat → Nat
  | [], k => k
  | c :: v, k => gIn u v (if k < u.length ∧ u.getD k 0 = c then k + 1 else k)
theorem gIn_step {u v : List UInt8} {i k : Nat} (h : i < v.length) : gIn u (v.drop i) k = gIn u (v.drop (i + 1)) (if k < u.length ∧ u.getD k 0 = v.getD i 0 then k + 1 else k) := by
  rw [drop_cons' h, gIn]
theorem gIn_full {u : List UInt8} : ∀ {v : List UInt8} {k : Nat}, u.length ≤ k → gIn u v k = k
  | [], _, _ => rfl
  | c :: v, k, h => by rw [gIn, if_neg (by omega)]; exact gIn_full h
theorem gIn_end {u v : List UInt8} {k : Nat} : gIn u (v.drop v.length) k = k := by rw [List.drop_length]; rfl

end Go.Proofs.Ytdcdldfleeilnaa
