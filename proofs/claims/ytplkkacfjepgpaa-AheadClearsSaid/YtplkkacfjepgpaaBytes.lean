/-
  Two texts of bytes are held against one another.
-/
import Derived.Test.YtplkkacfjepgpaaDmM
import Derived.Test.YtplkkacfjepgpaaDmX
import Derived.Test.YtplkkacfjepgpaaCode
namespace Go.Proofs.Ytplkkacfjepgpaa
open Go.Dm
set_option linter.unusedSimpArgs false
set_option linter.unnecessarySimpa false
set_option linter.unusedVariables false
theorem mixed : Try.prog.follows .mixedOrders = true := by kernel_rfl

theorem take_succ_eq {α : Type} [Inhabited α] {a b : List α} {k : Nat} (he : a.take k = b.take k) (ha : k < a.length) (hb : k < b.length) (x : α) (h : a.getD k x = b.getD k x) : a.take (k + 1) = b.take (k + 1) := by
  rw [List.take_add_one, List.take_add_one, he]
  have e1 : a[k]? = some (a.getD k x) := by simp [List.getD, ha]
  have e2 : b[k]? = some (b.getD k x) := by simp [List.getD, hb]
  rw [e1, e2, h]

end Go.Proofs.Ytplkkacfjepgpaa
