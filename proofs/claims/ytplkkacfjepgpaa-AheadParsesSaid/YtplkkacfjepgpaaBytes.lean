/-
  Two texts of bytes are held against one another.
-/
import Derived.Test.YtplkkacfjepgpaaDmM
import Derived.Test.YtplkkacfjepgpaaDmX
import Derived.Test.YtplkkacfjepgpaaCode
set_option linter.unusedVariables false
set_option linter.unusedSimpArgs false
set_option linter.unnecessarySimpa false
namespace Go.Proofs.Ytplkkacfjepgpaa
open Go.Dm
theorem mixed : Try.prog.follows .mixedOrders = true := by kernel_rfl
end Go.Proofs.Ytplkkacfjepgpaa
