/-
  Two texts of bytes are held against one another.
-/
import Derived.Test.YtjekkbpdgnohcaaDmM
import Derived.Test.YtjekkbpdgnohcaaDmX
import Derived.Test.YtjekkbpdgnohcaaCode
namespace Go.Proofs.Ytjekkbpdgnohcaa
open Go.Dm
set_option linter.unusedSimpArgs false
set_option linter.unnecessarySimpa false
set_option linter.unusedVariables false
theorem mixed : Try.prog.follows .mixedOrders = true := by kernel_rfl
end Go.Proofs.Ytjekkbpdgnohcaa
