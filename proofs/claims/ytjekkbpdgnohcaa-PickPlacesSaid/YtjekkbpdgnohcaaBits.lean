/-
  Sets of numbers as bits; machine.Has, coppicerref.Bit.
-/
import Derived.Test.YtjekkbpdgnohcaaBytes
import Derived.Test.YtjekkbpdgnohcaaDmX
namespace Go.Proofs.Ytjekkbpdgnohcaa
open Go.Dm
set_option linter.unusedSimpArgs false
set_option linter.unnecessarySimpa false
set_option linter.unusedVariables false
end Go.Proofs.Ytjekkbpdgnohcaa
