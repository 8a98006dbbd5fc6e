/-
  table.Trees; the law TableTrees.
-/
import Derived.Test.YtjekkbpdgnohcaaWhole
namespace Go.Proofs.Ytjekkbpdgnohcaa
open Go.Dm
set_option linter.unusedSimpArgs false
set_option linter.unnecessarySimpa false
set_option linter.unusedVariables false
set_option linter.defProp false
def trC (g : Grammar) (w : List Int) : Int := if tcode g w = 0 then (if 1099511627776 < trN g w then 1 else 0) else tcode g w
end Go.Proofs.Ytjekkbpdgnohcaa
