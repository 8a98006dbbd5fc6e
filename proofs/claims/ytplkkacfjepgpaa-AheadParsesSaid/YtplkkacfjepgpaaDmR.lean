/-
  A logic for Go functions over plain data, part R: results that lie in new memory.
-/
import Derived.Test.YtplkkacfjepgpaaDmM
set_option linter.unusedVariables false
set_option linter.unusedSimpArgs false
namespace Go.Dm
open Go.RowKit
def isV : D → Bool
  | .v _ => true
  | _ => false
def Ob.pl (ob : Ob) : Bool := ob.es.all fun e => e.all isV
end Go.Dm
