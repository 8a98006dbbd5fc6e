/-
  The law NetChecks answers true.
-/
import Derived.Test.YtbbpmodfbdibcaaNet
namespace Go.Proofs.Ytbbpmodfbdibcaa
open Go.Dm
set_option linter.unusedSimpArgs false
set_option linter.unnecessarySimpa false
set_option linter.unusedVariables false
end Go.Proofs.Ytbbpmodfbdibcaa
