/-
  The law NetChecks answers true.
-/
import Derived.Test.YtmhpfgklfpgniaaNet
namespace Go.Proofs.Ytmhpfgklfpgniaa
open Go.Dm
set_option linter.unusedSimpArgs false
set_option linter.unnecessarySimpa false
set_option linter.unusedVariables false
end Go.Proofs.Ytmhpfgklfpgniaa
