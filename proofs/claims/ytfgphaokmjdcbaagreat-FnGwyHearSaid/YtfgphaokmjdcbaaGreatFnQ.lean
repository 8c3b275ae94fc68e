/-
  Contracts: what is drawn: lists of walkers, records.
-/
import Derived.Test.YtfgphaokmjdcbaaGreatFnP
import Derived.Test.YtfgphaokmjdcbaaGreatFnF
import Derived.Test.YtfgphaokmjdcbaaGreatM1
set_option linter.unusedVariables false
set_option linter.unusedSimpArgs false
namespace Go.Proofs.YtfgphaokmjdcbaaGreat
open Go.Sx Go.Proofs Go.Mo
set_option maxRecDepth 100000
set_option maxHeartbeats 8000000
set_option linter.unusedSimpArgs false
set_option linter.unusedVariables false

end Go.Proofs.YtfgphaokmjdcbaaGreat
