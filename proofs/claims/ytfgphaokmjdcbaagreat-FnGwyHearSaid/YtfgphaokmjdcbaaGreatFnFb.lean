/-
  Contracts: cells asked.
-/
import Derived.Test.YtfgphaokmjdcbaaGreatFoT
import Derived.Test.YtfgphaokmjdcbaaGreatM1
set_option linter.unusedVariables false
set_option linter.unusedSimpArgs false
namespace Go.Proofs.YtfgphaokmjdcbaaGreat
open Go.Sx Go.Proofs Go.Mo
set_option maxRecDepth 100000
set_option maxHeartbeats 8000000
set_option linter.unusedSimpArgs false
set_option linter.unusedVariables false


end Go.Proofs.YtfgphaokmjdcbaaGreat
