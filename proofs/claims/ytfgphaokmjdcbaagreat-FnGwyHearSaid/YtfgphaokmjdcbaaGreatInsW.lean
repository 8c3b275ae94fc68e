/-
  Contracts: stores compared.
-/
import Derived.Test.YtfgphaokmjdcbaaGreatFoT
import Derived.Test.YtfgphaokmjdcbaaGreatM2
import Derived.Test.YtfgphaokmjdcbaaGreatTok
import Derived.Test.YtfgphaokmjdcbaaGreatS5
set_option linter.unusedVariables false
set_option linter.unusedSimpArgs false
namespace Go.Mo
open Go.Sx
end Go.Mo
namespace Go.Proofs.YtfgphaokmjdcbaaGreat
open Go.Sx Go.Proofs Go.Mo
set_option maxRecDepth 100000
set_option maxHeartbeats 8000000
set_option linter.unusedSimpArgs false
set_option linter.unusedVariables false

end Go.Proofs.YtfgphaokmjdcbaaGreat

/-
  slices.Insert of one walker: the library's own text walked, each road.
-/
namespace Go.Proofs.YtfgphaokmjdcbaaGreat
open Go.Sx Go.Proofs Go.RowKit
set_option maxRecDepth 100000
set_option maxHeartbeats 8000000
set_option linter.unusedSimpArgs false
set_option linter.unusedVariables false

end Go.Proofs.YtfgphaokmjdcbaaGreat
