/-
  Contracts: a server and a message drawn. Begun by genGrA.
-/
import Derived.Test.YtihaeoicjglieaaGreatMx
import Derived.Test.YtihaeoicjglieaaGreatGrA
set_option linter.unusedVariables false
set_option linter.unusedSimpArgs false
set_option maxRecDepth 100000
set_option maxHeartbeats 8000000
namespace Go.Sx
end Go.Sx
namespace Go.Proofs.YtihaeoicjglieaaGreat
open Go.Sx Go.Proofs Go.Mo
end Go.Proofs.YtihaeoicjglieaaGreat
