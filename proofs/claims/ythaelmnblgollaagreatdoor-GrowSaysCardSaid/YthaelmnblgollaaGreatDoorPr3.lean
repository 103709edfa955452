/- What is to be told of Fma; ProdSays: the law's walk. -/
import Derived.Test.YthaelmnblgollaaGreatDoorPr2
import Derived.Test.YthaelmnblgollaaGreatDoorSu4
set_option linter.unusedVariables false
set_option linter.unusedSimpArgs false
namespace Go.Proofs.YthaelmnblgollaaGreatDoor
open Go.RowKit Go.Ulp
set_option linter.unusedVariables false
set_option linter.unusedSimpArgs false
set_option maxHeartbeats 2000000
set_option maxRecDepth 100000
end Go.Proofs.YthaelmnblgollaaGreatDoor
