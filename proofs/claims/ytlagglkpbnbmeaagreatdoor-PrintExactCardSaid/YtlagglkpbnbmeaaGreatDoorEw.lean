/- The wake-up call of layer 6. -/
import Derived.Test.YtlagglkpbnbmeaaGreatDoorEp7
import Derived.Test.YtlagglkpbnbmeaaGreatDoorSp
namespace Go.Proofs.YtlagglkpbnbmeaaGreatDoor
open Go Go.RowKit
set_option maxRecDepth 100000
set_option linter.unusedVariables false

end Go.Proofs.YtlagglkpbnbmeaaGreatDoor
