/- Spans held against each other. -/
import Derived.Test.YtlagglkpbnbmeaaGreatDoorShZ
import Derived.Laws.StructEq
namespace Go.Proofs.YtlagglkpbnbmeaaGreatDoor
open Go Go.RowKit
set_option maxRecDepth 100000

section
variable {o : Oper} {l : List (Nat × F)} {d : Nat}
end

end Go.Proofs.YtlagglkpbnbmeaaGreatDoor
