/- A row of one's own, looked at. -/
import Derived.Test.YtlagglkpbnbmeaaGreatDoorSH
namespace Go.Proofs.YtlagglkpbnbmeaaGreatDoor
open Go Go.RowKit
set_option linter.unusedVariables false

section
variable {P : Program} {o : Oper} {l : List (Nat × F)} {d : Nat}
end

end Go.Proofs.YtlagglkpbnbmeaaGreatDoor
