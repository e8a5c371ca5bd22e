/- Shadows: an operation that runs as another one does; a call of a function that came in as a value. -/
import Derived.Test.YtlagglkpbnbmeaaGreatDoorShZ
namespace Go.Proofs.YtlagglkpbnbmeaaGreatDoor
open Go Go.RowKit
set_option linter.unusedVariables false

section
variable {P : Program} {o o' : Oper} {l : List (Nat × F)}
end

end Go.Proofs.YtlagglkpbnbmeaaGreatDoor
