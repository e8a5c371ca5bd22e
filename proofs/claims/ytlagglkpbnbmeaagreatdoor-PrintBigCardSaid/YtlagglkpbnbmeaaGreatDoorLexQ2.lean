/- Plain laws of scanning, as the statements on spans, on refused sources and on blanks need them. -/
import Derived.Test.YtlagglkpbnbmeaaGreatDoorLexQ
namespace Go.Proofs.YtlagglkpbnbmeaaGreatDoor

/-! two sources, one behind the other -/
/-! blanks -/
end Go.Proofs.YtlagglkpbnbmeaaGreatDoor
