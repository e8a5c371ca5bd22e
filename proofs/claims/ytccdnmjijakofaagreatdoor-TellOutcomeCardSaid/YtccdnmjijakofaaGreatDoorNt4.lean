/- A type copied is that type. -/
import Derived.Test.YtccdnmjijakofaaGreatDoorNt1
import Derived.Test.YtccdnmjijakofaaGreatDoorSH
namespace Go.Proofs.YtccdnmjijakofaaGreatDoor
open Go Go.RowKit
set_option maxRecDepth 100000
set_option linter.unusedVariables false

theorem take_snoc {α : Type} {l : List α} {i : Nat} {x : α} (h : l[i]? = some x) : l.take i ++ [x] = l.take (i + 1) := by
  have hi : i < l.length := by
    rcases Nat.lt_or_ge i l.length with h1 | h1
    · exact h1
    · rw [List.getElem?_eq_none h1] at h; cases h
  rw [List.take_add_one, h]; rfl

end Go.Proofs.YtccdnmjijakofaaGreatDoor
