/- Plain laws of scanning: a number's text, a text's text, a key word, a name are one token. -/
import Derived.Test.YtlagglkpbnbmeaaGreatDoorLexQ2
import Derived.Test.YtlagglkpbnbmeaaGreatDoorLY
namespace Go.Proofs.YtlagglkpbnbmeaaGreatDoor

theorem mNum_len {n : Int} (h1 : -9223372036854775808 ≤ n) (h2 : n ≤ 9223372036854775807) : (mNum n).length ≤ 20 := by
  have hl := mDigits_len (u := n.natAbs) (by rw [pow19]; omega)
  unfold mNum
  split
  · simp; omega
  · omega
end Go.Proofs.YtlagglkpbnbmeaaGreatDoor
