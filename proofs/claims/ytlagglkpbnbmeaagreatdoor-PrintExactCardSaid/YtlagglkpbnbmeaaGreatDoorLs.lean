/- A loop's state in the readers of layer 6. -/
import Derived.Test.YtlagglkpbnbmeaaGreatDoorEp3
namespace Go.Proofs.YtlagglkpbnbmeaaGreatDoor
open Go Go.RowKit

abbrev LS := (Ex × Nat × Nat) ⊕ (Nat × Nat)
def lsOk : LS → Bool | .inl _ => true | .inr _ => false
def lsX : LS → List D | .inl (a, _, _) => exX a | .inr _ => exJ
def lsP : LS → Nat | .inl (_, j, _) => j | .inr e => e.1
def lsM (n : Nat) : LS → Nat | .inl (_, j, _) => n - j + 1 | .inr _ => 0
def lsR (n i : Nat) (q : Nat → Ex → Nat → QR Ex) (M : QR Ex) : LS → Prop
  | .inl (a, j, f) => q f a j = M ∧ i < j ∧ j ≤ n ∧ n - j < f
  | .inr e => M = .error e ∧ e.1 ≤ n ∧ e.2 ≤ n

end Go.Proofs.YtlagglkpbnbmeaaGreatDoor
