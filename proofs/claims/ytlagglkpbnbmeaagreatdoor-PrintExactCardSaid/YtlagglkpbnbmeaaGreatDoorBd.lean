/- The plain model of layer 6: patterns and expressions whose rows are bounded. -/
import Derived.Test.YtlagglkpbnbmeaaGreatDoorEM
namespace Go.Proofs.YtlagglkpbnbmeaaGreatDoor

inductive PaB (n : Nat) : Pa → Prop
  | mk {k a b : Int} {nm : List UInt8} {m : Int} {s : List UInt8} {kids : List Pa} : kids.length ≤ n → (∀ p, p ∈ kids → PaB n p) → PaB n (.mk k a b nm m s kids)
inductive ExB (n : Nat) : Ex → Prop
  | mk {k a b : Int} {nm arg : List UInt8} {m : Int} {s : List UInt8} {op : Int} {A B : Ty} {pats : List Pa} {kids : List Ex} : A.size ≤ n → B.size ≤ n → pats.length ≤ n → kids.length ≤ n → (∀ p, p ∈ pats → PaB n p) → (∀ e, e ∈ kids → ExB n e) → ExB n (.mk k a b nm arg m s op A B pats kids)

end Go.Proofs.YtlagglkpbnbmeaaGreatDoor
