/- The program's Same of types, patterns, expressions, with slices.EqualFunc. -/
import Derived.Test.YtlagglkpbnbmeaaGreatDoorShC
import Derived.Test.YtlagglkpbnbmeaaGreatDoorS2
import Derived.Test.YtlagglkpbnbmeaaGreatDoorEp7
import Derived.Test.YtlagglkpbnbmeaaGreatDoorBd
import Derived.Test.YtlagglkpbnbmeaaGreatDoorSp
namespace Go.Proofs.YtlagglkpbnbmeaaGreatDoor
open Go Go.RowKit
set_option maxRecDepth 100000
set_option maxHeartbeats 2000000
set_option linter.unusedVariables false
set_option linter.unusedSimpArgs false

def all2 {α : Type} (q : α → α → Bool) : List α → List α → Bool
  | [], [] => true
  | a :: r, b :: s => q a b && all2 q r s
  | _, _ => false
mutual
def Pa.same : Pa → Pa → Bool
  | .mk k _ _ nm n s kids, .mk k' _ _ nm' n' s' kids' => decide (k = k') && decide (nm = nm') && decide (n = n') && decide (s = s') && pasSame kids kids'
def pasSame : List Pa → List Pa → Bool
  | [], [] => true
  | a :: r, b :: t => a.same b && pasSame r t
  | _, _ => false
end
mutual
def Ex.same : Ex → Ex → Bool
  | .mk k _ _ nm arg n s op A B pats kids, .mk k' _ _ nm' arg' n' s' op' A' B' pats' kids' => decide (k = k') && decide (nm = nm') && decide (arg = arg') && decide (n = n') && decide (s = s') && decide (op = op') && mSame A A' && mSame B B' && all2 Pa.same pats pats' && exsSame kids kids'
def exsSame : List Ex → List Ex → Bool
  | [], [] => true
  | a :: r, b :: t => a.same b && exsSame r t
  | _, _ => false
end
theorem pas_at2 {l : List Pa} {k : Nat} {x : Pa} (h : l[k]? = some x) : (pasD l)[((k : Nat) : Int).toNat]? = some (paX x) := by rw [pasD_map]; simp [h]
theorem exs_at2 {l : List Ex} {k : Nat} {x : Ex} (h : l[k]? = some x) : (exsD l)[((k : Nat) : Int).toNat]? = some (exX x) := by rw [exsD_map]; simp [h]
end Go.Proofs.YtlagglkpbnbmeaaGreatDoor
