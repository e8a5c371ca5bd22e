/- A cut between two parts of the code; maps: asked with ok, a key's value changed. -/
import Derived.Test.YtlagglkpbnbmeaaGreatDoorSh18
namespace Go.Proofs.YtlagglkpbnbmeaaGreatDoor
open Go Go.RowKit
set_option linter.unusedVariables false

section
variable {P : Program} {n : Nat} {ins : List Nat} {l : List (Nat × F)} {K : Cont}
theorem J_mono {K' : Cont} {c : Code} (h : ∀ x l', K x l' → K' x l') (hJ : J P n ins l c K) : J P n ins l c K' :=
  fun ro e Q h1 h2 hK a w hR => hJ ro e Q h1 h2 (fun x l' a w hx => hK x l' a w (h x l' hx)) a w hR
def cutK {α : Type} (I : α → List (Nat × F)) (K : Cont) : Cont
  | .normal, l => ∃ p, sub (I p) l
  | x, l => K x l
theorem cut_in {α : Type} {I : α → List (Nat × F)} {K : Cont} {l : List (Nat × F)} (p : α) (h : sub (I p) l) : cutK I K .normal l := ⟨p, h⟩
theorem J_cutF {α : Type} (I : α → List (Nat × F)) (fix : List (Nat × F)) {x y : Code} (h0 : sub fix l) (hx : J P n ins l x (cutK (fun p => I p ++ fix) K)) (hy : ∀ p, J P n ins (I p ++ fix) y K) : J P n ins l (.seq x y) K :=
  J_seq (J_mono (fun z l' hz => by
    cases z with
    | normal => obtain ⟨p, hp⟩ := hz; exact J_weak _ hp (hy p)
    | exit i => exact hz
    | goto i => exact hz
    | ret => exact hz
    | panic i => exact hz
    | outgrown => exact hz) hx)
end

section
variable {P : Program} {o : Oper} {l : List (Nat × F)} {d : Nat}
end

end Go.Proofs.YtlagglkpbnbmeaaGreatDoor
