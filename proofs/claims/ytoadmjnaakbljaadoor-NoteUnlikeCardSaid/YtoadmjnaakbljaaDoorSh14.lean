/- Splits within a region, loops with a part that stays. -/
import Derived.Test.YtoadmjnaakbljaaDoorSh13
namespace Go.Proofs.YtoadmjnaakbljaaDoor
open Go Go.RowKit
set_option linter.unusedVariables false

section
variable {P : Program} {n : Nat} {ins : List Nat} {l : List (Nat × F)} {K : Cont}
theorem JR.runB {l0 : List (Nat × F)} {id : Nat} {ops : Array Oper} {draw : Bool} {i : Nat} {acc : List Stp} {d : Nat} {b : Bool} {rd : List Nat} {fr : List (Nat × List Nat)} {o : Oper} (ho : ops[i]? = some o) (hw : wantB ops l o = some true) (hd : Does P o rd fr l [(d, .c (.lit (.bool b)))])
    (hT : b = true → JR P n ins l0 id ops draw K (i + 1) ((d, .c (.lit (.bool true))) :: l) (⟨gk ops o ++ rd, fr, [(d, .c (.lit (.bool true)))]⟩ :: acc))
    (hF : b = false → JR P n ins l0 id ops draw K (i + 1) ((d, .c (.lit (.bool false))) :: l) (⟨gk ops o ++ rd, fr, [(d, .c (.lit (.bool false)))]⟩ :: acc)) : JR P n ins l0 id ops draw K i l acc := by
  cases b with
  | true => exact JR.run ho hw hd (hT rfl)
  | false => exact JR.run ho hw hd (hF rfl)
theorem JR.runC {l0 : List (Nat × F)} {id : Nat} {ops : Array Oper} {draw : Bool} {i : Nat} {acc : List Stp} {d : Nat} {b : Bool} {rd : List Nat} {fr : List (Nat × List Nat)} {post : List (Nat × F)} {o : Oper} (ho : ops[i]? = some o) (hw : wantB ops l o = some true) (hd : Does P o rd fr l post) (hp : post = [(d, .c (.lit (.bool b)))])
    (hT : b = true → JR P n ins l0 id ops draw K (i + 1) ((d, .c (.lit (.bool true))) :: l) (⟨gk ops o ++ rd, fr, [(d, .c (.lit (.bool true)))]⟩ :: acc))
    (hF : b = false → JR P n ins l0 id ops draw K (i + 1) ((d, .c (.lit (.bool false))) :: l) (⟨gk ops o ++ rd, fr, [(d, .c (.lit (.bool false)))]⟩ :: acc)) : JR P n ins l0 id ops draw K i l acc := by
  subst hp
  exact JR.runB ho hw hd hT hF
theorem J_loopF {α : Type} (I : α → List (Nat × F)) (fix : List (Nat × F)) (μ : α → Nat) (x : α) {c : Code} (h0 : sub (I x ++ fix) l) (h : ∀ x, J P n ins (I x ++ fix) c (loopK (fun x => I x ++ fix) μ x K)) : J P n ins l (.loop c) K :=
  J_loop (fun x => I x ++ fix) μ x h0 h
end
theorem nT {b : Bool} (h : (!b) = true) : b = false := by cases b <;> first | rfl | cases h
theorem nF {b : Bool} (h : (!b) = false) : b = true := by cases b <;> first | rfl | cases h
theorem WkF.of {x y : F} (h : x = y) : WkF x y := by subst h; exact .refl x
theorem WkF.ofB {a b : Bool} (h : b = a) : WkF (.c (.lit (.bool a))) (.c (.lit (.bool b))) := .of (by rw [h])
theorem WkF.ofI {k : IntKind} {a b : Int} (h : b = a) : WkF (.c (.lit (.int k a))) (.c (.lit (.int k b))) := .of (by rw [h])
theorem WkF.ofS {a b : List UInt8} (h : b = a) : WkF (.c (.lit (str a))) (.c (.lit (str b))) := .of (by rw [h])

end Go.Proofs.YtoadmjnaakbljaaDoor
