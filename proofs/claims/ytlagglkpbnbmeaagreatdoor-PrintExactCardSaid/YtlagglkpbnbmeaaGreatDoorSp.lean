/- Spans held against each other. -/
import Derived.Test.YtlagglkpbnbmeaaGreatDoorShZ
import Derived.Laws.StructEq
namespace Go.Proofs.YtlagglkpbnbmeaaGreatDoor
open Go Go.RowKit
set_option maxRecDepth 100000

theorem eqSpan (a b c e : Int) (w : World) : (Op.equalIn 10000 23 (.agg #[.int .i64 a, .int .i64 b]) (.agg #[.int .i64 c, .int .i64 e])).run Tryz.prog w = .ok (decide (a = c) && decide (b = e)) w := by
  have hS : Tryz.prog.underlying 23 = some (.struct (Tryz.prog.fieldsOf 23)) := by kernel_rfl
  have hp : Tryz.prog.stoodInHeld 23 = false := by kernel_rfl
  rw [show (10000 : Nat) = 9999 + 1 from rfl, run_equalIn_agg w 9999 23 _ _ hS hp]
  simp only [Program.fieldsOf, Tryz.underlying23]
  go_simp
  by_cases h1 : a = c <;> by_cases h2 : b = e <;> simp [h1, h2]
section
variable {o : Oper} {l : List (Nat × F)} {d : Nat}
theorem span_val {S : Addr → Prop} {ρ : Nat → Nat} {w : World} {a b : Int} {v : Value} (h : FV S ρ w (.agg [.lit (.int .i64 a), .lit (.int .i64 b)]) v) : v = .agg #[.int .i64 a, .int .i64 b] := by
  obtain ⟨vs, rfl, h2⟩ := h
  match vs, h2 with
  | [x, y], h2 =>
    have h3 : x = .int .i64 a := by have := h2.1; cases this; rfl
    have h4 : y = .int .i64 b := by have := h2.2.1; cases this; rfl
    rw [h3, h4]
theorem r_neSp {T' : TypeId} {x y : Operand} {a b c e : Int} (ho : o.op = .binOp .neq 23 x y T') (hd : o.dst = some d) (hx : opd l x = some (.agg [.lit (.int .i64 a), .lit (.int .i64 b)])) (hy : opd l y = some (.agg [.lit (.int .i64 c), .lit (.int .i64 e)])) :
    Does Tryz.prog o (rdOf x ++ rdOf y) [] l [(d, .c (.lit (.bool (!(decide (a = c) && decide (b = e))))))] :=
  Does.val hd trivial fun S ρ tv ac w hv => ⟨_, by
    have e1 := span_val (hv.fv hx (fun _ h => List.mem_append_left _ h) (by intro T xs e; cases e))
    have e2 := span_val (hv.fv hy (fun _ h => List.mem_append_right _ h) (by intro T xs e; cases e))
    unfold execOp
    rw [ho]
    have hg := run_eqGuard_agg (P := Tryz.prog) (w := w) .neq 23 x y #[.int .i64 a, .int .i64 b] #[.int .i64 c, .int .i64 e] (by kernel_rfl)
    show Sem.run _ (do let v ← (do eqGuard .neq 23 x y (ac.eval x) (ac.eval y); binOp .neq 23 (ac.eval x) (ac.eval y)); pure (Next.value v)) w = _
    rw [e1, e2, Sem.run_bind, Sem.run_bind, hg]
    have hq : (Op.equalIn Op.maxDepth 23 (.agg #[.int .i64 a, .int .i64 b]) (.agg #[.int .i64 c, .int .i64 e])).run Tryz.prog w = .ok (decide (a = c) && decide (b = e)) w := eqSpan a b c e w
    simp [binOp, Op.equal, hq], .lit _ rfl⟩
end

end Go.Proofs.YtlagglkpbnbmeaaGreatDoor
