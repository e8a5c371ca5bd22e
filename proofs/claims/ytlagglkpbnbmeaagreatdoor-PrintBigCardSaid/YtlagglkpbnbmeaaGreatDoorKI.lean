/- A number turned into a place of a row. -/
import Derived.Test.YtlagglkpbnbmeaaGreatDoorSH
namespace Go.Proofs.YtlagglkpbnbmeaaGreatDoor
open Go Go.RowKit
set_option maxRecDepth 100000
set_option linter.unusedVariables false

theorem u64_modm (n : Int) (d : Nat) (hd : 0 < d) (hd2 : d ≤ 1000000) : ∃ k : Nat, k < d ∧ IntKind.i64.wrap ((IntKind.u64.wrap n).tmod (IntKind.u64.wrap d)) = (k : Int) := by
  have h0 : 0 ≤ IntKind.u64.wrap n := by rw [IntKind.wrap_u64]; omega
  rw [IntWalk.u64_in (d : Int) (by omega)]
  obtain ⟨m, hm⟩ : ∃ m : Nat, IntKind.u64.wrap n = (m : Int) := ⟨(IntKind.u64.wrap n).toNat, by omega⟩
  rw [hm]
  have e : ((m : Int).tmod (d : Int)) = ((m % d : Nat) : Int) := by rw [Int.tmod_eq_emod_of_nonneg (by omega)]; rfl
  have hlt := Nat.mod_lt m hd
  exact ⟨m % d, hlt, by rw [e]; exact IntWalk.i64_in _ (by omega)⟩
theorem kKeepInt (n : Int) (d k : Nat) (hd : 0 < d) (hd2 : d ≤ 1000000) (hk : IntKind.i64.wrap ((IntKind.u64.wrap n).tmod (IntKind.u64.wrap d)) = (k : Int)) : Con Tryz.prog 13 [.c (.lit (.int .i64 n)), .c (.lit (.int .i64 (d : Int)))] [] (.c (.lit (.int .i64 (k : Int)))) [] := by
  have hz := IntWalk.u64_in (d : Int) (by omega)
  refine con_intro rfl rfl (by kernel_rfl) (by kernel_rfl) ?_
  refine J_seq ?_
  refine JR.start ?_
  refine JR.run rfl rfl (r_assign rfl rfl rfl trivial) ?_
  refine JR.done [] (by kernel_rfl) rfl (by kernel_rfl) ?_
  refine J_weak [(0, _), (1, _), (4, _)] ⟨rfl, rfl, rfl, trivial⟩ ?_
  refine J_seq ?_
  refine J_seq ?_
  refine JR.start ?_
  refine JR.run rfl rfl (r_move rfl rfl rfl trivial) ?_
  refine JR.run rfl rfl ((r_ltI rfl rfl rfl rfl).cast (cast_b (b' := false) (by exact decide_eq_false (by omega)))) ?_
  refine JR.done [] (by kernel_rfl) rfl (by kernel_rfl) ?_
  refine J_weak [(0, _), (1, _), (4, _), (6, _)] ⟨rfl, rfl, rfl, rfl, trivial⟩ ?_
  refine J_condF rfl ?_
  refine J_skip ?_
  refine J_seq ?_
  refine JR.start ?_
  refine JR.run rfl rfl (r_move rfl rfl rfl trivial) ?_
  refine JR.run rfl rfl (r_convI (k' := .u64) rfl rfl rfl (by kernel_rfl) rfl) ?_
  refine JR.run rfl rfl (r_move rfl rfl rfl trivial) ?_
  refine JR.run rfl rfl (r_convI (k' := .u64) rfl rfl rfl (by kernel_rfl) rfl) ?_
  refine JR.run rfl rfl (r_remI rfl rfl rfl rfl (by rw [hz]; omega)) ?_
  refine JR.run rfl rfl (r_convI (k' := .i64) rfl rfl rfl (by kernel_rfl) rfl) ?_
  refine JR.run rfl rfl (r_assign rfl rfl rfl trivial) ?_
  refine JR.done [] (by kernel_rfl) rfl (by kernel_rfl) ?_
  refine J_weak [(4, _)] ⟨rfl, trivial⟩ ?_
  refine J_ret ?_
  exact ⟨.inl rfl, _, rfl, .ofI hk.symm, trivial⟩

end Go.Proofs.YtlagglkpbnbmeaaGreatDoor
