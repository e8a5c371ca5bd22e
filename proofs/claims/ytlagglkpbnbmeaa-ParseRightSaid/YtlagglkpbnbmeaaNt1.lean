/- Types: how many kids, which are right, which are without a kind, how many nodes, which are the same. -/
import Derived.Test.YtlagglkpbnbmeaaPX
import Derived.Test.YtlagglkpbnbmeaaTX
import Derived.Test.YtlagglkpbnbmeaaSH
namespace Go.Proofs.Ytlagglkpbnbmeaa
open Go Go.RowKit
set_option maxRecDepth 100000
set_option linter.unusedVariables false

abbrev tyE (t : Ty) : List D := [.lit (.int .i64 t.kind), .lit (.int .i64 t.num), .sl 3 (tysD t.kids)]
theorem tysD_at {l : List Ty} {i : Nat} {t : Ty} (h : l[i]? = some t) : (tysD l)[((i : Nat) : Int).toNat]? = some (tyE t) := by
  have := tysD_get h
  rw [tyD_eq] at this
  exact this

theorem kArity (k : Int) : Con Try.prog 68 [.c (.lit (.int .i64 k))] [] (.c (.lit (.int .i64 (mKids k)))) [] := by
  refine con_intro rfl rfl (by kernel_rfl) (by kernel_rfl) ?_
  refine J_seq ?_
  refine JR.start ?_
  refine JR.run rfl rfl (r_assign rfl rfl rfl trivial) ?_
  refine JR.done [] (by kernel_rfl) rfl (by kernel_rfl) ?_
  refine J_weak [(0, _), (2, _)] ⟨rfl, rfl, trivial⟩ ?_
  refine J_seq ?_
  refine J_seq ?_
  refine JR.start ?_
  refine JR.run rfl rfl (r_move rfl rfl rfl trivial) ?_
  refine JR.done [] (by kernel_rfl) rfl (by kernel_rfl) ?_
  refine J_weak [(2, _), (3, _)] ⟨rfl, rfl, trivial⟩ ?_
  refine J_block ?_
  refine J_seq ?_
  refine J_seq ?_
  refine JR.start ?_
  refine JR.runB rfl rfl (r_eqI rfl rfl rfl rfl) ?_ ?_
  · intro h5
    replace h5 := of_decide_eq_true h5
    refine JR.run rfl rfl (r_assign rfl rfl rfl trivial) ?_
    refine JR.done [] (by kernel_rfl) rfl (by kernel_rfl) ?_
    refine J_weak [(2, _), (3, _), (4, _)] ⟨rfl, rfl, rfl, trivial⟩ ?_
    refine J_condT rfl ?_
    refine J_skip ?_
    refine J_condT rfl ?_
    refine J_seq ?_
    refine JR.start ?_
    refine JR.run rfl rfl (r_assign rfl rfl rfl trivial) ?_
    refine JR.done [] (by kernel_rfl) rfl (by kernel_rfl) ?_
    refine J_weak [(2, _)] ⟨rfl, trivial⟩ ?_
    refine J_ret ?_
    exact ⟨.inl rfl, _, rfl, .ofI (by simp [mKids, *]), trivial⟩
  · intro h5
    replace h5 := of_decide_eq_false h5
    refine JR.run rfl rfl (r_assign rfl rfl rfl trivial) ?_
    refine JR.done [] (by kernel_rfl) rfl (by kernel_rfl) ?_
    refine J_weak [(2, _), (3, _), (4, _)] ⟨rfl, rfl, rfl, trivial⟩ ?_
    refine J_condF rfl ?_
    refine J_seq ?_
    refine JR.start ?_
    refine JR.runB rfl rfl (r_eqI rfl rfl rfl rfl) ?_ ?_
    · intro h6
      replace h6 := of_decide_eq_true h6
      refine JR.run rfl rfl (r_assign rfl rfl rfl trivial) ?_
      refine JR.done [] (by kernel_rfl) rfl (by kernel_rfl) ?_
      refine J_weak [(2, _), (3, _), (4, _)] ⟨rfl, rfl, rfl, trivial⟩ ?_
      refine J_condT rfl ?_
      refine J_skip ?_
      refine J_condT rfl ?_
      refine J_seq ?_
      refine JR.start ?_
      refine JR.run rfl rfl (r_assign rfl rfl rfl trivial) ?_
      refine JR.done [] (by kernel_rfl) rfl (by kernel_rfl) ?_
      refine J_weak [(2, _)] ⟨rfl, trivial⟩ ?_
      refine J_ret ?_
      exact ⟨.inl rfl, _, rfl, .ofI (by simp [mKids, *]), trivial⟩
    · intro h6
      replace h6 := of_decide_eq_false h6
      refine JR.run rfl rfl (r_assign rfl rfl rfl trivial) ?_
      refine JR.done [] (by kernel_rfl) rfl (by kernel_rfl) ?_
      refine J_weak [(2, _), (3, _), (4, _)] ⟨rfl, rfl, rfl, trivial⟩ ?_
      refine J_condF rfl ?_
      refine J_seq ?_
      refine JR.start ?_
      refine JR.runB rfl rfl (r_eqI rfl rfl rfl rfl) ?_ ?_
      · intro h7
        replace h7 := of_decide_eq_true h7
        refine JR.run rfl rfl (r_assign rfl rfl rfl trivial) ?_
        refine JR.done [] (by kernel_rfl) rfl (by kernel_rfl) ?_
        refine J_weak [(2, _), (3, _), (4, _)] ⟨rfl, rfl, rfl, trivial⟩ ?_
        refine J_condT rfl ?_
        refine J_skip ?_
        refine J_condT rfl ?_
        refine J_seq ?_
        refine JR.start ?_
        refine JR.run rfl rfl (r_assign rfl rfl rfl trivial) ?_
        refine JR.done [] (by kernel_rfl) rfl (by kernel_rfl) ?_
        refine J_weak [(2, _)] ⟨rfl, trivial⟩ ?_
        refine J_ret ?_
        exact ⟨.inl rfl, _, rfl, .ofI (by simp [mKids, *]), trivial⟩
      · intro h7
        replace h7 := of_decide_eq_false h7
        refine JR.run rfl rfl (r_assign rfl rfl rfl trivial) ?_
        refine JR.done [] (by kernel_rfl) rfl (by kernel_rfl) ?_
        refine J_weak [(2, _), (3, _), (4, _)] ⟨rfl, rfl, rfl, trivial⟩ ?_
        refine J_condF rfl ?_
        refine J_seq ?_
        refine JR.start ?_
        refine JR.runB rfl rfl (r_eqI rfl rfl rfl rfl) ?_ ?_
        · intro h8
          replace h8 := of_decide_eq_true h8
          refine JR.run rfl rfl (r_assign rfl rfl rfl trivial) ?_
          refine JR.done [] (by kernel_rfl) rfl (by kernel_rfl) ?_
          refine J_weak [(2, _), (3, _), (4, _)] ⟨rfl, rfl, rfl, trivial⟩ ?_
          refine J_condT rfl ?_
          refine J_skip ?_
          refine J_condT rfl ?_
          refine J_seq ?_
          refine JR.start ?_
          refine JR.run rfl rfl (r_assign rfl rfl rfl trivial) ?_
          refine JR.done [] (by kernel_rfl) rfl (by kernel_rfl) ?_
          refine J_weak [(2, _)] ⟨rfl, trivial⟩ ?_
          refine J_ret ?_
          exact ⟨.inl rfl, _, rfl, .ofI (by simp [mKids, *]), trivial⟩
        · intro h8
          replace h8 := of_decide_eq_false h8
          refine JR.run rfl rfl (r_assign rfl rfl rfl trivial) ?_
          refine JR.done [] (by kernel_rfl) rfl (by kernel_rfl) ?_
          refine J_weak [(2, _), (3, _), (4, _)] ⟨rfl, rfl, rfl, trivial⟩ ?_
          refine J_condF rfl ?_
          refine J_seq ?_
          refine JR.start ?_
          refine JR.runB rfl rfl (r_eqI rfl rfl rfl rfl) ?_ ?_
          · intro h9
            replace h9 := of_decide_eq_true h9
            refine JR.run rfl rfl (r_assign rfl rfl rfl trivial) ?_
            refine JR.done [] (by kernel_rfl) rfl (by kernel_rfl) ?_
            refine J_weak [(2, _), (3, _), (4, _)] ⟨rfl, rfl, rfl, trivial⟩ ?_
            refine J_condT rfl ?_
            refine J_skip ?_
            refine J_condT rfl ?_
            refine J_seq ?_
            refine JR.start ?_
            refine JR.run rfl rfl (r_assign rfl rfl rfl trivial) ?_
            refine JR.done [] (by kernel_rfl) rfl (by kernel_rfl) ?_
            refine J_weak [(2, _)] ⟨rfl, trivial⟩ ?_
            refine J_ret ?_
            exact ⟨.inl rfl, _, rfl, .ofI (by simp [mKids, *]), trivial⟩
          · intro h9
            replace h9 := of_decide_eq_false h9
            refine JR.run rfl rfl (r_assign rfl rfl rfl trivial) ?_
            refine JR.done [] (by kernel_rfl) rfl (by kernel_rfl) ?_
            refine J_weak [(2, _), (3, _), (4, _)] ⟨rfl, rfl, rfl, trivial⟩ ?_
            refine J_condF rfl ?_
            refine JR.start ?_
            refine JR.runB rfl rfl (r_eqI rfl rfl rfl rfl) ?_ ?_
            · intro h10
              replace h10 := of_decide_eq_true h10
              refine JR.run rfl rfl (r_assign rfl rfl rfl trivial) ?_
              refine JR.done [] (by kernel_rfl) rfl (by kernel_rfl) ?_
              refine J_weak [(2, _), (3, _), (4, _)] ⟨rfl, rfl, rfl, trivial⟩ ?_
              refine J_condT rfl ?_
              refine J_seq ?_
              refine JR.start ?_
              refine JR.run rfl rfl (r_assign rfl rfl rfl trivial) ?_
              refine JR.done [] (by kernel_rfl) rfl (by kernel_rfl) ?_
              refine J_weak [(2, _)] ⟨rfl, trivial⟩ ?_
              refine J_ret ?_
              exact ⟨.inl rfl, _, rfl, .ofI (by simp [mKids, *]), trivial⟩
            · intro h10
              replace h10 := of_decide_eq_false h10
              refine JR.run rfl rfl (r_assign rfl rfl rfl trivial) ?_
              refine JR.done [] (by kernel_rfl) rfl (by kernel_rfl) ?_
              refine J_weak [(2, _), (3, _), (4, _)] ⟨rfl, rfl, rfl, trivial⟩ ?_
              refine J_condF rfl ?_
              refine J_seq ?_
              refine JR.start ?_
              refine JR.runB rfl rfl (r_eqI rfl rfl rfl rfl) ?_ ?_
              · intro h12
                replace h12 := of_decide_eq_true h12
                refine JR.run rfl rfl (r_assign rfl rfl rfl trivial) ?_
                refine JR.done [] (by kernel_rfl) rfl (by kernel_rfl) ?_
                refine J_weak [(2, _), (3, _), (11, _)] ⟨rfl, rfl, rfl, trivial⟩ ?_
                refine J_condT rfl ?_
                refine J_seq ?_
                refine JR.start ?_
                refine JR.run rfl rfl (r_assign rfl rfl rfl trivial) ?_
                refine JR.done [] (by kernel_rfl) rfl (by kernel_rfl) ?_
                refine J_weak [(2, _)] ⟨rfl, trivial⟩ ?_
                refine J_ret ?_
                exact ⟨.inl rfl, _, rfl, .ofI (by simp [mKids, *]), trivial⟩
              · intro h12
                replace h12 := of_decide_eq_false h12
                refine JR.run rfl rfl (r_assign rfl rfl rfl trivial) ?_
                refine JR.done [] (by kernel_rfl) rfl (by kernel_rfl) ?_
                refine J_weak [(2, _), (3, _), (11, _)] ⟨rfl, rfl, rfl, trivial⟩ ?_
                refine J_condF rfl ?_
                refine J_seq ?_
                refine J_seq ?_
                refine JR.start ?_
                refine JR.runB rfl rfl (r_eqI rfl rfl rfl rfl) ?_ ?_
                · intro h14
                  replace h14 := of_decide_eq_true h14
                  refine JR.run rfl rfl (r_assign rfl rfl rfl trivial) ?_
                  refine JR.done [] (by kernel_rfl) rfl (by kernel_rfl) ?_
                  refine J_weak [(2, _), (3, _), (13, _)] ⟨rfl, rfl, rfl, trivial⟩ ?_
                  refine J_condT rfl ?_
                  refine J_skip ?_
                  refine J_condT rfl ?_
                  refine J_seq ?_
                  refine JR.start ?_
                  refine JR.run rfl rfl (r_assign rfl rfl rfl trivial) ?_
                  refine JR.done [] (by kernel_rfl) rfl (by kernel_rfl) ?_
                  refine J_weak [(2, _)] ⟨rfl, trivial⟩ ?_
                  refine J_ret ?_
                  exact ⟨.inl rfl, _, rfl, .ofI (by simp [mKids, *]), trivial⟩
                · intro h14
                  replace h14 := of_decide_eq_false h14
                  refine JR.run rfl rfl (r_assign rfl rfl rfl trivial) ?_
                  refine JR.done [] (by kernel_rfl) rfl (by kernel_rfl) ?_
                  refine J_weak [(2, _), (3, _), (13, _)] ⟨rfl, rfl, rfl, trivial⟩ ?_
                  refine J_condF rfl ?_
                  refine JR.start ?_
                  refine JR.runB rfl rfl (r_eqI rfl rfl rfl rfl) ?_ ?_
                  · intro h15
                    replace h15 := of_decide_eq_true h15
                    refine JR.run rfl rfl (r_assign rfl rfl rfl trivial) ?_
                    refine JR.done [] (by kernel_rfl) rfl (by kernel_rfl) ?_
                    refine J_weak [(2, _), (13, _)] ⟨rfl, rfl, trivial⟩ ?_
                    refine J_condT rfl ?_
                    refine J_seq ?_
                    refine JR.start ?_
                    refine JR.run rfl rfl (r_assign rfl rfl rfl trivial) ?_
                    refine JR.done [] (by kernel_rfl) rfl (by kernel_rfl) ?_
                    refine J_weak [(2, _)] ⟨rfl, trivial⟩ ?_
                    refine J_ret ?_
                    exact ⟨.inl rfl, _, rfl, .ofI (by simp [mKids, *]), trivial⟩
                  · intro h15
                    replace h15 := of_decide_eq_false h15
                    refine JR.run rfl rfl (r_assign rfl rfl rfl trivial) ?_
                    refine JR.done [] (by kernel_rfl) rfl (by kernel_rfl) ?_
                    refine J_weak [(2, _), (13, _)] ⟨rfl, rfl, trivial⟩ ?_
                    refine J_condF rfl ?_
                    refine J_skip ?_
                    refine J_seq ?_
                    refine JR.start ?_
                    refine JR.run rfl rfl (r_assign rfl rfl rfl trivial) ?_
                    refine JR.done [] (by kernel_rfl) rfl (by kernel_rfl) ?_
                    refine J_weak [(2, _)] ⟨rfl, trivial⟩ ?_
                    refine J_ret ?_
                    exact ⟨.inl rfl, _, rfl, .ofI (by simp [mKids, *]), trivial⟩

theorem kTypRight : ∀ (m : Nat) (t : Ty), m ≤ 1000000000 → t.size ≤ m → Con Try.prog 61 [.agg (tyE t)] [] (.c (.lit (.bool (mRight t)))) []
  | 0, t, _, h => absurd t.size_pos (by omega)
  | m + 1, t, hm, h => by
    have hk := t.kids_lt
    have hl := tysD_len (t.kids)
    refine con_intro rfl rfl (by kernel_rfl) (by kernel_rfl) ?_
    refine J_seq ?_
    refine JR.start ?_
    refine JR.run rfl rfl (r_boxA (x := 2001) rfl rfl rfl rfl) ?_
    refine JR.run rfl rfl (r_assign rfl rfl rfl trivial) ?_
    refine JR.done [] (by kernel_rfl) rfl (by kernel_rfl) ?_
    refine J_weak [(1, _), (2, _), (2001, _)] ⟨rfl, rfl, rfl, trivial⟩ ?_
    refine J_seq ?_
    refine J_seq ?_
    refine JR.start ?_
    refine JR.run rfl rfl (r_fieldAddr (off := 0) (m := 1) rfl rfl (by kernel_rfl) rfl) ?_
    refine JR.run rfl rfl (r_load rfl rfl (by kernel_rfl) rfl rfl rfl) ?_
    refine JR.run rfl rfl (r_call (kArity t.kind) rfl rfl rfl trivial (by kernel_rfl)) ?_
    refine JR.run rfl rfl (r_assign rfl rfl rfl trivial) ?_
    refine JR.done [] (by kernel_rfl) rfl (by kernel_rfl) ?_
    refine J_weak [(1, _), (2, _), (3, _), (2001, _)] ⟨rfl, rfl, rfl, rfl, trivial⟩ ?_
    refine J_seq ?_
    refine JR.start ?_
    refine JR.run rfl rfl (r_move rfl rfl rfl trivial) ?_
    refine JR.runB rfl rfl (r_ltI rfl rfl rfl rfl) ?_ ?_
    · intro h10
      replace h10 := of_decide_eq_true h10
      refine JR.run rfl rfl (r_move rfl rfl rfl trivial) ?_
      refine JR.skip rfl rfl ?_
      refine JR.skip rfl rfl ?_
      refine JR.skip rfl rfl ?_
      refine JR.skip rfl rfl ?_
      refine JR.skip rfl rfl ?_
      refine JR.run rfl rfl (r_pickT rfl rfl rfl rfl trivial) ?_
      refine JR.done [] (by kernel_rfl) rfl (by kernel_rfl) ?_
      refine J_weak [(1, _), (2, _), (17, _), (2001, _)] ⟨rfl, rfl, rfl, rfl, trivial⟩ ?_
      refine J_condT rfl ?_
      refine J_seq ?_
      refine JR.start ?_
      refine JR.run rfl rfl (r_assign rfl rfl rfl trivial) ?_
      refine JR.done [] (by kernel_rfl) rfl (by kernel_rfl) ?_
      refine J_weak [(1, _), (2, _), (2001, _)] ⟨rfl, rfl, rfl, trivial⟩ ?_
      refine J_ret ?_
      refine ⟨.inl rfl, _, rfl, .ofB (Bool.eq_false_iff.2 fun e => ?_), trivial⟩
      rw [mRight_eq] at e
      simp only [Bool.and_eq_true, decide_eq_true_eq, Bool.or_eq_true] at e
      omega
    · intro h10
      replace h10 := of_decide_eq_false h10
      refine JR.run rfl rfl (r_move rfl rfl rfl trivial) ?_
      refine JR.run rfl rfl (r_fieldAddr (off := 2) (m := 1) rfl rfl (by kernel_rfl) rfl) ?_
      refine JR.run rfl rfl (r_load rfl rfl (by kernel_rfl) rfl rfl rfl) ?_
      refine JR.run rfl rfl (r_len rfl rfl (by kernel_rfl) rfl) ?_
      refine JR.run rfl rfl (r_move rfl rfl rfl trivial) ?_
      refine JR.runB rfl rfl (r_neI rfl rfl rfl rfl) ?_ ?_
      · intro h16
        replace h16 := of_decide_eq_false (nT h16)
        refine JR.run rfl rfl (r_pickF rfl rfl rfl rfl trivial) ?_
        refine JR.done [] (by kernel_rfl) rfl (by kernel_rfl) ?_
        refine J_weak [(1, _), (2, _), (17, _), (2001, _)] ⟨rfl, rfl, rfl, rfl, trivial⟩ ?_
        refine J_condT rfl ?_
        refine J_seq ?_
        refine JR.start ?_
        refine JR.run rfl rfl (r_assign rfl rfl rfl trivial) ?_
        refine JR.done [] (by kernel_rfl) rfl (by kernel_rfl) ?_
        refine J_weak [(1, _), (2, _), (2001, _)] ⟨rfl, rfl, rfl, trivial⟩ ?_
        refine J_ret ?_
        refine ⟨.inl rfl, _, rfl, .ofB (Bool.eq_false_iff.2 fun e => ?_), trivial⟩
        rw [mRight_eq] at e
        simp only [Bool.and_eq_true, decide_eq_true_eq, Bool.or_eq_true] at e
        omega
      · intro h16
        replace h16 := of_decide_eq_true (nF h16)
        refine JR.run rfl rfl (r_pickF rfl rfl rfl rfl trivial) ?_
        refine JR.done [] (by kernel_rfl) rfl (by kernel_rfl) ?_
        refine J_weak [(1, _), (2, _), (17, _), (2001, _)] ⟨rfl, rfl, rfl, rfl, trivial⟩ ?_
        refine J_condF rfl ?_
        refine J_skip ?_
        refine J_seq ?_
        refine J_seq ?_
        refine JR.start ?_
        refine JR.run rfl rfl (r_fieldAddr (off := 0) (m := 1) rfl rfl (by kernel_rfl) rfl) ?_
        refine JR.run rfl rfl (r_load rfl rfl (by kernel_rfl) rfl rfl rfl) ?_
        refine JR.runB rfl rfl (r_eqI rfl rfl rfl rfl) ?_ ?_
        · intro h20
          replace h20 := of_decide_eq_true h20
          refine JR.done [] (by kernel_rfl) rfl (by kernel_rfl) ?_
          refine J_weak [(1, _), (2, _), (20, _), (2001, _)] ⟨rfl, rfl, rfl, rfl, trivial⟩ ?_
          refine J_condT rfl ?_
          refine J_seq ?_
          refine JR.start ?_
          refine JR.run rfl rfl (r_fieldAddr (off := 1) (m := 1) rfl rfl (by kernel_rfl) rfl) ?_
          refine JR.run rfl rfl (r_load rfl rfl (by kernel_rfl) rfl rfl rfl) ?_
          refine JR.runB rfl rfl (r_geI rfl rfl rfl rfl) ?_ ?_
          · intro h23
            replace h23 := of_decide_eq_true h23
            refine JR.run rfl rfl (r_move rfl rfl rfl trivial) ?_
            refine JR.run rfl rfl (r_fieldAddr (off := 1) (m := 1) rfl rfl (by kernel_rfl) rfl) ?_
            refine JR.run rfl rfl (r_load rfl rfl (by kernel_rfl) rfl rfl rfl) ?_
            refine JR.runB rfl rfl (r_leI rfl rfl rfl rfl) ?_ ?_
            · intro h27
              replace h27 := of_decide_eq_true h27
              refine JR.run rfl rfl (r_pickT rfl rfl rfl rfl trivial) ?_
              refine JR.run rfl rfl (r_assign rfl rfl rfl trivial) ?_
              refine JR.done [] (by kernel_rfl) rfl (by kernel_rfl) ?_
              refine J_weak [(1, _), (2, _), (2001, _)] ⟨rfl, rfl, rfl, trivial⟩ ?_
              refine J_ret ?_
              have h0 : t.kids = [] := by
                rw [h20] at h16
                exact List.eq_nil_of_length_eq_zero (by have : mKids 6 = 0 := rfl
                                                        omega)
              refine ⟨.inl rfl, _, rfl, .ofB ?_, trivial⟩
              rw [mRight_eq, h0, mRights, Bool.and_true]
              simp only [Bool.and_eq_true, decide_eq_true_eq, Bool.or_eq_true]
              rw [h0] at h16 hl
              have hl0 : ([] : List Ty).length = 0 := rfl
              omega
            · intro h27
              replace h27 := of_decide_eq_false h27
              refine JR.run rfl rfl (r_pickT rfl rfl rfl rfl trivial) ?_
              refine JR.run rfl rfl (r_assign rfl rfl rfl trivial) ?_
              refine JR.done [] (by kernel_rfl) rfl (by kernel_rfl) ?_
              refine J_weak [(1, _), (2, _), (2001, _)] ⟨rfl, rfl, rfl, trivial⟩ ?_
              refine J_ret ?_
              refine ⟨.inl rfl, _, rfl, .ofB (Bool.eq_false_iff.2 fun e => ?_), trivial⟩
              rw [mRight_eq] at e
              simp only [Bool.and_eq_true, decide_eq_true_eq, Bool.or_eq_true] at e
              omega
          · intro h23
            replace h23 := of_decide_eq_false h23
            refine JR.run rfl rfl (r_move rfl rfl rfl trivial) ?_
            refine JR.skip rfl rfl ?_
            refine JR.skip rfl rfl ?_
            refine JR.skip rfl rfl ?_
            refine JR.run rfl rfl (r_pickF rfl rfl rfl rfl trivial) ?_
            refine JR.run rfl rfl (r_assign rfl rfl rfl trivial) ?_
            refine JR.done [] (by kernel_rfl) rfl (by kernel_rfl) ?_
            refine J_weak [(1, _), (2, _), (2001, _)] ⟨rfl, rfl, rfl, trivial⟩ ?_
            refine J_ret ?_
            refine ⟨.inl rfl, _, rfl, .ofB (Bool.eq_false_iff.2 fun e => ?_), trivial⟩
            rw [mRight_eq] at e
            simp only [Bool.and_eq_true, decide_eq_true_eq, Bool.or_eq_true] at e
            omega
        · intro h20
          replace h20 := of_decide_eq_false h20
          refine JR.done [] (by kernel_rfl) rfl (by kernel_rfl) ?_
          refine J_weak [(1, _), (2, _), (20, _), (2001, _)] ⟨rfl, rfl, rfl, rfl, trivial⟩ ?_
          refine J_condF rfl ?_
          refine J_skip ?_
          refine J_seq ?_
          refine J_seq ?_
          refine JR.start ?_
          refine JR.run rfl rfl (r_fieldAddr (off := 1) (m := 1) rfl rfl (by kernel_rfl) rfl) ?_
          refine JR.run rfl rfl (r_load rfl rfl (by kernel_rfl) rfl rfl rfl) ?_
          refine JR.runB rfl rfl (r_neI rfl rfl rfl rfl) ?_ ?_
          · intro h31
            replace h31 := of_decide_eq_false (nT h31)
            refine JR.done [] (by kernel_rfl) rfl (by kernel_rfl) ?_
            refine J_weak [(1, _), (2, _), (31, _), (2001, _)] ⟨rfl, rfl, rfl, rfl, trivial⟩ ?_
            refine J_condT rfl ?_
            refine J_seq ?_
            refine JR.start ?_
            refine JR.run rfl rfl (r_assign rfl rfl rfl trivial) ?_
            refine JR.done [] (by kernel_rfl) rfl (by kernel_rfl) ?_
            refine J_weak [(1, _), (2, _), (2001, _)] ⟨rfl, rfl, rfl, trivial⟩ ?_
            refine J_ret ?_
            refine ⟨.inl rfl, _, rfl, .ofB (Bool.eq_false_iff.2 fun e => ?_), trivial⟩
            rw [mRight_eq] at e
            simp only [Bool.and_eq_true, decide_eq_true_eq, Bool.or_eq_true] at e
            omega
          · intro h31
            replace h31 := of_decide_eq_true (nF h31)
            refine JR.done [] (by kernel_rfl) rfl (by kernel_rfl) ?_
            refine J_weak [(1, _), (2, _), (31, _), (2001, _)] ⟨rfl, rfl, rfl, rfl, trivial⟩ ?_
            refine J_condF rfl ?_
            refine J_skip ?_
            refine J_seq ?_
            refine J_seq ?_
            refine JR.start ?_
            refine JR.run rfl rfl (r_fieldAddr (off := 2) (m := 1) rfl rfl (by kernel_rfl) rfl) ?_
            refine JR.run rfl rfl (r_load rfl rfl (by kernel_rfl) rfl rfl rfl) ?_
            refine JR.run rfl rfl (r_len rfl rfl (by kernel_rfl) rfl) ?_
            refine JR.run rfl rfl (r_move rfl rfl rfl trivial) ?_
            refine JR.done [] (by kernel_rfl) rfl (by kernel_rfl) ?_
            refine J_weak [(2, _), (33, _), (34, _), (35, _)] ⟨rfl, rfl, rfl, rfl, trivial⟩ ?_
            refine J_block ?_
            refine J_loopF (α := { i : Nat // i ≤ t.kids.length ∧ mRights t.kids = mRights (t.kids.drop i) }) (fun p => [(35, .c (.lit (.int .i64 (p.1 : Int))))]) [(2, _), (33, _), (34, _)] (fun p => t.kids.length - p.1) ⟨0, Nat.zero_le _, rfl⟩ ⟨rfl, rfl, rfl, rfl, trivial⟩ ?_
            rintro ⟨i, hi, hI⟩
            dsimp only
            refine J_seq ?_
            refine JR.start ?_
            refine JR.runB rfl rfl (r_ltI rfl rfl rfl rfl) ?_ ?_
            · intro h36
              replace h36 := of_decide_eq_true h36
              obtain ⟨x, hx⟩ := get_some (l := t.kids) (i := i) (by omega)
              have hxs := Ty.kid_lt' hx
              refine JR.done [] (by kernel_rfl) rfl (by kernel_rfl) ?_
              refine J_weak [(2, _), (33, _), (34, _), (35, _), (36, _)] ⟨rfl, rfl, rfl, rfl, rfl, trivial⟩ ?_
              refine J_seq ?_
              refine J_condT rfl ?_
              refine J_skip ?_
              refine J_seq ?_
              refine J_block ?_
              refine J_seq ?_
              refine JR.start ?_
              refine JR.run rfl rfl (r_indexAddr (e := 27) (sz := 3) rfl rfl (by kernel_rfl) rfl rfl (by omega) (tysD_at hx)) ?_
              refine JR.run rfl rfl (r_loadElA (m := 3) rfl rfl (by kernel_rfl) rfl rfl rfl) ?_
              refine JR.run rfl rfl (r_alloc (x := 2005) (zs := [.int .i64 0, .int .i64 0, .slice none 0 0]) [.lit (.int .i64 0), .lit (.int .i64 0), .sl 3 []] rfl rfl rfl (by kernel_rfl) ⟨.refl _, .refl _, .nil _, trivial⟩) ?_
              refine JR.run rfl rfl (r_storeA rfl rfl (by kernel_rfl) rfl rfl rfl rfl rfl) ?_
              refine JR.done [] (by kernel_rfl) rfl (by kernel_rfl) ?_
              refine J_weak [(2, _), (5, _), (33, _), (34, _), (35, _), (36, _), (37, _), (38, _), (2005, _)] ⟨rfl, rfl, rfl, rfl, rfl, rfl, rfl, rfl, rfl, trivial⟩ ?_
              refine J_seq ?_
              refine JR.start ?_
              refine JR.run rfl rfl (r_loadA (m := 3) (us := _) rfl rfl (by kernel_rfl) rfl rfl rfl rfl) ?_
              refine JR.runC rfl rfl (r_call (kTypRight m x (by omega) (by omega)) rfl rfl rfl trivial (by kernel_rfl)) rfl ?_ ?_
              · intro h40
                refine JR.run rfl rfl (r_not rfl rfl rfl) ?_
                refine JR.done [] (by kernel_rfl) rfl (by kernel_rfl) ?_
                refine J_weak [(2, _), (5, _), (33, _), (34, _), (35, _), (36, _), (37, _), (38, _), (39, _), (40, _), (41, _), (2005, _)] ⟨rfl, rfl, rfl, rfl, rfl, rfl, rfl, rfl, rfl, rfl, rfl, rfl, trivial⟩ ?_
                refine J_condF rfl ?_
                refine J_skip ?_
                refine JR.start ?_
                refine JR.run rfl rfl (r_addI rfl rfl rfl rfl (by omega)) ?_
                refine JR.run rfl rfl (r_move rfl rfl rfl trivial) ?_
                refine JR.done [] (by kernel_rfl) rfl (by kernel_rfl) ?_
                refine ⟨⟨i + 1, by omega, by rw [hI, drop_get hx, mRights, h40, Bool.true_and]⟩, by simp only; omega, rfl, rfl, rfl, rfl, trivial⟩
              · intro h40
                refine JR.run rfl rfl (r_not rfl rfl rfl) ?_
                refine JR.done [] (by kernel_rfl) rfl (by kernel_rfl) ?_
                refine J_weak [(2, _), (5, _), (33, _), (34, _), (35, _), (36, _), (37, _), (38, _), (39, _), (40, _), (41, _), (2005, _)] ⟨rfl, rfl, rfl, rfl, rfl, rfl, rfl, rfl, rfl, rfl, rfl, rfl, trivial⟩ ?_
                refine J_condT rfl ?_
                refine J_seq ?_
                refine JR.start ?_
                refine JR.run rfl rfl (r_assign rfl rfl rfl trivial) ?_
                refine JR.done [] (by kernel_rfl) rfl (by kernel_rfl) ?_
                refine J_weak [(2, _), (5, _), (33, _), (34, _), (35, _), (36, _), (37, _), (38, _), (39, _), (40, _), (41, _), (2005, _)] ⟨rfl, rfl, rfl, rfl, rfl, rfl, rfl, rfl, rfl, rfl, rfl, rfl, trivial⟩ ?_
                refine J_ret ?_
                refine ⟨.inl rfl, _, rfl, .ofB (Bool.eq_false_iff.2 fun e => ?_), trivial⟩
                rw [mRight_eq, hI, drop_get hx, mRights, h40, Bool.false_and, Bool.and_false] at e
                cases e
            · intro h36
              replace h36 := of_decide_eq_false h36
              refine JR.done [] (by kernel_rfl) rfl (by kernel_rfl) ?_
              refine J_weak [(2, _), (33, _), (34, _), (35, _), (36, _)] ⟨rfl, rfl, rfl, rfl, rfl, trivial⟩ ?_
              refine J_seq ?_
              refine J_condF rfl ?_
              refine J_exit ?_
              refine J_seq ?_
              refine JR.start ?_
              refine JR.run rfl rfl (r_assign rfl rfl rfl trivial) ?_
              refine JR.done [] (by kernel_rfl) rfl (by kernel_rfl) ?_
              refine J_weak [(2, _)] ⟨rfl, trivial⟩ ?_
              refine J_ret ?_
              refine ⟨.inl rfl, _, rfl, .ofB ?_, trivial⟩
              rw [mRight_eq, hI, List.drop_eq_nil_of_le (by omega), mRights, Bool.and_true]
              simp only [Bool.and_eq_true, decide_eq_true_eq, Bool.or_eq_true]
              omega

theorem kCheck (t : Ty) (h : t.size ≤ 1000000000) : Con Try.prog 50 [.agg (tyE t)] [] (.c (.lit (.int .i64 (if mRight t then 0 else 1)))) [] := by
  refine con_intro rfl rfl (by kernel_rfl) (by kernel_rfl) ?_
  refine J_seq ?_
  refine JR.start ?_
  refine JR.run rfl rfl (r_boxA (x := 2001) rfl rfl rfl rfl) ?_
  refine JR.run rfl rfl (r_assign rfl rfl rfl trivial) ?_
  refine JR.done [] (by kernel_rfl) rfl (by kernel_rfl) ?_
  refine J_weak [(1, _), (2, _), (2001, _)] ⟨rfl, rfl, rfl, trivial⟩ ?_
  refine J_seq ?_
  refine J_seq ?_
  refine JR.start ?_
  refine JR.run rfl rfl (r_loadA (m := 3) (us := _) rfl rfl (by kernel_rfl) rfl rfl rfl rfl) ?_
  refine JR.runC rfl rfl (r_call (kTypRight t.size t h (Nat.le_refl _)) rfl rfl rfl trivial (by kernel_rfl)) rfl ?_ ?_
  · intro h4
    refine JR.run rfl rfl (r_not rfl rfl rfl) ?_
    refine JR.done [] (by kernel_rfl) rfl (by kernel_rfl) ?_
    refine J_weak [(2, _), (5, _)] ⟨rfl, rfl, trivial⟩ ?_
    refine J_condF rfl ?_
    refine J_skip ?_
    refine J_seq ?_
    refine JR.start ?_
    refine JR.run rfl rfl (r_assign rfl rfl rfl trivial) ?_
    refine JR.done [] (by kernel_rfl) rfl (by kernel_rfl) ?_
    refine J_weak [(2, _)] ⟨rfl, trivial⟩ ?_
    refine J_ret ?_
    exact ⟨.inl rfl, _, rfl, .ofI (by rw [h4]; rfl), trivial⟩
  · intro h4
    refine JR.run rfl rfl (r_not rfl rfl rfl) ?_
    refine JR.done [] (by kernel_rfl) rfl (by kernel_rfl) ?_
    refine J_weak [(2, _), (5, _)] ⟨rfl, rfl, trivial⟩ ?_
    refine J_condT rfl ?_
    refine J_seq ?_
    refine JR.start ?_
    refine JR.run rfl rfl (r_assign rfl rfl rfl trivial) ?_
    refine JR.done [] (by kernel_rfl) rfl (by kernel_rfl) ?_
    refine J_weak [(2, _)] ⟨rfl, trivial⟩ ?_
    refine J_ret ?_
    exact ⟨.inl rfl, _, rfl, .ofI (by rw [h4]; rfl), trivial⟩

end Go.Proofs.Ytlagglkpbnbmeaa
