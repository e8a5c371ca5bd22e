/- The walk of the law NoteUnlike. -/
import Derived.Test.YtoadmjnaakbljaaDoorNt3
import Derived.Test.YtoadmjnaakbljaaDoorPU
namespace Go.Proofs.YtoadmjnaakbljaaDoor
open Go Go.RowKit
set_option maxRecDepth 100000
set_option linter.unusedVariables false

theorem lUnlike (a b : Ty) : Con Tryd.prog 5 [.agg (tyE a), .agg (tyE b)] [] (.c (.lit (.bool true))) [] := by
  have hH := kHeavyE [a, b] (by simp)
  refine con_intro rfl rfl (by kernel_rfl) (by kernel_rfl) ?_
  refine J_seq ?_
  refine JR.start ?_
  refine JR.run rfl rfl (r_boxA (x := 2002) rfl rfl rfl rfl) ?_
  refine JR.run rfl rfl (r_boxA (x := 2003) rfl rfl rfl rfl) ?_
  refine JR.run rfl rfl (r_assign rfl rfl rfl trivial) ?_
  refine JR.done [] (by kernel_rfl) rfl (by kernel_rfl) ?_
  refine J_weak [(2, _), (3, _), (4, _), (2002, _), (2003, _)] ⟨rfl, rfl, rfl, rfl, rfl, trivial⟩ ?_
  refine J_seq ?_
  refine J_seq ?_
  refine JR.start ?_
  refine JR.run rfl rfl (r_loadA (m := 3) (us := _) rfl rfl (by kernel_rfl) rfl rfl rfl rfl) ?_
  refine JR.run rfl rfl (r_loadA (m := 3) (us := _) rfl rfl (by kernel_rfl) rfl rfl rfl rfl) ?_
  refine JR.run rfl rfl (r_buildSlice (e := 24) (sz := 3) (zs := [.int .i64 0, .int .i64 0, .slice none 0 0]) ([tyE a, tyE b]) rfl rfl (by kernel_rfl) (by kernel_rfl) rfl rfl rfl rfl) ?_
  refine JR.runC rfl rfl (r_call (hH) rfl rfl rfl trivial (by kernel_rfl)) rfl ?_ ?_
  · intro h12
    refine JR.run rfl rfl (r_move rfl rfl rfl trivial) ?_
    refine JR.skip rfl rfl ?_
    refine JR.skip rfl rfl ?_
    refine JR.skip rfl rfl ?_
    refine JR.run rfl rfl (r_pickT rfl rfl rfl rfl trivial) ?_
    refine JR.run rfl rfl (r_move rfl rfl rfl trivial) ?_
    refine JR.skip rfl rfl ?_
    refine JR.skip rfl rfl ?_
    refine JR.skip rfl rfl ?_
    refine JR.run rfl rfl (r_pickT rfl rfl rfl rfl trivial) ?_
    refine JR.done [] (by kernel_rfl) rfl (by kernel_rfl) ?_
    refine J_weak [(2, _), (3, _), (4, _), (22, _), (2002, _), (2003, _)] ⟨rfl, rfl, rfl, rfl, rfl, rfl, trivial⟩ ?_
    refine J_condT rfl ?_
    refine J_seq ?_
    refine JR.start ?_
    refine JR.run rfl rfl (r_assign rfl rfl rfl trivial) ?_
    refine JR.done [] (by kernel_rfl) rfl (by kernel_rfl) ?_
    refine J_weak [(2, _), (3, _), (4, _), (2002, _), (2003, _)] ⟨rfl, rfl, rfl, rfl, rfl, trivial⟩ ?_
    refine J_ret ?_
    exact ⟨.inl rfl, _, rfl, .refl _, trivial⟩
  · intro h12
    have hl1 := mCnt_le a 0
    have hl2 := mCnt_le b (mCnt a 0)
    replace h12 : mCnt b (mCnt a 0) ≤ 600 := Nat.le_of_not_lt (of_decide_eq_false h12)
    have s1 := mCnt_light a 0 (by omega)
    have s2 := mCnt_light b (mCnt a 0) h12
    refine JR.run rfl rfl (r_move rfl rfl rfl trivial) ?_
    refine JR.run rfl rfl (r_loadA (m := 3) (us := _) rfl rfl (by kernel_rfl) rfl rfl rfl rfl) ?_
    refine JR.runC rfl rfl (r_call (kRight a.size a (by omega) (Nat.le_refl _)) rfl rfl rfl trivial (by kernel_rfl)) rfl ?_ ?_
    · intro h15
      refine JR.run rfl rfl (r_not rfl rfl rfl) ?_
      refine JR.run rfl rfl (r_pickF rfl rfl rfl rfl trivial) ?_
      refine JR.run rfl rfl (r_move rfl rfl rfl trivial) ?_
      refine JR.run rfl rfl (r_loadA (m := 3) (us := _) rfl rfl (by kernel_rfl) rfl rfl rfl rfl) ?_
      refine JR.runC rfl rfl (r_call (kRight b.size b (by omega) (Nat.le_refl _)) rfl rfl rfl trivial (by kernel_rfl)) rfl ?_ ?_
      · intro h20
        refine JR.run rfl rfl (r_not rfl rfl rfl) ?_
        refine JR.run rfl rfl (r_pickF rfl rfl rfl rfl trivial) ?_
        refine JR.done [] (by kernel_rfl) rfl (by kernel_rfl) ?_
        refine J_weak [(2, _), (3, _), (4, _), (22, _), (2002, _), (2003, _)] ⟨rfl, rfl, rfl, rfl, rfl, rfl, trivial⟩ ?_
        refine J_condF rfl ?_
        refine J_skip ?_
        refine J_seq ?_
        refine JR.start ?_
        refine JR.run rfl rfl (r_loadA (m := 3) (us := _) rfl rfl (by kernel_rfl) rfl rfl rfl rfl) ?_
        refine JR.run rfl rfl (r_call (kTextR a (by omega) h15) rfl rfl rfl trivial (by kernel_rfl)) ?_
        refine JR.run rfl rfl (r_move rfl rfl rfl trivial) ?_
        refine JR.run rfl rfl (r_extract rfl rfl rfl rfl rfl) ?_
        refine JR.run rfl rfl (r_extract rfl rfl rfl rfl rfl) ?_
        refine JR.run rfl rfl (r_assign rfl rfl rfl trivial) ?_
        refine JR.run rfl rfl (r_assign rfl rfl rfl trivial) ?_
        refine JR.done [] (by kernel_rfl) rfl (by kernel_rfl) ?_
        refine J_weak [(2, _), (3, _), (4, _), (5, _), (6, _), (2002, _), (2003, _)] ⟨rfl, rfl, rfl, rfl, rfl, rfl, rfl, trivial⟩ ?_
        refine J_seq ?_
        refine JR.start ?_
        refine JR.run rfl rfl (r_loadA (m := 3) (us := _) rfl rfl (by kernel_rfl) rfl rfl rfl rfl) ?_
        refine JR.run rfl rfl (r_call (kTextR b (by omega) h20) rfl rfl rfl trivial (by kernel_rfl)) ?_
        refine JR.run rfl rfl (r_move rfl rfl rfl trivial) ?_
        refine JR.run rfl rfl (r_extract rfl rfl rfl rfl rfl) ?_
        refine JR.run rfl rfl (r_extract rfl rfl rfl rfl rfl) ?_
        refine JR.run rfl rfl (r_assign rfl rfl rfl trivial) ?_
        refine JR.run rfl rfl (r_assign rfl rfl rfl trivial) ?_
        refine JR.done [] (by kernel_rfl) rfl (by kernel_rfl) ?_
        refine J_weak [(2, _), (3, _), (4, _), (5, _), (6, _), (7, _), (8, _), (2002, _), (2003, _)] ⟨rfl, rfl, rfl, rfl, rfl, rfl, rfl, rfl, rfl, trivial⟩ ?_
        refine J_seq ?_
        refine JR.start ?_
        refine JR.run rfl rfl (r_move rfl rfl rfl trivial) ?_
        refine JR.run rfl rfl (r_eqI rfl rfl rfl rfl) ?_
        refine JR.run rfl rfl (r_move rfl rfl rfl trivial) ?_
        refine JR.run rfl rfl (r_move rfl rfl rfl trivial) ?_
        refine JR.run rfl rfl (r_eqI rfl rfl rfl rfl) ?_
        refine JR.run rfl rfl (r_pickT rfl rfl rfl rfl trivial) ?_
        refine JR.run rfl rfl (r_move rfl rfl rfl trivial) ?_
        refine JR.run rfl rfl (r_move rfl rfl rfl trivial) ?_
        refine JR.run rfl rfl (r_move rfl rfl rfl trivial) ?_
        refine JR.runB rfl rfl (r_eqS rfl rfl rfl rfl) ?_ ?_
        · intro h42
          refine JR.run rfl rfl (r_loadA (m := 3) (us := _) rfl rfl (by kernel_rfl) rfl rfl rfl rfl) ?_
          refine JR.run rfl rfl (r_loadA (m := 3) (us := _) rfl rfl (by kernel_rfl) rfl rfl rfl rfl) ?_
          refine JR.runC rfl rfl (r_call (kSame a.size a b (by omega) (Nat.le_refl _)) rfl rfl rfl trivial (by kernel_rfl)) rfl ?_ ?_
          · intro h45
            refine JR.run rfl rfl (r_eqB rfl rfl (by kernel_rfl) rfl rfl) ?_
            refine JR.run rfl rfl (r_pickT rfl rfl rfl rfl trivial) ?_
            refine JR.run rfl rfl (r_move rfl rfl rfl trivial) ?_
            refine JR.run rfl rfl (r_call (kWakes) rfl rfl rfl trivial (by kernel_rfl)) ?_
            refine JR.run rfl rfl (r_pickT rfl rfl rfl rfl trivial) ?_
            refine JR.run rfl rfl (r_assign rfl rfl rfl trivial) ?_
            refine JR.done [] (by kernel_rfl) rfl (by kernel_rfl) ?_
            refine J_weak [(4, _)] ⟨rfl, trivial⟩ ?_
            refine J_ret ?_
            exact ⟨.inl rfl, _, rfl, .refl _, trivial⟩
          · intro h45
            refine JR.run rfl rfl (r_eqB rfl rfl (by kernel_rfl) rfl rfl) ?_
            refine JR.run rfl rfl (r_pickT rfl rfl rfl rfl trivial) ?_
            refine JR.run rfl rfl (r_move rfl rfl rfl trivial) ?_
            refine JR.skip rfl rfl ?_
            refine JR.run rfl rfl (r_pickF rfl rfl rfl rfl trivial) ?_
            refine JR.run rfl rfl (r_assign rfl rfl rfl trivial) ?_
            refine JR.done [] (by kernel_rfl) rfl (by kernel_rfl) ?_
            refine J_weak [(4, _)] ⟨rfl, trivial⟩ ?_
            refine J_ret ?_
            exact absurd (note_unlike h15 h20) (by rw [h42, h45]; decide)
        · intro h42
          refine JR.run rfl rfl (r_loadA (m := 3) (us := _) rfl rfl (by kernel_rfl) rfl rfl rfl rfl) ?_
          refine JR.run rfl rfl (r_loadA (m := 3) (us := _) rfl rfl (by kernel_rfl) rfl rfl rfl rfl) ?_
          refine JR.runC rfl rfl (r_call (kSame a.size a b (by omega) (Nat.le_refl _)) rfl rfl rfl trivial (by kernel_rfl)) rfl ?_ ?_
          · intro h45
            refine JR.run rfl rfl (r_eqB rfl rfl (by kernel_rfl) rfl rfl) ?_
            refine JR.run rfl rfl (r_pickT rfl rfl rfl rfl trivial) ?_
            refine JR.run rfl rfl (r_move rfl rfl rfl trivial) ?_
            refine JR.skip rfl rfl ?_
            refine JR.run rfl rfl (r_pickF rfl rfl rfl rfl trivial) ?_
            refine JR.run rfl rfl (r_assign rfl rfl rfl trivial) ?_
            refine JR.done [] (by kernel_rfl) rfl (by kernel_rfl) ?_
            refine J_weak [(4, _)] ⟨rfl, trivial⟩ ?_
            refine J_ret ?_
            exact absurd (note_unlike h15 h20) (by rw [h42, h45]; decide)
          · intro h45
            refine JR.run rfl rfl (r_eqB rfl rfl (by kernel_rfl) rfl rfl) ?_
            refine JR.run rfl rfl (r_pickT rfl rfl rfl rfl trivial) ?_
            refine JR.run rfl rfl (r_move rfl rfl rfl trivial) ?_
            refine JR.run rfl rfl (r_call (kWakes) rfl rfl rfl trivial (by kernel_rfl)) ?_
            refine JR.run rfl rfl (r_pickT rfl rfl rfl rfl trivial) ?_
            refine JR.run rfl rfl (r_assign rfl rfl rfl trivial) ?_
            refine JR.done [] (by kernel_rfl) rfl (by kernel_rfl) ?_
            refine J_weak [(4, _)] ⟨rfl, trivial⟩ ?_
            refine J_ret ?_
            exact ⟨.inl rfl, _, rfl, .refl _, trivial⟩
      · intro h20
        refine JR.run rfl rfl (r_not rfl rfl rfl) ?_
        refine JR.run rfl rfl (r_pickF rfl rfl rfl rfl trivial) ?_
        refine JR.done [] (by kernel_rfl) rfl (by kernel_rfl) ?_
        refine J_weak [(2, _), (3, _), (4, _), (22, _), (2002, _), (2003, _)] ⟨rfl, rfl, rfl, rfl, rfl, rfl, trivial⟩ ?_
        refine J_condT rfl ?_
        refine J_seq ?_
        refine JR.start ?_
        refine JR.run rfl rfl (r_assign rfl rfl rfl trivial) ?_
        refine JR.done [] (by kernel_rfl) rfl (by kernel_rfl) ?_
        refine J_weak [(2, _), (3, _), (4, _), (2002, _), (2003, _)] ⟨rfl, rfl, rfl, rfl, rfl, trivial⟩ ?_
        refine J_ret ?_
        exact ⟨.inl rfl, _, rfl, .refl _, trivial⟩
    · intro h15
      refine JR.run rfl rfl (r_not rfl rfl rfl) ?_
      refine JR.run rfl rfl (r_pickF rfl rfl rfl rfl trivial) ?_
      refine JR.run rfl rfl (r_move rfl rfl rfl trivial) ?_
      refine JR.skip rfl rfl ?_
      refine JR.skip rfl rfl ?_
      refine JR.skip rfl rfl ?_
      refine JR.run rfl rfl (r_pickT rfl rfl rfl rfl trivial) ?_
      refine JR.done [] (by kernel_rfl) rfl (by kernel_rfl) ?_
      refine J_weak [(2, _), (3, _), (4, _), (22, _), (2002, _), (2003, _)] ⟨rfl, rfl, rfl, rfl, rfl, rfl, trivial⟩ ?_
      refine J_condT rfl ?_
      refine J_seq ?_
      refine JR.start ?_
      refine JR.run rfl rfl (r_assign rfl rfl rfl trivial) ?_
      refine JR.done [] (by kernel_rfl) rfl (by kernel_rfl) ?_
      refine J_weak [(2, _), (3, _), (4, _), (2002, _), (2003, _)] ⟨rfl, rfl, rfl, rfl, rfl, trivial⟩ ?_
      refine J_ret ?_
      exact ⟨.inl rfl, _, rfl, .refl _, trivial⟩

end Go.Proofs.YtoadmjnaakbljaaDoor
