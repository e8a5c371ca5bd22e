/- A type copied is that type. -/
import Derived.Test.YtoadmjnaakbljaaDoorNt1
import Derived.Test.YtoadmjnaakbljaaDoorSH
namespace Go.Proofs.YtoadmjnaakbljaaDoor
open Go Go.RowKit
set_option maxRecDepth 100000
set_option linter.unusedVariables false

theorem take_snoc {α : Type} {l : List α} {i : Nat} {x : α} (h : l[i]? = some x) : l.take i ++ [x] = l.take (i + 1) := by
  have hi : i < l.length := by
    rcases Nat.lt_or_ge i l.length with h1 | h1
    · exact h1
    · rw [List.getElem?_eq_none h1] at h; cases h
  rw [List.take_add_one, h]; rfl

theorem kKeepType : ∀ (m : Nat) (t : Ty), t.size ≤ m → m ≤ 100000 → Con Tryd.prog 10 [.agg (tyE t)] [] (.agg (tyE t)) []
  | 0, t, h, _ => absurd t.size_pos (by omega)
  | m + 1, t, h, hm => by
    have hk := t.kids_lt
    have hl := tysD_len (t.kids)
    refine con_intro rfl rfl (by kernel_rfl) (by kernel_rfl) ?_
    refine J_seq ?_
    refine JR.start ?_
    refine JR.run rfl rfl (r_boxA (x := 2001) rfl rfl rfl rfl) ?_
    refine JR.run rfl rfl (r_alloc (x := 2002) (zs := [.int .i64 0, .int .i64 0, .slice none 0 0]) [.lit (.int .i64 0), .lit (.int .i64 0), .sl 3 []] rfl rfl rfl (by kernel_rfl) ⟨.refl _, .refl _, .nil _, trivial⟩) ?_
    refine JR.done [] (by kernel_rfl) rfl (by kernel_rfl) ?_
    refine J_weak [(1, _), (2, _), (2001, _), (2002, _)] ⟨rfl, rfl, rfl, rfl, trivial⟩ ?_
    refine J_seq ?_
    refine JR.start ?_
    refine JR.run rfl rfl (r_fieldAddr (off := 0) (m := 1) rfl rfl (by kernel_rfl) rfl) ?_
    refine JR.run rfl rfl (r_load rfl rfl (by kernel_rfl) rfl rfl rfl) ?_
    refine JR.run rfl rfl (r_fieldAddr (off := 1) (m := 1) rfl rfl (by kernel_rfl) rfl) ?_
    refine JR.run rfl rfl (r_load rfl rfl (by kernel_rfl) rfl rfl rfl) ?_
    refine JR.run rfl rfl (r_build (zs := [.int .i64 0, .int .i64 0, .slice none 0 0]) (qs := [(0, 1), (1, 1), (2, 1)]) [.lit (.int .i64 0), .lit (.int .i64 0), .lit (.slice none 0 0)] rfl rfl (by kernel_rfl) (by kernel_rfl) ⟨.refl _, .refl _, .refl _, trivial⟩ rfl rfl) ?_
    refine JR.run rfl rfl (r_alloc (x := 2003) (zs := [.int .i64 0, .int .i64 0, .slice none 0 0]) [.lit (.int .i64 0), .lit (.int .i64 0), .sl 3 []] rfl rfl rfl (by kernel_rfl) ⟨.refl _, .refl _, .nil _, trivial⟩) ?_
    refine JR.run rfl rfl (r_storeA rfl rfl (by kernel_rfl) rfl rfl rfl rfl rfl) ?_
    refine JR.done [] (by kernel_rfl) rfl (by kernel_rfl) ?_
    refine J_weak [(1, _), (2, _), (3, _), (2001, _), (2002, _), (2003, _)] ⟨rfl, rfl, rfl, rfl, rfl, rfl, trivial⟩ ?_
    refine J_seq ?_
    refine J_seq ?_
    refine J_turn (t_nilGh 2003 2 1050 24 3 rfl rfl (by kernel_rfl)) (by kernel_rfl) ?_
    refine JR.start ?_
    refine JR.run rfl rfl (r_assign rfl rfl rfl trivial) ?_
    refine JR.done [] (by kernel_rfl) rfl (by kernel_rfl) ?_
    refine J_weak [(1, _), (2, _), (3, _), (4, _), (1050, _), (2001, _), (2002, _), (2003, _)] ⟨rfl, rfl, rfl, rfl, rfl, rfl, rfl, rfl, trivial⟩ ?_
    refine J_block ?_
    refine J_loopF (α := { i : Nat // i ≤ t.kids.length }) (fun p => [(4, .c (.lit (.int .i64 (p.1 : Int)))), (1050, .own 24 3 ((tysD t.kids).take p.1))]) [(1, _), (2, _), (3, _), (2001, _), (2002, _), (2003, _)] (fun p => t.kids.length - p.1) ⟨0, Nat.zero_le _⟩ ⟨rfl, rfl, rfl, rfl, rfl, rfl, rfl, rfl, trivial⟩ ?_
    rintro ⟨i, hi⟩
    dsimp only
    refine J_seq ?_
    refine J_seq ?_
    refine JR.start ?_
    refine JR.run rfl rfl (r_move rfl rfl rfl trivial) ?_
    refine JR.run rfl rfl (r_fieldAddr (off := 2) (m := 1) rfl rfl (by kernel_rfl) rfl) ?_
    refine JR.run rfl rfl (r_load rfl rfl (by kernel_rfl) rfl rfl rfl) ?_
    refine JR.run rfl rfl (r_len rfl rfl (by kernel_rfl) rfl) ?_
    refine JR.runB rfl rfl (r_ltI rfl rfl rfl rfl) ?_ ?_
    · intro h14
      replace h14 := of_decide_eq_true h14
      obtain ⟨x, hx⟩ := get_some (l := t.kids) (i := i) (by omega)
      have hxs := Ty.kid_lt' hx
      refine JR.done [] (by kernel_rfl) rfl (by kernel_rfl) ?_
      refine J_weak [(1, _), (2, _), (3, _), (4, _), (10, _), (11, _), (12, _), (13, _), (14, _), (1050, _), (2001, _), (2002, _), (2003, _)] ⟨rfl, rfl, rfl, rfl, rfl, rfl, rfl, rfl, rfl, rfl, rfl, rfl, rfl, trivial⟩ ?_
      refine J_condT rfl ?_
      refine J_skip ?_
      refine J_seq ?_
      refine J_block ?_
      refine JR.start ?_
      refine JR.run rfl rfl (r_fieldAddr (off := 2) (m := 1) rfl rfl (by kernel_rfl) rfl) ?_
      refine JR.run rfl rfl (r_loadOwn rfl rfl (by kernel_rfl) rfl rfl rfl rfl) ?_
      refine JR.run rfl rfl (r_fieldAddr (off := 2) (m := 1) rfl rfl (by kernel_rfl) rfl) ?_
      refine JR.run rfl rfl (r_load rfl rfl (by kernel_rfl) rfl rfl rfl) ?_
      refine JR.run rfl rfl (r_move rfl rfl rfl trivial) ?_
      refine JR.run rfl rfl (r_indexAddr (e := 24) (sz := 3) rfl rfl (by kernel_rfl) rfl rfl (by omega) (tysD_at hx)) ?_
      refine JR.run rfl rfl (r_loadElA (m := 3) rfl rfl (by kernel_rfl) rfl rfl rfl) ?_
      refine JR.run rfl rfl (r_call (kKeepType m x (by omega) (by omega)) rfl rfl rfl trivial (by kernel_rfl)) ?_
      refine JR.run rfl rfl (r_buildSlice (e := 24) (sz := 3) (zs := [.int .i64 0, .int .i64 0, .slice none 0 0]) ([tyE x]) rfl rfl (by kernel_rfl) (by kernel_rfl) rfl rfl rfl rfl) ?_
      refine JR.run rfl rfl (r_append (e := 24) (sz := 3) (b := 40) rfl rfl (by kernel_rfl) rfl rfl (by simp only [List.length_take, List.length_cons, List.length_nil]; omega) (by simp only [List.length_take, List.length_cons, List.length_nil]; omega)) ?_
      refine JR.run rfl rfl (r_fieldAddr (off := 2) (m := 1) rfl rfl (by kernel_rfl) rfl) ?_
      refine JR.run rfl rfl (r_storeOwn 1050 rfl rfl (by kernel_rfl) rfl rfl rfl rfl (by kernel_rfl)) ?_
      refine JR.done [[], [0], [], [2], [], [2, 3, 4], [2, 3, 4, 5], [2, 3, 4, 5, 6], [2, 3, 4, 5, 6, 7], [0, 1, 2, 3, 4, 5, 6, 7, 8], [0, 1, 2, 3, 4, 5, 6, 7, 8, 9], [0, 1, 2, 3, 4, 5, 6, 7, 8, 9, 10]] (by kernel_rfl) rfl (by kernel_rfl) ?_
      refine J_weak [(1, _), (2, _), (3, _), (4, _), (10, _), (11, _), (12, _), (13, _), (14, _), (17, _), (19, _), (20, _), (21, _), (22, _), (23, _), (24, _), (25, _), (27, _), (1050, _), (2001, _), (2002, _), (2003, _)] ⟨rfl, rfl, rfl, rfl, rfl, rfl, rfl, rfl, rfl, rfl, rfl, rfl, rfl, rfl, rfl, rfl, rfl, rfl, rfl, rfl, rfl, rfl, trivial⟩ ?_
      refine JR.start ?_
      refine JR.run rfl rfl (r_move rfl rfl rfl trivial) ?_
      refine JR.run rfl rfl (r_addI rfl rfl rfl rfl (by omega)) ?_
      refine JR.run rfl rfl (r_assign rfl rfl rfl trivial) ?_
      refine JR.done [] (by kernel_rfl) rfl (by kernel_rfl) ?_
      have hsn : (tysD t.kids).take i ++ [tyE x] = (tysD t.kids).take (i + 1) := take_snoc (tysD_at hx)
      refine ⟨⟨i + 1, by omega⟩, by simp only; omega, rfl, ?_, rfl, rfl, rfl, rfl, rfl, rfl, trivial⟩
      show some (F.own _ _ ((tysD t.kids).take i ++ [tyE x])) = some (F.own _ _ ((tysD t.kids).take (i + 1)))
      rw [hsn]
    · intro h14
      replace h14 := of_decide_eq_false h14
      refine JR.done [] (by kernel_rfl) rfl (by kernel_rfl) ?_
      refine J_weak [(1, _), (2, _), (3, _), (4, _), (10, _), (11, _), (12, _), (13, _), (14, _), (1050, _), (2001, _), (2002, _), (2003, _)] ⟨rfl, rfl, rfl, rfl, rfl, rfl, rfl, rfl, rfl, rfl, rfl, rfl, rfl, trivial⟩ ?_
      refine J_condF rfl ?_
      refine J_exit ?_
      refine J_seq ?_
      refine J_turn (t_ownC 1050 rfl) (by kernel_rfl) ?_
      refine J_turn (t_wkV 2003 [.d (.lit (.int .i64 t.kind)), .d (.lit (.int .i64 t.num)), .d (.sl 3 ((tysD t.kids).take i))] rfl ⟨.refl _, .refl _, .gh rfl, trivial⟩) (by kernel_rfl) ?_
      refine JR.start ?_
      refine JR.run rfl rfl (r_loadA (m := 3) (us := _) rfl rfl (by kernel_rfl) rfl rfl rfl rfl) ?_
      refine JR.run rfl rfl (r_storeA rfl rfl (by kernel_rfl) rfl rfl rfl rfl rfl) ?_
      refine JR.done [] (by kernel_rfl) rfl (by kernel_rfl) ?_
      refine J_weak [(2, _), (2002, _)] ⟨rfl, rfl, trivial⟩ ?_
      refine J_ret ?_
      refine ⟨.inl rfl, _, rfl, .of ?_, trivial⟩
      have e : (tysD t.kids).take i = tysD t.kids := List.take_of_length_le (by omega)
      show F.agg [_, _, .sl 3 ((tysD t.kids).take i)] = _
      rw [e]

end Go.Proofs.YtoadmjnaakbljaaDoor
