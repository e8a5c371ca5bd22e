/- Texts of types: the program's and the page's. -/
import Derived.Test.YtccdnmjijakofaaGreatDoorPX
import Derived.Test.YtccdnmjijakofaaGreatDoorNt1
import Derived.Test.YtccdnmjijakofaaGreatDoorSH
import Derived.Test.YtccdnmjijakofaaGreatDoorTX
import Derived.Test.YtccdnmjijakofaaGreatDoorWX
namespace Go.Proofs.YtccdnmjijakofaaGreatDoor
open Go Go.RowKit
set_option maxRecDepth 100000
set_option linter.unusedVariables false

theorem args_one {args : Array Value} {v : Value} (hsz : args.size = 1) (hv : args.getD 0 undef = v) : args = #[v] := by
  apply Array.ext
  · simpa using hsz
  · intro i h1 h2
    have : i = 0 := by simp at h2; omega
    subst this
    simp only [Array.getD_eq_getD_getElem?, Array.getElem?_eq_getElem h1, Option.getD_some] at hv
    rw [hv]; rfl
theorem kWordNum (n : Int) (h1 : 0 ≤ n) (h2 : n ≤ 1048576) : Con Tryz.prog 54 [.c (.lit (.int .i64 n))] [] (.c (.lit (str (mNum n)))) [] := by
  refine con_below (by simp [Flat]) trivial (by simp) fun S w args B hsz harg hS htt hB => ?_
  rw [args_one hsz (lit_val (ρ := fun _ => 0) (harg 0 _ rfl))]
  refine (wordNum_any n (by omega) (by omega) w htt.tab).mono ?_
  rintro e w' ⟨rfl, hbl⟩
  exact ⟨_, rfl, hbl, fun _ _ _ => .lit _ rfl⟩
theorem kRefNum (n : Int) (h1 : 0 ≤ n) (h2 : n ≤ 1048576) : Con Tryz.prog 48 [.c (.lit (.int .i64 n))] [] (.c (.lit (str (mNum n)))) [] := by
  refine con_below (by simp [Flat]) trivial (by simp) fun S w args B hsz harg hS htt hB => ?_
  rw [args_one hsz (lit_val (ρ := fun _ => 0) (harg 0 _ rfl))]
  refine (refNum_any n (by omega) (by omega) w).mono ?_
  rintro e w' ⟨rfl, rfl⟩
  exact ⟨_, rfl, Below.refl _ _, fun _ _ _ => .lit _ rfl⟩

theorem kidsE {t : Ty} (h : (tysD t.kids).length = 0) : t.kids.isEmpty = true := by
  rw [tysD_len] at h
  rw [List.eq_nil_of_length_eq_zero h]; rfl
theorem kidsN {t : Ty} (h : 0 < (tysD t.kids).length) : t.kids.isEmpty = false := by
  rw [tysD_len] at h
  cases hk : t.kids with
  | nil => rw [hk] at h; cases h
  | cons x r => rfl
abbrev byK : TypeId := 5

theorem kInnerOf (t : Ty) (h : RightTy t) (hs : t.size ≤ 100000) (hc : Con Tryz.prog 26 [.agg (tyE t)] [] (.c (.lit (str (mTxt t)))) []) : Con Tryz.prog 49 [.agg (tyE t)] [] (.c (.lit (str (mKid t)))) [] := by
  have hl := tysD_len t.kids
  have hb := mTxt_len h
  refine con_intro rfl rfl (by kernel_rfl) (by kernel_rfl) ?_
  refine J_seq ?_
  refine JR.start ?_
  refine JR.run rfl rfl (r_boxA (x := 2001) rfl rfl rfl rfl) ?_
  refine JR.run rfl rfl (r_assign rfl rfl rfl trivial) ?_
  refine JR.done [] (by kernel_rfl) rfl (by kernel_rfl) ?_
  refine J_weak [(1, _), (2, _), (2001, _)] ⟨rfl, rfl, rfl, trivial⟩ ?_
  refine J_seq ?_
  refine J_seq ?_
  refine JR.start ?_
  refine JR.run rfl rfl (r_fieldAddr (off := 2) (m := 1) rfl rfl (by kernel_rfl) rfl) ?_
  refine JR.run rfl rfl (r_load rfl rfl (by kernel_rfl) rfl rfl rfl) ?_
  refine JR.run rfl rfl (r_len rfl rfl (by kernel_rfl) rfl) ?_
  refine JR.runB rfl rfl (r_gtI rfl rfl rfl rfl) ?_ ?_
  · intro h6
    replace h6 := of_decide_eq_true h6
    refine JR.done [] (by kernel_rfl) rfl (by kernel_rfl) ?_
    refine J_weak [(1, _), (2, _), (6, _), (2001, _)] ⟨rfl, rfl, rfl, rfl, trivial⟩ ?_
    refine J_condT rfl ?_
    refine J_seq ?_
    refine JR.start ?_
    refine JR.run rfl rfl (r_loadA (m := 3) (us := _) rfl rfl (by kernel_rfl) rfl rfl rfl rfl) ?_
    refine JR.run rfl rfl (r_call (hc) rfl rfl rfl trivial (by kernel_rfl)) ?_
    refine JR.run rfl rfl (r_catS rfl rfl rfl rfl (by first | omega | (simp only [List.length_append]; omega) | (simp only [List.length_cons, List.length_nil]; omega) | (simp only [List.length_append, List.length_cons, List.length_nil]; omega) | (simp only [List.length_append, bcells_len]; omega) | (simp only [List.length_append, bcells_len, List.length_cons, List.length_nil]; omega) | (simp only [bcells_len, List.length_cons, List.length_nil]; omega))) ?_
    refine JR.run rfl rfl (r_catS rfl rfl rfl rfl (by first | omega | (simp only [List.length_append]; omega) | (simp only [List.length_cons, List.length_nil]; omega) | (simp only [List.length_append, List.length_cons, List.length_nil]; omega) | (simp only [List.length_append, bcells_len]; omega) | (simp only [List.length_append, bcells_len, List.length_cons, List.length_nil]; omega) | (simp only [bcells_len, List.length_cons, List.length_nil]; omega))) ?_
    refine JR.run rfl rfl (r_assign rfl rfl rfl trivial) ?_
    refine JR.done [] (by kernel_rfl) rfl (by kernel_rfl) ?_
    refine J_weak [(1, _), (2, _), (2001, _)] ⟨rfl, rfl, rfl, trivial⟩ ?_
    refine J_ret ?_
    refine ⟨.inl rfl, _, rfl, .ofS ?_, trivial⟩
    rw [mKid_eq, kidsN (by omega)]
    rfl
  · intro h6
    replace h6 := of_decide_eq_false h6
    refine JR.done [] (by kernel_rfl) rfl (by kernel_rfl) ?_
    refine J_weak [(1, _), (2, _), (6, _), (2001, _)] ⟨rfl, rfl, rfl, rfl, trivial⟩ ?_
    refine J_condF rfl ?_
    refine J_skip ?_
    refine J_seq ?_
    refine JR.start ?_
    refine JR.run rfl rfl (r_loadA (m := 3) (us := _) rfl rfl (by kernel_rfl) rfl rfl rfl rfl) ?_
    refine JR.run rfl rfl (r_call (hc) rfl rfl rfl trivial (by kernel_rfl)) ?_
    refine JR.run rfl rfl (r_assign rfl rfl rfl trivial) ?_
    refine JR.done [] (by kernel_rfl) rfl (by kernel_rfl) ?_
    refine J_weak [(2, _)] ⟨rfl, trivial⟩ ?_
    refine J_ret ?_
    refine ⟨.inl rfl, _, rfl, .ofS ?_, trivial⟩
    rw [mKid_eq, kidsE (by omega)]
    rfl

theorem kRefText : ∀ (m : Nat) (t : Ty), t.size ≤ m → m ≤ 100000 → RightTy t → Con Tryz.prog 26 [.agg (tyE t)] [] (.c (.lit (str (mTxt t)))) []
  | 0, t, h, _, _ => absurd t.size_pos (by omega)
  | m + 1, t, hm, hm2, h => by
    cases h with
    | int  =>
      refine con_intro rfl rfl (by kernel_rfl) (by kernel_rfl) ?_
      refine J_seq ?_
      refine JR.start ?_
      refine JR.run rfl rfl (r_boxA (x := 2001) rfl rfl rfl rfl) ?_
      refine JR.run rfl rfl (r_assign rfl rfl rfl trivial) ?_
      refine JR.done [] (by kernel_rfl) rfl (by kernel_rfl) ?_
      refine J_weak [(1, _), (2, _), (2001, _)] ⟨rfl, rfl, rfl, trivial⟩ ?_
      refine J_seq ?_
      refine J_seq ?_
      refine JR.start ?_
      refine JR.run rfl rfl (r_fieldAddr (off := 0) (m := 1) rfl rfl (by kernel_rfl) rfl) ?_
      refine JR.run rfl rfl (r_load rfl rfl (by kernel_rfl) rfl rfl rfl) ?_
      refine JR.done [] (by kernel_rfl) rfl (by kernel_rfl) ?_
      refine J_weak [(1, _), (2, _), (4, _), (2001, _)] ⟨rfl, rfl, rfl, rfl, trivial⟩ ?_
      refine J_block ?_
      refine J_seq ?_
      refine JR.start ?_
      refine JR.run rfl rfl (r_eqI rfl rfl rfl rfl) ?_
      refine JR.run rfl rfl (r_assign rfl rfl rfl trivial) ?_
      refine JR.done [] (by kernel_rfl) rfl (by kernel_rfl) ?_
      refine J_weak [(1, _), (2, _), (4, _), (5, _), (2001, _)] ⟨rfl, rfl, rfl, rfl, rfl, trivial⟩ ?_
      refine J_condT rfl ?_
      refine J_seq ?_
      refine JR.start ?_
      refine JR.run rfl rfl (r_assign rfl rfl rfl trivial) ?_
      refine JR.done [] (by kernel_rfl) rfl (by kernel_rfl) ?_
      refine J_weak [(1, _), (2, _), (2001, _)] ⟨rfl, rfl, rfl, trivial⟩ ?_
      refine J_ret ?_
      exact ⟨.inl rfl, _, rfl, .ofS (by rw [mTxt_1]; rfl), trivial⟩
    | bool  =>
      refine con_intro rfl rfl (by kernel_rfl) (by kernel_rfl) ?_
      refine J_seq ?_
      refine JR.start ?_
      refine JR.run rfl rfl (r_boxA (x := 2001) rfl rfl rfl rfl) ?_
      refine JR.run rfl rfl (r_assign rfl rfl rfl trivial) ?_
      refine JR.done [] (by kernel_rfl) rfl (by kernel_rfl) ?_
      refine J_weak [(1, _), (2, _), (2001, _)] ⟨rfl, rfl, rfl, trivial⟩ ?_
      refine J_seq ?_
      refine J_seq ?_
      refine JR.start ?_
      refine JR.run rfl rfl (r_fieldAddr (off := 0) (m := 1) rfl rfl (by kernel_rfl) rfl) ?_
      refine JR.run rfl rfl (r_load rfl rfl (by kernel_rfl) rfl rfl rfl) ?_
      refine JR.done [] (by kernel_rfl) rfl (by kernel_rfl) ?_
      refine J_weak [(1, _), (2, _), (4, _), (2001, _)] ⟨rfl, rfl, rfl, rfl, trivial⟩ ?_
      refine J_block ?_
      refine J_seq ?_
      refine JR.start ?_
      refine JR.run rfl rfl (r_eqI rfl rfl rfl rfl) ?_
      refine JR.run rfl rfl (r_assign rfl rfl rfl trivial) ?_
      refine JR.done [] (by kernel_rfl) rfl (by kernel_rfl) ?_
      refine J_weak [(1, _), (2, _), (4, _), (5, _), (2001, _)] ⟨rfl, rfl, rfl, rfl, rfl, trivial⟩ ?_
      refine J_condF rfl ?_
      refine J_seq ?_
      refine JR.start ?_
      refine JR.run rfl rfl (r_eqI rfl rfl rfl rfl) ?_
      refine JR.run rfl rfl (r_assign rfl rfl rfl trivial) ?_
      refine JR.done [] (by kernel_rfl) rfl (by kernel_rfl) ?_
      refine J_weak [(1, _), (2, _), (4, _), (7, _), (2001, _)] ⟨rfl, rfl, rfl, rfl, rfl, trivial⟩ ?_
      refine J_condT rfl ?_
      refine J_seq ?_
      refine JR.start ?_
      refine JR.run rfl rfl (r_assign rfl rfl rfl trivial) ?_
      refine JR.done [] (by kernel_rfl) rfl (by kernel_rfl) ?_
      refine J_weak [(1, _), (2, _), (2001, _)] ⟨rfl, rfl, rfl, trivial⟩ ?_
      refine J_ret ?_
      exact ⟨.inl rfl, _, rfl, .ofS (by rw [mTxt_2]; rfl), trivial⟩
    | str  =>
      refine con_intro rfl rfl (by kernel_rfl) (by kernel_rfl) ?_
      refine J_seq ?_
      refine JR.start ?_
      refine JR.run rfl rfl (r_boxA (x := 2001) rfl rfl rfl rfl) ?_
      refine JR.run rfl rfl (r_assign rfl rfl rfl trivial) ?_
      refine JR.done [] (by kernel_rfl) rfl (by kernel_rfl) ?_
      refine J_weak [(1, _), (2, _), (2001, _)] ⟨rfl, rfl, rfl, trivial⟩ ?_
      refine J_seq ?_
      refine J_seq ?_
      refine JR.start ?_
      refine JR.run rfl rfl (r_fieldAddr (off := 0) (m := 1) rfl rfl (by kernel_rfl) rfl) ?_
      refine JR.run rfl rfl (r_load rfl rfl (by kernel_rfl) rfl rfl rfl) ?_
      refine JR.done [] (by kernel_rfl) rfl (by kernel_rfl) ?_
      refine J_weak [(1, _), (2, _), (4, _), (2001, _)] ⟨rfl, rfl, rfl, rfl, trivial⟩ ?_
      refine J_block ?_
      refine J_seq ?_
      refine JR.start ?_
      refine JR.run rfl rfl (r_eqI rfl rfl rfl rfl) ?_
      refine JR.run rfl rfl (r_assign rfl rfl rfl trivial) ?_
      refine JR.done [] (by kernel_rfl) rfl (by kernel_rfl) ?_
      refine J_weak [(1, _), (2, _), (4, _), (5, _), (2001, _)] ⟨rfl, rfl, rfl, rfl, rfl, trivial⟩ ?_
      refine J_condF rfl ?_
      refine J_seq ?_
      refine JR.start ?_
      refine JR.run rfl rfl (r_eqI rfl rfl rfl rfl) ?_
      refine JR.run rfl rfl (r_assign rfl rfl rfl trivial) ?_
      refine JR.done [] (by kernel_rfl) rfl (by kernel_rfl) ?_
      refine J_weak [(1, _), (2, _), (4, _), (7, _), (2001, _)] ⟨rfl, rfl, rfl, rfl, rfl, trivial⟩ ?_
      refine J_condF rfl ?_
      refine J_seq ?_
      refine JR.start ?_
      refine JR.run rfl rfl (r_eqI rfl rfl rfl rfl) ?_
      refine JR.run rfl rfl (r_assign rfl rfl rfl trivial) ?_
      refine JR.done [] (by kernel_rfl) rfl (by kernel_rfl) ?_
      refine J_weak [(1, _), (2, _), (4, _), (9, _), (2001, _)] ⟨rfl, rfl, rfl, rfl, rfl, trivial⟩ ?_
      refine J_condT rfl ?_
      refine J_seq ?_
      refine JR.start ?_
      refine JR.run rfl rfl (r_assign rfl rfl rfl trivial) ?_
      refine JR.done [] (by kernel_rfl) rfl (by kernel_rfl) ?_
      refine J_weak [(1, _), (2, _), (2001, _)] ⟨rfl, rfl, rfl, trivial⟩ ?_
      refine J_ret ?_
      exact ⟨.inl rfl, _, rfl, .ofS (by rw [mTxt_3]; rfl), trivial⟩
    | unit  =>
      refine con_intro rfl rfl (by kernel_rfl) (by kernel_rfl) ?_
      refine J_seq ?_
      refine JR.start ?_
      refine JR.run rfl rfl (r_boxA (x := 2001) rfl rfl rfl rfl) ?_
      refine JR.run rfl rfl (r_assign rfl rfl rfl trivial) ?_
      refine JR.done [] (by kernel_rfl) rfl (by kernel_rfl) ?_
      refine J_weak [(1, _), (2, _), (2001, _)] ⟨rfl, rfl, rfl, trivial⟩ ?_
      refine J_seq ?_
      refine J_seq ?_
      refine JR.start ?_
      refine JR.run rfl rfl (r_fieldAddr (off := 0) (m := 1) rfl rfl (by kernel_rfl) rfl) ?_
      refine JR.run rfl rfl (r_load rfl rfl (by kernel_rfl) rfl rfl rfl) ?_
      refine JR.done [] (by kernel_rfl) rfl (by kernel_rfl) ?_
      refine J_weak [(1, _), (2, _), (4, _), (2001, _)] ⟨rfl, rfl, rfl, rfl, trivial⟩ ?_
      refine J_block ?_
      refine J_seq ?_
      refine JR.start ?_
      refine JR.run rfl rfl (r_eqI rfl rfl rfl rfl) ?_
      refine JR.run rfl rfl (r_assign rfl rfl rfl trivial) ?_
      refine JR.done [] (by kernel_rfl) rfl (by kernel_rfl) ?_
      refine J_weak [(1, _), (2, _), (4, _), (5, _), (2001, _)] ⟨rfl, rfl, rfl, rfl, rfl, trivial⟩ ?_
      refine J_condF rfl ?_
      refine J_seq ?_
      refine JR.start ?_
      refine JR.run rfl rfl (r_eqI rfl rfl rfl rfl) ?_
      refine JR.run rfl rfl (r_assign rfl rfl rfl trivial) ?_
      refine JR.done [] (by kernel_rfl) rfl (by kernel_rfl) ?_
      refine J_weak [(1, _), (2, _), (4, _), (7, _), (2001, _)] ⟨rfl, rfl, rfl, rfl, rfl, trivial⟩ ?_
      refine J_condF rfl ?_
      refine J_seq ?_
      refine JR.start ?_
      refine JR.run rfl rfl (r_eqI rfl rfl rfl rfl) ?_
      refine JR.run rfl rfl (r_assign rfl rfl rfl trivial) ?_
      refine JR.done [] (by kernel_rfl) rfl (by kernel_rfl) ?_
      refine J_weak [(1, _), (2, _), (4, _), (9, _), (2001, _)] ⟨rfl, rfl, rfl, rfl, rfl, trivial⟩ ?_
      refine J_condF rfl ?_
      refine J_seq ?_
      refine JR.start ?_
      refine JR.run rfl rfl (r_eqI rfl rfl rfl rfl) ?_
      refine JR.run rfl rfl (r_assign rfl rfl rfl trivial) ?_
      refine JR.done [] (by kernel_rfl) rfl (by kernel_rfl) ?_
      refine J_weak [(1, _), (2, _), (4, _), (11, _), (2001, _)] ⟨rfl, rfl, rfl, rfl, rfl, trivial⟩ ?_
      refine J_condT rfl ?_
      refine J_seq ?_
      refine JR.start ?_
      refine JR.run rfl rfl (r_assign rfl rfl rfl trivial) ?_
      refine JR.done [] (by kernel_rfl) rfl (by kernel_rfl) ?_
      refine J_weak [(1, _), (2, _), (2001, _)] ⟨rfl, rfl, rfl, trivial⟩ ?_
      refine J_ret ?_
      exact ⟨.inl rfl, _, rfl, .ofS (by rw [mTxt_4]; rfl), trivial⟩
    | dyn  =>
      refine con_intro rfl rfl (by kernel_rfl) (by kernel_rfl) ?_
      refine J_seq ?_
      refine JR.start ?_
      refine JR.run rfl rfl (r_boxA (x := 2001) rfl rfl rfl rfl) ?_
      refine JR.run rfl rfl (r_assign rfl rfl rfl trivial) ?_
      refine JR.done [] (by kernel_rfl) rfl (by kernel_rfl) ?_
      refine J_weak [(1, _), (2, _), (2001, _)] ⟨rfl, rfl, rfl, trivial⟩ ?_
      refine J_seq ?_
      refine J_seq ?_
      refine JR.start ?_
      refine JR.run rfl rfl (r_fieldAddr (off := 0) (m := 1) rfl rfl (by kernel_rfl) rfl) ?_
      refine JR.run rfl rfl (r_load rfl rfl (by kernel_rfl) rfl rfl rfl) ?_
      refine JR.done [] (by kernel_rfl) rfl (by kernel_rfl) ?_
      refine J_weak [(1, _), (2, _), (4, _), (2001, _)] ⟨rfl, rfl, rfl, rfl, trivial⟩ ?_
      refine J_block ?_
      refine J_seq ?_
      refine JR.start ?_
      refine JR.run rfl rfl (r_eqI rfl rfl rfl rfl) ?_
      refine JR.run rfl rfl (r_assign rfl rfl rfl trivial) ?_
      refine JR.done [] (by kernel_rfl) rfl (by kernel_rfl) ?_
      refine J_weak [(1, _), (2, _), (4, _), (5, _), (2001, _)] ⟨rfl, rfl, rfl, rfl, rfl, trivial⟩ ?_
      refine J_condF rfl ?_
      refine J_seq ?_
      refine JR.start ?_
      refine JR.run rfl rfl (r_eqI rfl rfl rfl rfl) ?_
      refine JR.run rfl rfl (r_assign rfl rfl rfl trivial) ?_
      refine JR.done [] (by kernel_rfl) rfl (by kernel_rfl) ?_
      refine J_weak [(1, _), (2, _), (4, _), (7, _), (2001, _)] ⟨rfl, rfl, rfl, rfl, rfl, trivial⟩ ?_
      refine J_condF rfl ?_
      refine J_seq ?_
      refine JR.start ?_
      refine JR.run rfl rfl (r_eqI rfl rfl rfl rfl) ?_
      refine JR.run rfl rfl (r_assign rfl rfl rfl trivial) ?_
      refine JR.done [] (by kernel_rfl) rfl (by kernel_rfl) ?_
      refine J_weak [(1, _), (2, _), (4, _), (9, _), (2001, _)] ⟨rfl, rfl, rfl, rfl, rfl, trivial⟩ ?_
      refine J_condF rfl ?_
      refine J_seq ?_
      refine JR.start ?_
      refine JR.run rfl rfl (r_eqI rfl rfl rfl rfl) ?_
      refine JR.run rfl rfl (r_assign rfl rfl rfl trivial) ?_
      refine JR.done [] (by kernel_rfl) rfl (by kernel_rfl) ?_
      refine J_weak [(1, _), (2, _), (4, _), (11, _), (2001, _)] ⟨rfl, rfl, rfl, rfl, rfl, trivial⟩ ?_
      refine J_condF rfl ?_
      refine J_seq ?_
      refine JR.start ?_
      refine JR.run rfl rfl (r_eqI rfl rfl rfl rfl) ?_
      refine JR.run rfl rfl (r_assign rfl rfl rfl trivial) ?_
      refine JR.done [] (by kernel_rfl) rfl (by kernel_rfl) ?_
      refine J_weak [(1, _), (2, _), (4, _), (13, _), (2001, _)] ⟨rfl, rfl, rfl, rfl, rfl, trivial⟩ ?_
      refine J_condT rfl ?_
      refine J_seq ?_
      refine JR.start ?_
      refine JR.run rfl rfl (r_assign rfl rfl rfl trivial) ?_
      refine JR.done [] (by kernel_rfl) rfl (by kernel_rfl) ?_
      refine J_weak [(1, _), (2, _), (2001, _)] ⟨rfl, rfl, rfl, trivial⟩ ?_
      refine J_ret ?_
      exact ⟨.inl rfl, _, rfl, .ofS (by rw [mTxt_5]), trivial⟩
    | var n h1 h2 =>
      refine con_intro rfl rfl (by kernel_rfl) (by kernel_rfl) ?_
      refine J_seq ?_
      refine JR.start ?_
      refine JR.run rfl rfl (r_boxA (x := 2001) rfl rfl rfl rfl) ?_
      refine JR.run rfl rfl (r_assign rfl rfl rfl trivial) ?_
      refine JR.done [] (by kernel_rfl) rfl (by kernel_rfl) ?_
      refine J_weak [(1, _), (2, _), (2001, _)] ⟨rfl, rfl, rfl, trivial⟩ ?_
      refine J_seq ?_
      refine J_seq ?_
      refine JR.start ?_
      refine JR.run rfl rfl (r_fieldAddr (off := 0) (m := 1) rfl rfl (by kernel_rfl) rfl) ?_
      refine JR.run rfl rfl (r_load rfl rfl (by kernel_rfl) rfl rfl rfl) ?_
      refine JR.done [] (by kernel_rfl) rfl (by kernel_rfl) ?_
      refine J_weak [(1, _), (2, _), (4, _), (2001, _)] ⟨rfl, rfl, rfl, rfl, trivial⟩ ?_
      refine J_block ?_
      refine J_seq ?_
      refine JR.start ?_
      refine JR.run rfl rfl (r_eqI rfl rfl rfl rfl) ?_
      refine JR.run rfl rfl (r_assign rfl rfl rfl trivial) ?_
      refine JR.done [] (by kernel_rfl) rfl (by kernel_rfl) ?_
      refine J_weak [(1, _), (2, _), (4, _), (5, _), (2001, _)] ⟨rfl, rfl, rfl, rfl, rfl, trivial⟩ ?_
      refine J_condF rfl ?_
      refine J_seq ?_
      refine JR.start ?_
      refine JR.run rfl rfl (r_eqI rfl rfl rfl rfl) ?_
      refine JR.run rfl rfl (r_assign rfl rfl rfl trivial) ?_
      refine JR.done [] (by kernel_rfl) rfl (by kernel_rfl) ?_
      refine J_weak [(1, _), (2, _), (4, _), (7, _), (2001, _)] ⟨rfl, rfl, rfl, rfl, rfl, trivial⟩ ?_
      refine J_condF rfl ?_
      refine J_seq ?_
      refine JR.start ?_
      refine JR.run rfl rfl (r_eqI rfl rfl rfl rfl) ?_
      refine JR.run rfl rfl (r_assign rfl rfl rfl trivial) ?_
      refine JR.done [] (by kernel_rfl) rfl (by kernel_rfl) ?_
      refine J_weak [(1, _), (2, _), (4, _), (9, _), (2001, _)] ⟨rfl, rfl, rfl, rfl, rfl, trivial⟩ ?_
      refine J_condF rfl ?_
      refine J_seq ?_
      refine JR.start ?_
      refine JR.run rfl rfl (r_eqI rfl rfl rfl rfl) ?_
      refine JR.run rfl rfl (r_assign rfl rfl rfl trivial) ?_
      refine JR.done [] (by kernel_rfl) rfl (by kernel_rfl) ?_
      refine J_weak [(1, _), (2, _), (4, _), (11, _), (2001, _)] ⟨rfl, rfl, rfl, rfl, rfl, trivial⟩ ?_
      refine J_condF rfl ?_
      refine J_seq ?_
      refine JR.start ?_
      refine JR.run rfl rfl (r_eqI rfl rfl rfl rfl) ?_
      refine JR.run rfl rfl (r_assign rfl rfl rfl trivial) ?_
      refine JR.done [] (by kernel_rfl) rfl (by kernel_rfl) ?_
      refine J_weak [(1, _), (2, _), (4, _), (13, _), (2001, _)] ⟨rfl, rfl, rfl, rfl, rfl, trivial⟩ ?_
      refine J_condF rfl ?_
      refine J_seq ?_
      refine JR.start ?_
      refine JR.run rfl rfl (r_eqI rfl rfl rfl rfl) ?_
      refine JR.run rfl rfl (r_assign rfl rfl rfl trivial) ?_
      refine JR.done [] (by kernel_rfl) rfl (by kernel_rfl) ?_
      refine J_weak [(1, _), (2, _), (4, _), (15, _), (2001, _)] ⟨rfl, rfl, rfl, rfl, rfl, trivial⟩ ?_
      refine J_condT rfl ?_
      refine J_seq ?_
      refine JR.start ?_
      refine JR.run rfl rfl (r_fieldAddr (off := 1) (m := 1) rfl rfl (by kernel_rfl) rfl) ?_
      refine JR.run rfl rfl (r_load rfl rfl (by kernel_rfl) rfl rfl rfl) ?_
      refine JR.run rfl rfl (r_call (kRefNum n h1 h2) rfl rfl rfl trivial (by kernel_rfl)) ?_
      refine JR.run rfl rfl (r_catS rfl rfl rfl rfl (by have := mNum_small h1 h2; simp only [List.length_cons, List.length_nil]; omega)) ?_
      refine JR.run rfl rfl (r_assign rfl rfl rfl trivial) ?_
      refine JR.done [] (by kernel_rfl) rfl (by kernel_rfl) ?_
      refine J_weak [(1, _), (2, _), (2001, _)] ⟨rfl, rfl, rfl, trivial⟩ ?_
      refine J_ret ?_
      exact ⟨.inl rfl, _, rfl, .ofS (by rw [mTxt_var]; rfl), trivial⟩
    | pair a b ha hb =>
      have sa : a.size ≤ m := by simp only [Ty.size, Ty.sizes] at hm; omega
      have sb : b.size ≤ m := by simp only [Ty.size, Ty.sizes] at hm; omega
      have ca := kInnerOf a ha (by omega) (kRefText m a sa (by omega) ha)
      have cb := kInnerOf b hb (by omega) (kRefText m b sb (by omega) hb)
      have la := mKid_len ha
      have lb := mKid_len hb
      refine con_intro rfl rfl (by kernel_rfl) (by kernel_rfl) ?_
      refine J_seq ?_
      refine JR.start ?_
      refine JR.run rfl rfl (r_boxA (x := 2001) rfl rfl rfl rfl) ?_
      refine JR.run rfl rfl (r_assign rfl rfl rfl trivial) ?_
      refine JR.done [] (by kernel_rfl) rfl (by kernel_rfl) ?_
      refine J_weak [(1, _), (2, _), (2001, _)] ⟨rfl, rfl, rfl, trivial⟩ ?_
      refine J_seq ?_
      refine J_seq ?_
      refine JR.start ?_
      refine JR.run rfl rfl (r_fieldAddr (off := 0) (m := 1) rfl rfl (by kernel_rfl) rfl) ?_
      refine JR.run rfl rfl (r_load rfl rfl (by kernel_rfl) rfl rfl rfl) ?_
      refine JR.done [] (by kernel_rfl) rfl (by kernel_rfl) ?_
      refine J_weak [(1, _), (2, _), (4, _), (2001, _)] ⟨rfl, rfl, rfl, rfl, trivial⟩ ?_
      refine J_block ?_
      refine J_seq ?_
      refine JR.start ?_
      refine JR.run rfl rfl (r_eqI rfl rfl rfl rfl) ?_
      refine JR.run rfl rfl (r_assign rfl rfl rfl trivial) ?_
      refine JR.done [] (by kernel_rfl) rfl (by kernel_rfl) ?_
      refine J_weak [(1, _), (2, _), (4, _), (5, _), (2001, _)] ⟨rfl, rfl, rfl, rfl, rfl, trivial⟩ ?_
      refine J_condF rfl ?_
      refine J_seq ?_
      refine JR.start ?_
      refine JR.run rfl rfl (r_eqI rfl rfl rfl rfl) ?_
      refine JR.run rfl rfl (r_assign rfl rfl rfl trivial) ?_
      refine JR.done [] (by kernel_rfl) rfl (by kernel_rfl) ?_
      refine J_weak [(1, _), (2, _), (4, _), (7, _), (2001, _)] ⟨rfl, rfl, rfl, rfl, rfl, trivial⟩ ?_
      refine J_condF rfl ?_
      refine J_seq ?_
      refine JR.start ?_
      refine JR.run rfl rfl (r_eqI rfl rfl rfl rfl) ?_
      refine JR.run rfl rfl (r_assign rfl rfl rfl trivial) ?_
      refine JR.done [] (by kernel_rfl) rfl (by kernel_rfl) ?_
      refine J_weak [(1, _), (2, _), (4, _), (9, _), (2001, _)] ⟨rfl, rfl, rfl, rfl, rfl, trivial⟩ ?_
      refine J_condF rfl ?_
      refine J_seq ?_
      refine JR.start ?_
      refine JR.run rfl rfl (r_eqI rfl rfl rfl rfl) ?_
      refine JR.run rfl rfl (r_assign rfl rfl rfl trivial) ?_
      refine JR.done [] (by kernel_rfl) rfl (by kernel_rfl) ?_
      refine J_weak [(1, _), (2, _), (4, _), (11, _), (2001, _)] ⟨rfl, rfl, rfl, rfl, rfl, trivial⟩ ?_
      refine J_condF rfl ?_
      refine J_seq ?_
      refine JR.start ?_
      refine JR.run rfl rfl (r_eqI rfl rfl rfl rfl) ?_
      refine JR.run rfl rfl (r_assign rfl rfl rfl trivial) ?_
      refine JR.done [] (by kernel_rfl) rfl (by kernel_rfl) ?_
      refine J_weak [(1, _), (2, _), (4, _), (13, _), (2001, _)] ⟨rfl, rfl, rfl, rfl, rfl, trivial⟩ ?_
      refine J_condF rfl ?_
      refine J_seq ?_
      refine JR.start ?_
      refine JR.run rfl rfl (r_eqI rfl rfl rfl rfl) ?_
      refine JR.run rfl rfl (r_assign rfl rfl rfl trivial) ?_
      refine JR.done [] (by kernel_rfl) rfl (by kernel_rfl) ?_
      refine J_weak [(1, _), (2, _), (4, _), (15, _), (2001, _)] ⟨rfl, rfl, rfl, rfl, rfl, trivial⟩ ?_
      refine J_condF rfl ?_
      refine J_seq ?_
      refine JR.start ?_
      refine JR.run rfl rfl (r_eqI rfl rfl rfl rfl) ?_
      refine JR.run rfl rfl (r_assign rfl rfl rfl trivial) ?_
      refine JR.done [] (by kernel_rfl) rfl (by kernel_rfl) ?_
      refine J_weak [(1, _), (2, _), (4, _), (21, _), (2001, _)] ⟨rfl, rfl, rfl, rfl, rfl, trivial⟩ ?_
      refine J_condT rfl ?_
      refine J_seq ?_
      refine JR.start ?_
      refine JR.run rfl rfl (r_fieldAddr (off := 2) (m := 1) rfl rfl (by kernel_rfl) rfl) ?_
      refine JR.run rfl rfl (r_load rfl rfl (by kernel_rfl) rfl rfl rfl) ?_
      refine JR.run rfl rfl (r_indexAddr (e := 24) (sz := 3) rfl rfl (by kernel_rfl) rfl rfl (Int.le_refl 0) (tysD_at (l := [a, b]) (i := 0) rfl)) ?_
      refine JR.run rfl rfl (r_loadElA (m := 3) rfl rfl (by kernel_rfl) rfl rfl rfl) ?_
      refine JR.run rfl rfl (r_call (ca) rfl rfl rfl trivial (by kernel_rfl)) ?_
      refine JR.run rfl rfl (r_catS rfl rfl rfl rfl (by first | omega | (simp only [List.length_append]; omega) | (simp only [List.length_cons, List.length_nil]; omega) | (simp only [List.length_append, List.length_cons, List.length_nil]; omega) | (simp only [List.length_append, bcells_len]; omega) | (simp only [List.length_append, bcells_len, List.length_cons, List.length_nil]; omega) | (simp only [bcells_len, List.length_cons, List.length_nil]; omega))) ?_
      refine JR.run rfl rfl (r_fieldAddr (off := 2) (m := 1) rfl rfl (by kernel_rfl) rfl) ?_
      refine JR.run rfl rfl (r_load rfl rfl (by kernel_rfl) rfl rfl rfl) ?_
      refine JR.run rfl rfl (r_indexAddr (e := 24) (sz := 3) rfl rfl (by kernel_rfl) rfl rfl (by decide) (tysD_at (l := [a, b]) (i := 1) rfl)) ?_
      refine JR.run rfl rfl (r_loadElA (m := 3) rfl rfl (by kernel_rfl) rfl rfl rfl) ?_
      refine JR.run rfl rfl (r_call (cb) rfl rfl rfl trivial (by kernel_rfl)) ?_
      refine JR.run rfl rfl (r_catS rfl rfl rfl rfl (by first | omega | (simp only [List.length_append]; omega) | (simp only [List.length_cons, List.length_nil]; omega) | (simp only [List.length_append, List.length_cons, List.length_nil]; omega) | (simp only [List.length_append, bcells_len]; omega) | (simp only [List.length_append, bcells_len, List.length_cons, List.length_nil]; omega) | (simp only [bcells_len, List.length_cons, List.length_nil]; omega))) ?_
      refine JR.run rfl rfl (r_assign rfl rfl rfl trivial) ?_
      refine JR.done [[], [0], [0, 1], [0, 1, 2], [0, 1, 2, 3], [0, 1, 2, 3, 4], [], [6], [6, 7], [6, 7, 8], [0, 1, 2, 3, 4, 6, 7, 8, 9], [0, 1, 2, 3, 4, 5, 6, 7, 8, 9, 10], [0, 1, 2, 3, 4, 5, 6, 7, 8, 9, 10, 11]] (by kernel_rfl) rfl (by kernel_rfl) ?_
      refine J_weak [(1, _), (2, _), (2001, _)] ⟨rfl, rfl, rfl, trivial⟩ ?_
      refine J_ret ?_
      exact ⟨.inl rfl, _, rfl, .ofS (by rw [mTxt_pair]), trivial⟩
    | list a ha =>
      have sa : a.size ≤ m := by simp only [Ty.size, Ty.sizes] at hm; omega
      have ca := kInnerOf a ha (by omega) (kRefText m a sa (by omega) ha)
      have la := mKid_len ha
      refine con_intro rfl rfl (by kernel_rfl) (by kernel_rfl) ?_
      refine J_seq ?_
      refine JR.start ?_
      refine JR.run rfl rfl (r_boxA (x := 2001) rfl rfl rfl rfl) ?_
      refine JR.run rfl rfl (r_assign rfl rfl rfl trivial) ?_
      refine JR.done [] (by kernel_rfl) rfl (by kernel_rfl) ?_
      refine J_weak [(1, _), (2, _), (2001, _)] ⟨rfl, rfl, rfl, trivial⟩ ?_
      refine J_seq ?_
      refine J_seq ?_
      refine JR.start ?_
      refine JR.run rfl rfl (r_fieldAddr (off := 0) (m := 1) rfl rfl (by kernel_rfl) rfl) ?_
      refine JR.run rfl rfl (r_load rfl rfl (by kernel_rfl) rfl rfl rfl) ?_
      refine JR.done [] (by kernel_rfl) rfl (by kernel_rfl) ?_
      refine J_weak [(1, _), (2, _), (4, _), (2001, _)] ⟨rfl, rfl, rfl, rfl, trivial⟩ ?_
      refine J_block ?_
      refine J_seq ?_
      refine JR.start ?_
      refine JR.run rfl rfl (r_eqI rfl rfl rfl rfl) ?_
      refine JR.run rfl rfl (r_assign rfl rfl rfl trivial) ?_
      refine JR.done [] (by kernel_rfl) rfl (by kernel_rfl) ?_
      refine J_weak [(1, _), (2, _), (4, _), (5, _), (2001, _)] ⟨rfl, rfl, rfl, rfl, rfl, trivial⟩ ?_
      refine J_condF rfl ?_
      refine J_seq ?_
      refine JR.start ?_
      refine JR.run rfl rfl (r_eqI rfl rfl rfl rfl) ?_
      refine JR.run rfl rfl (r_assign rfl rfl rfl trivial) ?_
      refine JR.done [] (by kernel_rfl) rfl (by kernel_rfl) ?_
      refine J_weak [(1, _), (2, _), (4, _), (7, _), (2001, _)] ⟨rfl, rfl, rfl, rfl, rfl, trivial⟩ ?_
      refine J_condF rfl ?_
      refine J_seq ?_
      refine JR.start ?_
      refine JR.run rfl rfl (r_eqI rfl rfl rfl rfl) ?_
      refine JR.run rfl rfl (r_assign rfl rfl rfl trivial) ?_
      refine JR.done [] (by kernel_rfl) rfl (by kernel_rfl) ?_
      refine J_weak [(1, _), (2, _), (4, _), (9, _), (2001, _)] ⟨rfl, rfl, rfl, rfl, rfl, trivial⟩ ?_
      refine J_condF rfl ?_
      refine J_seq ?_
      refine JR.start ?_
      refine JR.run rfl rfl (r_eqI rfl rfl rfl rfl) ?_
      refine JR.run rfl rfl (r_assign rfl rfl rfl trivial) ?_
      refine JR.done [] (by kernel_rfl) rfl (by kernel_rfl) ?_
      refine J_weak [(1, _), (2, _), (4, _), (11, _), (2001, _)] ⟨rfl, rfl, rfl, rfl, rfl, trivial⟩ ?_
      refine J_condF rfl ?_
      refine J_seq ?_
      refine JR.start ?_
      refine JR.run rfl rfl (r_eqI rfl rfl rfl rfl) ?_
      refine JR.run rfl rfl (r_assign rfl rfl rfl trivial) ?_
      refine JR.done [] (by kernel_rfl) rfl (by kernel_rfl) ?_
      refine J_weak [(1, _), (2, _), (4, _), (13, _), (2001, _)] ⟨rfl, rfl, rfl, rfl, rfl, trivial⟩ ?_
      refine J_condF rfl ?_
      refine J_seq ?_
      refine JR.start ?_
      refine JR.run rfl rfl (r_eqI rfl rfl rfl rfl) ?_
      refine JR.run rfl rfl (r_assign rfl rfl rfl trivial) ?_
      refine JR.done [] (by kernel_rfl) rfl (by kernel_rfl) ?_
      refine J_weak [(1, _), (2, _), (4, _), (15, _), (2001, _)] ⟨rfl, rfl, rfl, rfl, rfl, trivial⟩ ?_
      refine J_condF rfl ?_
      refine J_seq ?_
      refine JR.start ?_
      refine JR.run rfl rfl (r_eqI rfl rfl rfl rfl) ?_
      refine JR.run rfl rfl (r_assign rfl rfl rfl trivial) ?_
      refine JR.done [] (by kernel_rfl) rfl (by kernel_rfl) ?_
      refine J_weak [(1, _), (2, _), (4, _), (21, _), (2001, _)] ⟨rfl, rfl, rfl, rfl, rfl, trivial⟩ ?_
      refine J_condF rfl ?_
      refine J_seq ?_
      refine JR.start ?_
      refine JR.run rfl rfl (r_eqI rfl rfl rfl rfl) ?_
      refine JR.run rfl rfl (r_assign rfl rfl rfl trivial) ?_
      refine JR.done [] (by kernel_rfl) rfl (by kernel_rfl) ?_
      refine J_weak [(1, _), (2, _), (35, _), (2001, _)] ⟨rfl, rfl, rfl, rfl, trivial⟩ ?_
      refine J_condT rfl ?_
      refine J_seq ?_
      refine JR.start ?_
      refine JR.run rfl rfl (r_fieldAddr (off := 2) (m := 1) rfl rfl (by kernel_rfl) rfl) ?_
      refine JR.run rfl rfl (r_load rfl rfl (by kernel_rfl) rfl rfl rfl) ?_
      refine JR.run rfl rfl (r_indexAddr (e := 24) (sz := 3) rfl rfl (by kernel_rfl) rfl rfl (Int.le_refl 0) (tysD_at (l := [a]) (i := 0) rfl)) ?_
      refine JR.run rfl rfl (r_loadElA (m := 3) rfl rfl (by kernel_rfl) rfl rfl rfl) ?_
      refine JR.run rfl rfl (r_call (ca) rfl rfl rfl trivial (by kernel_rfl)) ?_
      refine JR.run rfl rfl (r_catS rfl rfl rfl rfl (by first | omega | (simp only [List.length_append]; omega) | (simp only [List.length_cons, List.length_nil]; omega) | (simp only [List.length_append, List.length_cons, List.length_nil]; omega) | (simp only [List.length_append, bcells_len]; omega) | (simp only [List.length_append, bcells_len, List.length_cons, List.length_nil]; omega) | (simp only [bcells_len, List.length_cons, List.length_nil]; omega))) ?_
      refine JR.run rfl rfl (r_assign rfl rfl rfl trivial) ?_
      refine JR.done [] (by kernel_rfl) rfl (by kernel_rfl) ?_
      refine J_weak [(1, _), (2, _), (2001, _)] ⟨rfl, rfl, rfl, trivial⟩ ?_
      refine J_ret ?_
      exact ⟨.inl rfl, _, rfl, .ofS (by rw [mTxt_list]), trivial⟩
    | func a b ha hb =>
      have sa : a.size ≤ m := by simp only [Ty.size, Ty.sizes] at hm; omega
      have sb : b.size ≤ m := by simp only [Ty.size, Ty.sizes] at hm; omega
      have ca := kInnerOf a ha (by omega) (kRefText m a sa (by omega) ha)
      have cb := kInnerOf b hb (by omega) (kRefText m b sb (by omega) hb)
      have la := mKid_len ha
      have lb := mKid_len hb
      refine con_intro rfl rfl (by kernel_rfl) (by kernel_rfl) ?_
      refine J_seq ?_
      refine JR.start ?_
      refine JR.run rfl rfl (r_boxA (x := 2001) rfl rfl rfl rfl) ?_
      refine JR.run rfl rfl (r_assign rfl rfl rfl trivial) ?_
      refine JR.done [] (by kernel_rfl) rfl (by kernel_rfl) ?_
      refine J_weak [(1, _), (2, _), (2001, _)] ⟨rfl, rfl, rfl, trivial⟩ ?_
      refine J_seq ?_
      refine J_seq ?_
      refine JR.start ?_
      refine JR.run rfl rfl (r_fieldAddr (off := 0) (m := 1) rfl rfl (by kernel_rfl) rfl) ?_
      refine JR.run rfl rfl (r_load rfl rfl (by kernel_rfl) rfl rfl rfl) ?_
      refine JR.done [] (by kernel_rfl) rfl (by kernel_rfl) ?_
      refine J_weak [(1, _), (2, _), (4, _), (2001, _)] ⟨rfl, rfl, rfl, rfl, trivial⟩ ?_
      refine J_block ?_
      refine J_seq ?_
      refine JR.start ?_
      refine JR.run rfl rfl (r_eqI rfl rfl rfl rfl) ?_
      refine JR.run rfl rfl (r_assign rfl rfl rfl trivial) ?_
      refine JR.done [] (by kernel_rfl) rfl (by kernel_rfl) ?_
      refine J_weak [(1, _), (2, _), (4, _), (5, _), (2001, _)] ⟨rfl, rfl, rfl, rfl, rfl, trivial⟩ ?_
      refine J_condF rfl ?_
      refine J_seq ?_
      refine JR.start ?_
      refine JR.run rfl rfl (r_eqI rfl rfl rfl rfl) ?_
      refine JR.run rfl rfl (r_assign rfl rfl rfl trivial) ?_
      refine JR.done [] (by kernel_rfl) rfl (by kernel_rfl) ?_
      refine J_weak [(1, _), (2, _), (4, _), (7, _), (2001, _)] ⟨rfl, rfl, rfl, rfl, rfl, trivial⟩ ?_
      refine J_condF rfl ?_
      refine J_seq ?_
      refine JR.start ?_
      refine JR.run rfl rfl (r_eqI rfl rfl rfl rfl) ?_
      refine JR.run rfl rfl (r_assign rfl rfl rfl trivial) ?_
      refine JR.done [] (by kernel_rfl) rfl (by kernel_rfl) ?_
      refine J_weak [(1, _), (2, _), (4, _), (9, _), (2001, _)] ⟨rfl, rfl, rfl, rfl, rfl, trivial⟩ ?_
      refine J_condF rfl ?_
      refine J_seq ?_
      refine JR.start ?_
      refine JR.run rfl rfl (r_eqI rfl rfl rfl rfl) ?_
      refine JR.run rfl rfl (r_assign rfl rfl rfl trivial) ?_
      refine JR.done [] (by kernel_rfl) rfl (by kernel_rfl) ?_
      refine J_weak [(1, _), (2, _), (4, _), (11, _), (2001, _)] ⟨rfl, rfl, rfl, rfl, rfl, trivial⟩ ?_
      refine J_condF rfl ?_
      refine J_seq ?_
      refine JR.start ?_
      refine JR.run rfl rfl (r_eqI rfl rfl rfl rfl) ?_
      refine JR.run rfl rfl (r_assign rfl rfl rfl trivial) ?_
      refine JR.done [] (by kernel_rfl) rfl (by kernel_rfl) ?_
      refine J_weak [(1, _), (2, _), (4, _), (13, _), (2001, _)] ⟨rfl, rfl, rfl, rfl, rfl, trivial⟩ ?_
      refine J_condF rfl ?_
      refine J_seq ?_
      refine JR.start ?_
      refine JR.run rfl rfl (r_eqI rfl rfl rfl rfl) ?_
      refine JR.run rfl rfl (r_assign rfl rfl rfl trivial) ?_
      refine JR.done [] (by kernel_rfl) rfl (by kernel_rfl) ?_
      refine J_weak [(1, _), (2, _), (4, _), (15, _), (2001, _)] ⟨rfl, rfl, rfl, rfl, rfl, trivial⟩ ?_
      refine J_condF rfl ?_
      refine J_seq ?_
      refine JR.start ?_
      refine JR.run rfl rfl (r_eqI rfl rfl rfl rfl) ?_
      refine JR.run rfl rfl (r_assign rfl rfl rfl trivial) ?_
      refine JR.done [] (by kernel_rfl) rfl (by kernel_rfl) ?_
      refine J_weak [(1, _), (2, _), (4, _), (21, _), (2001, _)] ⟨rfl, rfl, rfl, rfl, rfl, trivial⟩ ?_
      refine J_condF rfl ?_
      refine J_seq ?_
      refine JR.start ?_
      refine JR.run rfl rfl (r_eqI rfl rfl rfl rfl) ?_
      refine JR.run rfl rfl (r_assign rfl rfl rfl trivial) ?_
      refine JR.done [] (by kernel_rfl) rfl (by kernel_rfl) ?_
      refine J_weak [(1, _), (2, _), (35, _), (2001, _)] ⟨rfl, rfl, rfl, rfl, trivial⟩ ?_
      refine J_condF rfl ?_
      refine J_skip ?_
      refine J_seq ?_
      refine JR.start ?_
      refine JR.run rfl rfl (r_fieldAddr (off := 2) (m := 1) rfl rfl (by kernel_rfl) rfl) ?_
      refine JR.run rfl rfl (r_load rfl rfl (by kernel_rfl) rfl rfl rfl) ?_
      refine JR.run rfl rfl (r_indexAddr (e := 24) (sz := 3) rfl rfl (by kernel_rfl) rfl rfl (Int.le_refl 0) (tysD_at (l := [a, b]) (i := 0) rfl)) ?_
      refine JR.run rfl rfl (r_loadElA (m := 3) rfl rfl (by kernel_rfl) rfl rfl rfl) ?_
      refine JR.run rfl rfl (r_call (ca) rfl rfl rfl trivial (by kernel_rfl)) ?_
      refine JR.run rfl rfl (r_catS rfl rfl rfl rfl (by first | omega | (simp only [List.length_append]; omega) | (simp only [List.length_cons, List.length_nil]; omega) | (simp only [List.length_append, List.length_cons, List.length_nil]; omega) | (simp only [List.length_append, bcells_len]; omega) | (simp only [List.length_append, bcells_len, List.length_cons, List.length_nil]; omega) | (simp only [bcells_len, List.length_cons, List.length_nil]; omega))) ?_
      refine JR.run rfl rfl (r_fieldAddr (off := 2) (m := 1) rfl rfl (by kernel_rfl) rfl) ?_
      refine JR.run rfl rfl (r_load rfl rfl (by kernel_rfl) rfl rfl rfl) ?_
      refine JR.run rfl rfl (r_indexAddr (e := 24) (sz := 3) rfl rfl (by kernel_rfl) rfl rfl (by decide) (tysD_at (l := [a, b]) (i := 1) rfl)) ?_
      refine JR.run rfl rfl (r_loadElA (m := 3) rfl rfl (by kernel_rfl) rfl rfl rfl) ?_
      refine JR.run rfl rfl (r_call (cb) rfl rfl rfl trivial (by kernel_rfl)) ?_
      refine JR.run rfl rfl (r_catS rfl rfl rfl rfl (by first | omega | (simp only [List.length_append]; omega) | (simp only [List.length_cons, List.length_nil]; omega) | (simp only [List.length_append, List.length_cons, List.length_nil]; omega) | (simp only [List.length_append, bcells_len]; omega) | (simp only [List.length_append, bcells_len, List.length_cons, List.length_nil]; omega) | (simp only [bcells_len, List.length_cons, List.length_nil]; omega))) ?_
      refine JR.run rfl rfl (r_assign rfl rfl rfl trivial) ?_
      refine JR.done [[], [0], [0, 1], [0, 1, 2], [0, 1, 2, 3], [0, 1, 2, 3, 4], [], [6], [6, 7], [6, 7, 8], [0, 1, 2, 3, 4, 6, 7, 8, 9], [0, 1, 2, 3, 4, 5, 6, 7, 8, 9, 10], [0, 1, 2, 3, 4, 5, 6, 7, 8, 9, 10, 11]] (by kernel_rfl) rfl (by kernel_rfl) ?_
      refine J_weak [(2, _)] ⟨rfl, trivial⟩ ?_
      refine J_ret ?_
      exact ⟨.inl rfl, _, rfl, .ofS (by rw [mTxt_fun]), trivial⟩

theorem kKidOf (t : Ty) (h : RightTy t) (hc : ∀ els : List (List D), els.length + 30 * t.size ≤ 1000000000 → Con Tryz.prog 46 [.own byK 1 (els), .agg (tyE t)] [] (.own byK 1 (els ++ bcells (mTxt t))) []) (els : List (List D)) (hs : els.length + 30 * t.size + 1 ≤ 1000000000) : Con Tryz.prog 64 [.own byK 1 (els), .agg (tyE t)] [] (.own byK 1 (els ++ bcells (mKid t))) [] := by
  have hl := tysD_len t.kids
  have hb := mTxt_len h
  refine con_intro rfl rfl (by kernel_rfl) (by kernel_rfl) ?_
  refine J_seq ?_
  refine JR.start ?_
  refine JR.run rfl rfl (r_boxA (x := 2003) rfl rfl rfl rfl) ?_
  refine JR.run rfl rfl (r_assign rfl rfl rfl trivial) ?_
  refine JR.done [] (by kernel_rfl) rfl (by kernel_rfl) ?_
  refine J_weak [(0, _), (3, _), (4, _), (2003, _)] ⟨rfl, rfl, rfl, rfl, trivial⟩ ?_
  refine J_seq ?_
  refine J_seq ?_
  refine JR.start ?_
  refine JR.run rfl rfl (r_fieldAddr (off := 2) (m := 1) rfl rfl (by kernel_rfl) rfl) ?_
  refine JR.run rfl rfl (r_load rfl rfl (by kernel_rfl) rfl rfl rfl) ?_
  refine JR.run rfl rfl (r_len rfl rfl (by kernel_rfl) rfl) ?_
  refine JR.runB rfl rfl (r_eqI rfl rfl rfl rfl) ?_ ?_
  · intro h8
    replace h8 := of_decide_eq_true h8
    refine JR.done [] (by kernel_rfl) rfl (by kernel_rfl) ?_
    refine J_weak [(0, _), (3, _), (4, _), (8, _), (2003, _)] ⟨rfl, rfl, rfl, rfl, rfl, trivial⟩ ?_
    refine J_condT rfl ?_
    refine J_seq ?_
    refine JR.start ?_
    refine JR.run rfl rfl (r_moveOwn rfl rfl rfl rfl) ?_
    refine JR.run rfl rfl (r_loadA (m := 3) (us := _) rfl rfl (by kernel_rfl) rfl rfl rfl rfl) ?_
    refine JR.run rfl rfl (r_call (hc els (by omega)) rfl rfl rfl trivial (by kernel_rfl)) ?_
    refine JR.run rfl rfl (r_assignOwn rfl rfl rfl rfl) ?_
    refine JR.done [] (by kernel_rfl) rfl (by kernel_rfl) ?_
    refine J_weak [(3, _), (4, _), (2003, _)] ⟨rfl, rfl, rfl, trivial⟩ ?_
    refine J_ret ?_
    refine ⟨.inl rfl, _, rfl, .of ?_, trivial⟩
    rw [mKid_eq, kidsE (by omega)]
    simp [bcells]
  · intro h8
    replace h8 := of_decide_eq_false h8
    refine JR.done [] (by kernel_rfl) rfl (by kernel_rfl) ?_
    refine J_weak [(0, _), (3, _), (4, _), (8, _), (2003, _)] ⟨rfl, rfl, rfl, rfl, rfl, trivial⟩ ?_
    refine J_condF rfl ?_
    refine J_skip ?_
    refine J_seq ?_
    refine JR.start ?_
    refine JR.run rfl rfl (r_moveOwn rfl rfl rfl rfl) ?_
    refine JR.run rfl rfl (r_buildSlice (e := 5) (sz := 1) (zs := [.int .u8 0]) ([[.lit (.int .u8 40)]]) rfl rfl (by kernel_rfl) (by kernel_rfl) rfl rfl rfl rfl) ?_
    refine JR.run rfl rfl (r_append (e := 5) (sz := 1) (b := 1) rfl rfl (by kernel_rfl) rfl rfl (by first | omega | (simp only [List.length_append]; omega) | (simp only [List.length_cons, List.length_nil]; omega) | (simp only [List.length_append, List.length_cons, List.length_nil]; omega) | (simp only [List.length_append, bcells_len]; omega) | (simp only [List.length_append, bcells_len, List.length_cons, List.length_nil]; omega) | (simp only [bcells_len, List.length_cons, List.length_nil]; omega)) (by first | omega | (simp only [List.length_append]; omega) | (simp only [List.length_cons, List.length_nil]; omega) | (simp only [List.length_append, List.length_cons, List.length_nil]; omega) | (simp only [List.length_append, bcells_len]; omega) | (simp only [List.length_append, bcells_len, List.length_cons, List.length_nil]; omega) | (simp only [bcells_len, List.length_cons, List.length_nil]; omega))) ?_
    refine JR.run rfl rfl (r_loadA (m := 3) (us := _) rfl rfl (by kernel_rfl) rfl rfl rfl rfl) ?_
    refine JR.run rfl rfl (r_call (hc (els ++ [[.lit (.int .u8 40)]]) (by first | omega | (simp only [List.length_append]; omega) | (simp only [List.length_cons, List.length_nil]; omega) | (simp only [List.length_append, List.length_cons, List.length_nil]; omega) | (simp only [List.length_append, bcells_len]; omega) | (simp only [List.length_append, bcells_len, List.length_cons, List.length_nil]; omega) | (simp only [bcells_len, List.length_cons, List.length_nil]; omega))) rfl rfl rfl trivial (by kernel_rfl)) ?_
    refine JR.run rfl rfl (r_buildSlice (e := 5) (sz := 1) (zs := [.int .u8 0]) ([[.lit (.int .u8 41)]]) rfl rfl (by kernel_rfl) (by kernel_rfl) rfl rfl rfl rfl) ?_
    refine JR.run rfl rfl (r_append (e := 5) (sz := 1) (b := 1) rfl rfl (by kernel_rfl) rfl rfl (by first | omega | (simp only [List.length_append]; omega) | (simp only [List.length_cons, List.length_nil]; omega) | (simp only [List.length_append, List.length_cons, List.length_nil]; omega) | (simp only [List.length_append, bcells_len]; omega) | (simp only [List.length_append, bcells_len, List.length_cons, List.length_nil]; omega) | (simp only [bcells_len, List.length_cons, List.length_nil]; omega)) (by first | omega | (simp only [List.length_append]; omega) | (simp only [List.length_cons, List.length_nil]; omega) | (simp only [List.length_append, List.length_cons, List.length_nil]; omega) | (simp only [List.length_append, bcells_len]; omega) | (simp only [List.length_append, bcells_len, List.length_cons, List.length_nil]; omega) | (simp only [bcells_len, List.length_cons, List.length_nil]; omega))) ?_
    refine JR.run rfl rfl (r_assignOwn rfl rfl rfl rfl) ?_
    refine JR.done [[], [], [0, 1], [], [0, 1, 2, 3], [], [0, 1, 2, 3, 4, 5], [0, 1, 2, 3, 4, 5, 6]] (by kernel_rfl) rfl (by kernel_rfl) ?_
    refine J_weak [(4, _)] ⟨rfl, trivial⟩ ?_
    refine J_ret ?_
    refine ⟨.inl rfl, _, rfl, .of ?_, trivial⟩
    rw [mKid_eq, kidsN (by omega)]
    simp [bcells]

theorem kPut : ∀ (m : Nat) (t : Ty) (els : List (List D)), t.size ≤ m → RightTy t → els.length + 30 * t.size ≤ 1000000000 → Con Tryz.prog 46 [.own byK 1 (els), .agg (tyE t)] [] (.own byK 1 (els ++ bcells (mTxt t))) []
  | 0, t, _, h, _, _ => absurd t.size_pos (by omega)
  | m + 1, t, els, hm, h, hs => by
    cases h with
    | int  =>
      have hs2 : els.length + 30 ≤ 1000000000 := by simp only [Ty.size, Ty.sizes] at hs; omega
      refine con_intro rfl rfl (by kernel_rfl) (by kernel_rfl) ?_
      refine J_seq ?_
      refine JR.start ?_
      refine JR.run rfl rfl (r_boxA (x := 2003) rfl rfl rfl rfl) ?_
      refine JR.run rfl rfl (r_assign rfl rfl rfl trivial) ?_
      refine JR.done [] (by kernel_rfl) rfl (by kernel_rfl) ?_
      refine J_weak [(0, _), (3, _), (4, _), (2003, _)] ⟨rfl, rfl, rfl, rfl, trivial⟩ ?_
      refine J_seq ?_
      refine J_seq ?_
      refine JR.start ?_
      refine JR.run rfl rfl (r_fieldAddr (off := 0) (m := 1) rfl rfl (by kernel_rfl) rfl) ?_
      refine JR.run rfl rfl (r_load rfl rfl (by kernel_rfl) rfl rfl rfl) ?_
      refine JR.done [] (by kernel_rfl) rfl (by kernel_rfl) ?_
      refine J_weak [(0, _), (3, _), (4, _), (6, _), (2003, _)] ⟨rfl, rfl, rfl, rfl, rfl, trivial⟩ ?_
      refine J_block ?_
      refine J_seq ?_
      refine JR.start ?_
      refine JR.run rfl rfl (r_eqI rfl rfl rfl rfl) ?_
      refine JR.run rfl rfl (r_assign rfl rfl rfl trivial) ?_
      refine JR.done [] (by kernel_rfl) rfl (by kernel_rfl) ?_
      refine J_weak [(0, _), (3, _), (4, _), (6, _), (7, _), (2003, _)] ⟨rfl, rfl, rfl, rfl, rfl, rfl, trivial⟩ ?_
      refine J_condT rfl ?_
      refine J_seq ?_
      refine JR.start ?_
      refine JR.run rfl rfl (r_moveOwn rfl rfl rfl rfl) ?_
      refine JR.run rfl rfl (r_appendS (e := 5) rfl rfl (by kernel_rfl) (by kernel_rfl) (by kernel_rfl) rfl rfl (by first | omega | (simp only [List.length_append]; omega) | (simp only [List.length_cons, List.length_nil]; omega) | (simp only [List.length_append, List.length_cons, List.length_nil]; omega) | (simp only [List.length_append, bcells_len]; omega) | (simp only [List.length_append, bcells_len, List.length_cons, List.length_nil]; omega) | (simp only [bcells_len, List.length_cons, List.length_nil]; omega))) ?_
      refine JR.run rfl rfl (r_assignOwn rfl rfl rfl rfl) ?_
      refine JR.done [] (by kernel_rfl) rfl (by kernel_rfl) ?_
      refine J_weak [(3, _), (4, _), (2003, _)] ⟨rfl, rfl, rfl, trivial⟩ ?_
      refine J_ret ?_
      exact ⟨.inl rfl, _, rfl, .of (by rw [mTxt_1]; rfl), trivial⟩
    | bool  =>
      have hs2 : els.length + 30 ≤ 1000000000 := by simp only [Ty.size, Ty.sizes] at hs; omega
      refine con_intro rfl rfl (by kernel_rfl) (by kernel_rfl) ?_
      refine J_seq ?_
      refine JR.start ?_
      refine JR.run rfl rfl (r_boxA (x := 2003) rfl rfl rfl rfl) ?_
      refine JR.run rfl rfl (r_assign rfl rfl rfl trivial) ?_
      refine JR.done [] (by kernel_rfl) rfl (by kernel_rfl) ?_
      refine J_weak [(0, _), (3, _), (4, _), (2003, _)] ⟨rfl, rfl, rfl, rfl, trivial⟩ ?_
      refine J_seq ?_
      refine J_seq ?_
      refine JR.start ?_
      refine JR.run rfl rfl (r_fieldAddr (off := 0) (m := 1) rfl rfl (by kernel_rfl) rfl) ?_
      refine JR.run rfl rfl (r_load rfl rfl (by kernel_rfl) rfl rfl rfl) ?_
      refine JR.done [] (by kernel_rfl) rfl (by kernel_rfl) ?_
      refine J_weak [(0, _), (3, _), (4, _), (6, _), (2003, _)] ⟨rfl, rfl, rfl, rfl, rfl, trivial⟩ ?_
      refine J_block ?_
      refine J_seq ?_
      refine JR.start ?_
      refine JR.run rfl rfl (r_eqI rfl rfl rfl rfl) ?_
      refine JR.run rfl rfl (r_assign rfl rfl rfl trivial) ?_
      refine JR.done [] (by kernel_rfl) rfl (by kernel_rfl) ?_
      refine J_weak [(0, _), (3, _), (4, _), (6, _), (7, _), (2003, _)] ⟨rfl, rfl, rfl, rfl, rfl, rfl, trivial⟩ ?_
      refine J_condF rfl ?_
      refine J_seq ?_
      refine JR.start ?_
      refine JR.run rfl rfl (r_eqI rfl rfl rfl rfl) ?_
      refine JR.run rfl rfl (r_assign rfl rfl rfl trivial) ?_
      refine JR.done [] (by kernel_rfl) rfl (by kernel_rfl) ?_
      refine J_weak [(0, _), (3, _), (4, _), (6, _), (11, _), (2003, _)] ⟨rfl, rfl, rfl, rfl, rfl, rfl, trivial⟩ ?_
      refine J_condT rfl ?_
      refine J_seq ?_
      refine JR.start ?_
      refine JR.run rfl rfl (r_moveOwn rfl rfl rfl rfl) ?_
      refine JR.run rfl rfl (r_appendS (e := 5) rfl rfl (by kernel_rfl) (by kernel_rfl) (by kernel_rfl) rfl rfl (by first | omega | (simp only [List.length_append]; omega) | (simp only [List.length_cons, List.length_nil]; omega) | (simp only [List.length_append, List.length_cons, List.length_nil]; omega) | (simp only [List.length_append, bcells_len]; omega) | (simp only [List.length_append, bcells_len, List.length_cons, List.length_nil]; omega) | (simp only [bcells_len, List.length_cons, List.length_nil]; omega))) ?_
      refine JR.run rfl rfl (r_assignOwn rfl rfl rfl rfl) ?_
      refine JR.done [] (by kernel_rfl) rfl (by kernel_rfl) ?_
      refine J_weak [(3, _), (4, _), (2003, _)] ⟨rfl, rfl, rfl, trivial⟩ ?_
      refine J_ret ?_
      exact ⟨.inl rfl, _, rfl, .of (by rw [mTxt_2]; rfl), trivial⟩
    | str  =>
      have hs2 : els.length + 30 ≤ 1000000000 := by simp only [Ty.size, Ty.sizes] at hs; omega
      refine con_intro rfl rfl (by kernel_rfl) (by kernel_rfl) ?_
      refine J_seq ?_
      refine JR.start ?_
      refine JR.run rfl rfl (r_boxA (x := 2003) rfl rfl rfl rfl) ?_
      refine JR.run rfl rfl (r_assign rfl rfl rfl trivial) ?_
      refine JR.done [] (by kernel_rfl) rfl (by kernel_rfl) ?_
      refine J_weak [(0, _), (3, _), (4, _), (2003, _)] ⟨rfl, rfl, rfl, rfl, trivial⟩ ?_
      refine J_seq ?_
      refine J_seq ?_
      refine JR.start ?_
      refine JR.run rfl rfl (r_fieldAddr (off := 0) (m := 1) rfl rfl (by kernel_rfl) rfl) ?_
      refine JR.run rfl rfl (r_load rfl rfl (by kernel_rfl) rfl rfl rfl) ?_
      refine JR.done [] (by kernel_rfl) rfl (by kernel_rfl) ?_
      refine J_weak [(0, _), (3, _), (4, _), (6, _), (2003, _)] ⟨rfl, rfl, rfl, rfl, rfl, trivial⟩ ?_
      refine J_block ?_
      refine J_seq ?_
      refine JR.start ?_
      refine JR.run rfl rfl (r_eqI rfl rfl rfl rfl) ?_
      refine JR.run rfl rfl (r_assign rfl rfl rfl trivial) ?_
      refine JR.done [] (by kernel_rfl) rfl (by kernel_rfl) ?_
      refine J_weak [(0, _), (3, _), (4, _), (6, _), (7, _), (2003, _)] ⟨rfl, rfl, rfl, rfl, rfl, rfl, trivial⟩ ?_
      refine J_condF rfl ?_
      refine J_seq ?_
      refine JR.start ?_
      refine JR.run rfl rfl (r_eqI rfl rfl rfl rfl) ?_
      refine JR.run rfl rfl (r_assign rfl rfl rfl trivial) ?_
      refine JR.done [] (by kernel_rfl) rfl (by kernel_rfl) ?_
      refine J_weak [(0, _), (3, _), (4, _), (6, _), (11, _), (2003, _)] ⟨rfl, rfl, rfl, rfl, rfl, rfl, trivial⟩ ?_
      refine J_condF rfl ?_
      refine J_seq ?_
      refine JR.start ?_
      refine JR.run rfl rfl (r_eqI rfl rfl rfl rfl) ?_
      refine JR.run rfl rfl (r_assign rfl rfl rfl trivial) ?_
      refine JR.done [] (by kernel_rfl) rfl (by kernel_rfl) ?_
      refine J_weak [(0, _), (3, _), (4, _), (6, _), (15, _), (2003, _)] ⟨rfl, rfl, rfl, rfl, rfl, rfl, trivial⟩ ?_
      refine J_condT rfl ?_
      refine J_seq ?_
      refine JR.start ?_
      refine JR.run rfl rfl (r_moveOwn rfl rfl rfl rfl) ?_
      refine JR.run rfl rfl (r_appendS (e := 5) rfl rfl (by kernel_rfl) (by kernel_rfl) (by kernel_rfl) rfl rfl (by first | omega | (simp only [List.length_append]; omega) | (simp only [List.length_cons, List.length_nil]; omega) | (simp only [List.length_append, List.length_cons, List.length_nil]; omega) | (simp only [List.length_append, bcells_len]; omega) | (simp only [List.length_append, bcells_len, List.length_cons, List.length_nil]; omega) | (simp only [bcells_len, List.length_cons, List.length_nil]; omega))) ?_
      refine JR.run rfl rfl (r_assignOwn rfl rfl rfl rfl) ?_
      refine JR.done [] (by kernel_rfl) rfl (by kernel_rfl) ?_
      refine J_weak [(3, _), (4, _), (2003, _)] ⟨rfl, rfl, rfl, trivial⟩ ?_
      refine J_ret ?_
      exact ⟨.inl rfl, _, rfl, .of (by rw [mTxt_3]; rfl), trivial⟩
    | unit  =>
      have hs2 : els.length + 30 ≤ 1000000000 := by simp only [Ty.size, Ty.sizes] at hs; omega
      refine con_intro rfl rfl (by kernel_rfl) (by kernel_rfl) ?_
      refine J_seq ?_
      refine JR.start ?_
      refine JR.run rfl rfl (r_boxA (x := 2003) rfl rfl rfl rfl) ?_
      refine JR.run rfl rfl (r_assign rfl rfl rfl trivial) ?_
      refine JR.done [] (by kernel_rfl) rfl (by kernel_rfl) ?_
      refine J_weak [(0, _), (3, _), (4, _), (2003, _)] ⟨rfl, rfl, rfl, rfl, trivial⟩ ?_
      refine J_seq ?_
      refine J_seq ?_
      refine JR.start ?_
      refine JR.run rfl rfl (r_fieldAddr (off := 0) (m := 1) rfl rfl (by kernel_rfl) rfl) ?_
      refine JR.run rfl rfl (r_load rfl rfl (by kernel_rfl) rfl rfl rfl) ?_
      refine JR.done [] (by kernel_rfl) rfl (by kernel_rfl) ?_
      refine J_weak [(0, _), (3, _), (4, _), (6, _), (2003, _)] ⟨rfl, rfl, rfl, rfl, rfl, trivial⟩ ?_
      refine J_block ?_
      refine J_seq ?_
      refine JR.start ?_
      refine JR.run rfl rfl (r_eqI rfl rfl rfl rfl) ?_
      refine JR.run rfl rfl (r_assign rfl rfl rfl trivial) ?_
      refine JR.done [] (by kernel_rfl) rfl (by kernel_rfl) ?_
      refine J_weak [(0, _), (3, _), (4, _), (6, _), (7, _), (2003, _)] ⟨rfl, rfl, rfl, rfl, rfl, rfl, trivial⟩ ?_
      refine J_condF rfl ?_
      refine J_seq ?_
      refine JR.start ?_
      refine JR.run rfl rfl (r_eqI rfl rfl rfl rfl) ?_
      refine JR.run rfl rfl (r_assign rfl rfl rfl trivial) ?_
      refine JR.done [] (by kernel_rfl) rfl (by kernel_rfl) ?_
      refine J_weak [(0, _), (3, _), (4, _), (6, _), (11, _), (2003, _)] ⟨rfl, rfl, rfl, rfl, rfl, rfl, trivial⟩ ?_
      refine J_condF rfl ?_
      refine J_seq ?_
      refine JR.start ?_
      refine JR.run rfl rfl (r_eqI rfl rfl rfl rfl) ?_
      refine JR.run rfl rfl (r_assign rfl rfl rfl trivial) ?_
      refine JR.done [] (by kernel_rfl) rfl (by kernel_rfl) ?_
      refine J_weak [(0, _), (3, _), (4, _), (6, _), (15, _), (2003, _)] ⟨rfl, rfl, rfl, rfl, rfl, rfl, trivial⟩ ?_
      refine J_condF rfl ?_
      refine J_seq ?_
      refine JR.start ?_
      refine JR.run rfl rfl (r_eqI rfl rfl rfl rfl) ?_
      refine JR.run rfl rfl (r_assign rfl rfl rfl trivial) ?_
      refine JR.done [] (by kernel_rfl) rfl (by kernel_rfl) ?_
      refine J_weak [(0, _), (3, _), (4, _), (6, _), (19, _), (2003, _)] ⟨rfl, rfl, rfl, rfl, rfl, rfl, trivial⟩ ?_
      refine J_condT rfl ?_
      refine J_seq ?_
      refine JR.start ?_
      refine JR.run rfl rfl (r_moveOwn rfl rfl rfl rfl) ?_
      refine JR.run rfl rfl (r_appendS (e := 5) rfl rfl (by kernel_rfl) (by kernel_rfl) (by kernel_rfl) rfl rfl (by first | omega | (simp only [List.length_append]; omega) | (simp only [List.length_cons, List.length_nil]; omega) | (simp only [List.length_append, List.length_cons, List.length_nil]; omega) | (simp only [List.length_append, bcells_len]; omega) | (simp only [List.length_append, bcells_len, List.length_cons, List.length_nil]; omega) | (simp only [bcells_len, List.length_cons, List.length_nil]; omega))) ?_
      refine JR.run rfl rfl (r_assignOwn rfl rfl rfl rfl) ?_
      refine JR.done [] (by kernel_rfl) rfl (by kernel_rfl) ?_
      refine J_weak [(3, _), (4, _), (2003, _)] ⟨rfl, rfl, rfl, trivial⟩ ?_
      refine J_ret ?_
      exact ⟨.inl rfl, _, rfl, .of (by rw [mTxt_4]; rfl), trivial⟩
    | dyn  =>
      have hs2 : els.length + 30 ≤ 1000000000 := by simp only [Ty.size, Ty.sizes] at hs; omega
      refine con_intro rfl rfl (by kernel_rfl) (by kernel_rfl) ?_
      refine J_seq ?_
      refine JR.start ?_
      refine JR.run rfl rfl (r_boxA (x := 2003) rfl rfl rfl rfl) ?_
      refine JR.run rfl rfl (r_assign rfl rfl rfl trivial) ?_
      refine JR.done [] (by kernel_rfl) rfl (by kernel_rfl) ?_
      refine J_weak [(0, _), (3, _), (4, _), (2003, _)] ⟨rfl, rfl, rfl, rfl, trivial⟩ ?_
      refine J_seq ?_
      refine J_seq ?_
      refine JR.start ?_
      refine JR.run rfl rfl (r_fieldAddr (off := 0) (m := 1) rfl rfl (by kernel_rfl) rfl) ?_
      refine JR.run rfl rfl (r_load rfl rfl (by kernel_rfl) rfl rfl rfl) ?_
      refine JR.done [] (by kernel_rfl) rfl (by kernel_rfl) ?_
      refine J_weak [(0, _), (3, _), (4, _), (6, _), (2003, _)] ⟨rfl, rfl, rfl, rfl, rfl, trivial⟩ ?_
      refine J_block ?_
      refine J_seq ?_
      refine JR.start ?_
      refine JR.run rfl rfl (r_eqI rfl rfl rfl rfl) ?_
      refine JR.run rfl rfl (r_assign rfl rfl rfl trivial) ?_
      refine JR.done [] (by kernel_rfl) rfl (by kernel_rfl) ?_
      refine J_weak [(0, _), (3, _), (4, _), (6, _), (7, _), (2003, _)] ⟨rfl, rfl, rfl, rfl, rfl, rfl, trivial⟩ ?_
      refine J_condF rfl ?_
      refine J_seq ?_
      refine JR.start ?_
      refine JR.run rfl rfl (r_eqI rfl rfl rfl rfl) ?_
      refine JR.run rfl rfl (r_assign rfl rfl rfl trivial) ?_
      refine JR.done [] (by kernel_rfl) rfl (by kernel_rfl) ?_
      refine J_weak [(0, _), (3, _), (4, _), (6, _), (11, _), (2003, _)] ⟨rfl, rfl, rfl, rfl, rfl, rfl, trivial⟩ ?_
      refine J_condF rfl ?_
      refine J_seq ?_
      refine JR.start ?_
      refine JR.run rfl rfl (r_eqI rfl rfl rfl rfl) ?_
      refine JR.run rfl rfl (r_assign rfl rfl rfl trivial) ?_
      refine JR.done [] (by kernel_rfl) rfl (by kernel_rfl) ?_
      refine J_weak [(0, _), (3, _), (4, _), (6, _), (15, _), (2003, _)] ⟨rfl, rfl, rfl, rfl, rfl, rfl, trivial⟩ ?_
      refine J_condF rfl ?_
      refine J_seq ?_
      refine JR.start ?_
      refine JR.run rfl rfl (r_eqI rfl rfl rfl rfl) ?_
      refine JR.run rfl rfl (r_assign rfl rfl rfl trivial) ?_
      refine JR.done [] (by kernel_rfl) rfl (by kernel_rfl) ?_
      refine J_weak [(0, _), (3, _), (4, _), (6, _), (19, _), (2003, _)] ⟨rfl, rfl, rfl, rfl, rfl, rfl, trivial⟩ ?_
      refine J_condF rfl ?_
      refine J_seq ?_
      refine JR.start ?_
      refine JR.run rfl rfl (r_eqI rfl rfl rfl rfl) ?_
      refine JR.run rfl rfl (r_assign rfl rfl rfl trivial) ?_
      refine JR.done [] (by kernel_rfl) rfl (by kernel_rfl) ?_
      refine J_weak [(0, _), (3, _), (4, _), (6, _), (23, _), (2003, _)] ⟨rfl, rfl, rfl, rfl, rfl, rfl, trivial⟩ ?_
      refine J_condT rfl ?_
      refine J_seq ?_
      refine JR.start ?_
      refine JR.run rfl rfl (r_moveOwn rfl rfl rfl rfl) ?_
      refine JR.run rfl rfl (r_buildSlice (e := 5) (sz := 1) (zs := [.int .u8 0]) ([[.lit (.int .u8 63)]]) rfl rfl (by kernel_rfl) (by kernel_rfl) rfl rfl rfl rfl) ?_
      refine JR.run rfl rfl (r_append (e := 5) (sz := 1) (b := 1) rfl rfl (by kernel_rfl) rfl rfl (by first | omega | (simp only [List.length_append]; omega) | (simp only [List.length_cons, List.length_nil]; omega) | (simp only [List.length_append, List.length_cons, List.length_nil]; omega) | (simp only [List.length_append, bcells_len]; omega) | (simp only [List.length_append, bcells_len, List.length_cons, List.length_nil]; omega) | (simp only [bcells_len, List.length_cons, List.length_nil]; omega)) (by first | omega | (simp only [List.length_append]; omega) | (simp only [List.length_cons, List.length_nil]; omega) | (simp only [List.length_append, List.length_cons, List.length_nil]; omega) | (simp only [List.length_append, bcells_len]; omega) | (simp only [List.length_append, bcells_len, List.length_cons, List.length_nil]; omega) | (simp only [bcells_len, List.length_cons, List.length_nil]; omega))) ?_
      refine JR.run rfl rfl (r_assignOwn rfl rfl rfl rfl) ?_
      refine JR.done [] (by kernel_rfl) rfl (by kernel_rfl) ?_
      refine J_weak [(3, _), (4, _), (2003, _)] ⟨rfl, rfl, rfl, trivial⟩ ?_
      refine J_ret ?_
      exact ⟨.inl rfl, _, rfl, .of (by rw [mTxt_5]; rfl), trivial⟩
    | var n h1 h2 =>
      have hs2 : els.length + 30 ≤ 1000000000 := by simp only [Ty.size, Ty.sizes] at hs; omega
      have ln := mNum_small h1 h2
      refine con_intro rfl rfl (by kernel_rfl) (by kernel_rfl) ?_
      refine J_seq ?_
      refine JR.start ?_
      refine JR.run rfl rfl (r_boxA (x := 2003) rfl rfl rfl rfl) ?_
      refine JR.run rfl rfl (r_assign rfl rfl rfl trivial) ?_
      refine JR.done [] (by kernel_rfl) rfl (by kernel_rfl) ?_
      refine J_weak [(0, _), (3, _), (4, _), (2003, _)] ⟨rfl, rfl, rfl, rfl, trivial⟩ ?_
      refine J_seq ?_
      refine J_seq ?_
      refine JR.start ?_
      refine JR.run rfl rfl (r_fieldAddr (off := 0) (m := 1) rfl rfl (by kernel_rfl) rfl) ?_
      refine JR.run rfl rfl (r_load rfl rfl (by kernel_rfl) rfl rfl rfl) ?_
      refine JR.done [] (by kernel_rfl) rfl (by kernel_rfl) ?_
      refine J_weak [(0, _), (3, _), (4, _), (6, _), (2003, _)] ⟨rfl, rfl, rfl, rfl, rfl, trivial⟩ ?_
      refine J_block ?_
      refine J_seq ?_
      refine JR.start ?_
      refine JR.run rfl rfl (r_eqI rfl rfl rfl rfl) ?_
      refine JR.run rfl rfl (r_assign rfl rfl rfl trivial) ?_
      refine JR.done [] (by kernel_rfl) rfl (by kernel_rfl) ?_
      refine J_weak [(0, _), (3, _), (4, _), (6, _), (7, _), (2003, _)] ⟨rfl, rfl, rfl, rfl, rfl, rfl, trivial⟩ ?_
      refine J_condF rfl ?_
      refine J_seq ?_
      refine JR.start ?_
      refine JR.run rfl rfl (r_eqI rfl rfl rfl rfl) ?_
      refine JR.run rfl rfl (r_assign rfl rfl rfl trivial) ?_
      refine JR.done [] (by kernel_rfl) rfl (by kernel_rfl) ?_
      refine J_weak [(0, _), (3, _), (4, _), (6, _), (11, _), (2003, _)] ⟨rfl, rfl, rfl, rfl, rfl, rfl, trivial⟩ ?_
      refine J_condF rfl ?_
      refine J_seq ?_
      refine JR.start ?_
      refine JR.run rfl rfl (r_eqI rfl rfl rfl rfl) ?_
      refine JR.run rfl rfl (r_assign rfl rfl rfl trivial) ?_
      refine JR.done [] (by kernel_rfl) rfl (by kernel_rfl) ?_
      refine J_weak [(0, _), (3, _), (4, _), (6, _), (15, _), (2003, _)] ⟨rfl, rfl, rfl, rfl, rfl, rfl, trivial⟩ ?_
      refine J_condF rfl ?_
      refine J_seq ?_
      refine JR.start ?_
      refine JR.run rfl rfl (r_eqI rfl rfl rfl rfl) ?_
      refine JR.run rfl rfl (r_assign rfl rfl rfl trivial) ?_
      refine JR.done [] (by kernel_rfl) rfl (by kernel_rfl) ?_
      refine J_weak [(0, _), (3, _), (4, _), (6, _), (19, _), (2003, _)] ⟨rfl, rfl, rfl, rfl, rfl, rfl, trivial⟩ ?_
      refine J_condF rfl ?_
      refine J_seq ?_
      refine JR.start ?_
      refine JR.run rfl rfl (r_eqI rfl rfl rfl rfl) ?_
      refine JR.run rfl rfl (r_assign rfl rfl rfl trivial) ?_
      refine JR.done [] (by kernel_rfl) rfl (by kernel_rfl) ?_
      refine J_weak [(0, _), (3, _), (4, _), (6, _), (23, _), (2003, _)] ⟨rfl, rfl, rfl, rfl, rfl, rfl, trivial⟩ ?_
      refine J_condF rfl ?_
      refine J_seq ?_
      refine JR.start ?_
      refine JR.run rfl rfl (r_eqI rfl rfl rfl rfl) ?_
      refine JR.run rfl rfl (r_assign rfl rfl rfl trivial) ?_
      refine JR.done [] (by kernel_rfl) rfl (by kernel_rfl) ?_
      refine J_weak [(0, _), (3, _), (4, _), (6, _), (28, _), (2003, _)] ⟨rfl, rfl, rfl, rfl, rfl, rfl, trivial⟩ ?_
      refine J_condT rfl ?_
      refine J_seq ?_
      refine JR.start ?_
      refine JR.run rfl rfl (r_moveOwn rfl rfl rfl rfl) ?_
      refine JR.run rfl rfl (r_buildSlice (e := 5) (sz := 1) (zs := [.int .u8 0]) ([[.lit (.int .u8 39)]]) rfl rfl (by kernel_rfl) (by kernel_rfl) rfl rfl rfl rfl) ?_
      refine JR.run rfl rfl (r_append (e := 5) (sz := 1) (b := 1) rfl rfl (by kernel_rfl) rfl rfl (by first | omega | (simp only [List.length_append]; omega) | (simp only [List.length_cons, List.length_nil]; omega) | (simp only [List.length_append, List.length_cons, List.length_nil]; omega) | (simp only [List.length_append, bcells_len]; omega) | (simp only [List.length_append, bcells_len, List.length_cons, List.length_nil]; omega) | (simp only [bcells_len, List.length_cons, List.length_nil]; omega)) (by first | omega | (simp only [List.length_append]; omega) | (simp only [List.length_cons, List.length_nil]; omega) | (simp only [List.length_append, List.length_cons, List.length_nil]; omega) | (simp only [List.length_append, bcells_len]; omega) | (simp only [List.length_append, bcells_len, List.length_cons, List.length_nil]; omega) | (simp only [bcells_len, List.length_cons, List.length_nil]; omega))) ?_
      refine JR.run rfl rfl (r_fieldAddr (off := 1) (m := 1) rfl rfl (by kernel_rfl) rfl) ?_
      refine JR.run rfl rfl (r_load rfl rfl (by kernel_rfl) rfl rfl rfl) ?_
      refine JR.run rfl rfl (r_call (kWordNum n h1 h2) rfl rfl rfl trivial (by kernel_rfl)) ?_
      refine JR.run rfl rfl (r_appendS (e := 5) rfl rfl (by kernel_rfl) (by kernel_rfl) (by kernel_rfl) rfl rfl (by first | omega | (simp only [List.length_append]; omega) | (simp only [List.length_cons, List.length_nil]; omega) | (simp only [List.length_append, List.length_cons, List.length_nil]; omega) | (simp only [List.length_append, bcells_len]; omega) | (simp only [List.length_append, bcells_len, List.length_cons, List.length_nil]; omega) | (simp only [bcells_len, List.length_cons, List.length_nil]; omega))) ?_
      refine JR.run rfl rfl (r_assignOwn rfl rfl rfl rfl) ?_
      refine JR.done [[], [], [0, 1], [], [3], [0, 1, 2, 3, 4], [0, 1, 2, 3, 4, 5], [0, 1, 2, 3, 4, 5, 6]] (by kernel_rfl) rfl (by kernel_rfl) ?_
      refine J_weak [(3, _), (4, _), (2003, _)] ⟨rfl, rfl, rfl, trivial⟩ ?_
      refine J_ret ?_
      exact ⟨.inl rfl, _, rfl, .of (by rw [mTxt_var]; simp [bcells]), trivial⟩
    | pair a b ha hb =>
      have sa : a.size ≤ m := by simp only [Ty.size, Ty.sizes] at hm; omega
      have sb : b.size ≤ m := by simp only [Ty.size, Ty.sizes] at hm; omega
      have hs2 : els.length + 30 * (1 + (a.size + b.size)) ≤ 1000000000 := by simp only [Ty.size, Ty.sizes] at hs; omega
      have la := mKid_len ha
      have lb := mKid_len hb
      have ca := kKidOf a ha (fun els hl => kPut m a els sa ha hl) els (by omega)
      have cb := kKidOf b hb (fun els hl => kPut m b els sb hb hl) (els ++ bcells (mKid a) ++ bcells [32, 42, 32]) (by simp only [List.length_append, bcells_len, List.length_cons, List.length_nil]; omega)
      refine con_intro rfl rfl (by kernel_rfl) (by kernel_rfl) ?_
      refine J_seq ?_
      refine JR.start ?_
      refine JR.run rfl rfl (r_boxA (x := 2003) rfl rfl rfl rfl) ?_
      refine JR.run rfl rfl (r_assign rfl rfl rfl trivial) ?_
      refine JR.done [] (by kernel_rfl) rfl (by kernel_rfl) ?_
      refine J_weak [(0, _), (3, _), (4, _), (2003, _)] ⟨rfl, rfl, rfl, rfl, trivial⟩ ?_
      refine J_seq ?_
      refine J_seq ?_
      refine JR.start ?_
      refine JR.run rfl rfl (r_fieldAddr (off := 0) (m := 1) rfl rfl (by kernel_rfl) rfl) ?_
      refine JR.run rfl rfl (r_load rfl rfl (by kernel_rfl) rfl rfl rfl) ?_
      refine JR.done [] (by kernel_rfl) rfl (by kernel_rfl) ?_
      refine J_weak [(0, _), (3, _), (4, _), (6, _), (2003, _)] ⟨rfl, rfl, rfl, rfl, rfl, trivial⟩ ?_
      refine J_block ?_
      refine J_seq ?_
      refine JR.start ?_
      refine JR.run rfl rfl (r_eqI rfl rfl rfl rfl) ?_
      refine JR.run rfl rfl (r_assign rfl rfl rfl trivial) ?_
      refine JR.done [] (by kernel_rfl) rfl (by kernel_rfl) ?_
      refine J_weak [(0, _), (3, _), (4, _), (6, _), (7, _), (2003, _)] ⟨rfl, rfl, rfl, rfl, rfl, rfl, trivial⟩ ?_
      refine J_condF rfl ?_
      refine J_seq ?_
      refine JR.start ?_
      refine JR.run rfl rfl (r_eqI rfl rfl rfl rfl) ?_
      refine JR.run rfl rfl (r_assign rfl rfl rfl trivial) ?_
      refine JR.done [] (by kernel_rfl) rfl (by kernel_rfl) ?_
      refine J_weak [(0, _), (3, _), (4, _), (6, _), (11, _), (2003, _)] ⟨rfl, rfl, rfl, rfl, rfl, rfl, trivial⟩ ?_
      refine J_condF rfl ?_
      refine J_seq ?_
      refine JR.start ?_
      refine JR.run rfl rfl (r_eqI rfl rfl rfl rfl) ?_
      refine JR.run rfl rfl (r_assign rfl rfl rfl trivial) ?_
      refine JR.done [] (by kernel_rfl) rfl (by kernel_rfl) ?_
      refine J_weak [(0, _), (3, _), (4, _), (6, _), (15, _), (2003, _)] ⟨rfl, rfl, rfl, rfl, rfl, rfl, trivial⟩ ?_
      refine J_condF rfl ?_
      refine J_seq ?_
      refine JR.start ?_
      refine JR.run rfl rfl (r_eqI rfl rfl rfl rfl) ?_
      refine JR.run rfl rfl (r_assign rfl rfl rfl trivial) ?_
      refine JR.done [] (by kernel_rfl) rfl (by kernel_rfl) ?_
      refine J_weak [(0, _), (3, _), (4, _), (6, _), (19, _), (2003, _)] ⟨rfl, rfl, rfl, rfl, rfl, rfl, trivial⟩ ?_
      refine J_condF rfl ?_
      refine J_seq ?_
      refine JR.start ?_
      refine JR.run rfl rfl (r_eqI rfl rfl rfl rfl) ?_
      refine JR.run rfl rfl (r_assign rfl rfl rfl trivial) ?_
      refine JR.done [] (by kernel_rfl) rfl (by kernel_rfl) ?_
      refine J_weak [(0, _), (3, _), (4, _), (6, _), (23, _), (2003, _)] ⟨rfl, rfl, rfl, rfl, rfl, rfl, trivial⟩ ?_
      refine J_condF rfl ?_
      refine J_seq ?_
      refine JR.start ?_
      refine JR.run rfl rfl (r_eqI rfl rfl rfl rfl) ?_
      refine JR.run rfl rfl (r_assign rfl rfl rfl trivial) ?_
      refine JR.done [] (by kernel_rfl) rfl (by kernel_rfl) ?_
      refine J_weak [(0, _), (3, _), (4, _), (6, _), (28, _), (2003, _)] ⟨rfl, rfl, rfl, rfl, rfl, rfl, trivial⟩ ?_
      refine J_condF rfl ?_
      refine J_seq ?_
      refine JR.start ?_
      refine JR.run rfl rfl (r_eqI rfl rfl rfl rfl) ?_
      refine JR.run rfl rfl (r_assign rfl rfl rfl trivial) ?_
      refine JR.done [] (by kernel_rfl) rfl (by kernel_rfl) ?_
      refine J_weak [(0, _), (3, _), (4, _), (6, _), (37, _), (2003, _)] ⟨rfl, rfl, rfl, rfl, rfl, rfl, trivial⟩ ?_
      refine J_condF rfl ?_
      refine J_seq ?_
      refine JR.start ?_
      refine JR.run rfl rfl (r_eqI rfl rfl rfl rfl) ?_
      refine JR.run rfl rfl (r_assign rfl rfl rfl trivial) ?_
      refine JR.done [] (by kernel_rfl) rfl (by kernel_rfl) ?_
      refine J_weak [(0, _), (3, _), (4, _), (46, _), (2003, _)] ⟨rfl, rfl, rfl, rfl, rfl, trivial⟩ ?_
      refine J_condT rfl ?_
      refine J_seq ?_
      refine JR.start ?_
      refine JR.run rfl rfl (r_moveOwn rfl rfl rfl rfl) ?_
      refine JR.run rfl rfl (r_fieldAddr (off := 2) (m := 1) rfl rfl (by kernel_rfl) rfl) ?_
      refine JR.run rfl rfl (r_load rfl rfl (by kernel_rfl) rfl rfl rfl) ?_
      refine JR.run rfl rfl (r_indexAddr (e := 24) (sz := 3) rfl rfl (by kernel_rfl) rfl rfl (Int.le_refl 0) (tysD_at (l := [a, b]) (i := 0) rfl)) ?_
      refine JR.run rfl rfl (r_loadElA (m := 3) rfl rfl (by kernel_rfl) rfl rfl rfl) ?_
      refine JR.run rfl rfl (r_call (ca) rfl rfl rfl trivial (by kernel_rfl)) ?_
      refine JR.run rfl rfl (r_appendS (e := 5) rfl rfl (by kernel_rfl) (by kernel_rfl) (by kernel_rfl) rfl rfl (by first | omega | (simp only [List.length_append]; omega) | (simp only [List.length_cons, List.length_nil]; omega) | (simp only [List.length_append, List.length_cons, List.length_nil]; omega) | (simp only [List.length_append, bcells_len]; omega) | (simp only [List.length_append, bcells_len, List.length_cons, List.length_nil]; omega) | (simp only [bcells_len, List.length_cons, List.length_nil]; omega))) ?_
      refine JR.run rfl rfl (r_fieldAddr (off := 2) (m := 1) rfl rfl (by kernel_rfl) rfl) ?_
      refine JR.run rfl rfl (r_load rfl rfl (by kernel_rfl) rfl rfl rfl) ?_
      refine JR.run rfl rfl (r_indexAddr (e := 24) (sz := 3) rfl rfl (by kernel_rfl) rfl rfl (by decide) (tysD_at (l := [a, b]) (i := 1) rfl)) ?_
      refine JR.run rfl rfl (r_loadElA (m := 3) rfl rfl (by kernel_rfl) rfl rfl rfl) ?_
      refine JR.run rfl rfl (r_call (cb) rfl rfl rfl trivial (by kernel_rfl)) ?_
      refine JR.run rfl rfl (r_assignOwn rfl rfl rfl rfl) ?_
      refine JR.done [[], [], [1], [1, 2], [1, 2, 3], [0, 1, 2, 3, 4], [0, 1, 2, 3, 4, 5], [], [7], [7, 8], [7, 8, 9], [0, 1, 2, 3, 4, 5, 6, 7, 8, 9, 10], [0, 1, 2, 3, 4, 5, 6, 7, 8, 9, 10, 11]] (by kernel_rfl) rfl (by kernel_rfl) ?_
      refine J_weak [(3, _), (4, _), (2003, _)] ⟨rfl, rfl, rfl, trivial⟩ ?_
      refine J_ret ?_
      exact ⟨.inl rfl, _, rfl, .of (by rw [mTxt_pair]; simp [bcells]), trivial⟩
    | list a ha =>
      have sa : a.size ≤ m := by simp only [Ty.size, Ty.sizes] at hm; omega
      have hs2 : els.length + 30 * (1 + a.size) ≤ 1000000000 := by simp only [Ty.size, Ty.sizes] at hs; omega
      have la := mKid_len ha
      have ca := kKidOf a ha (fun els hl => kPut m a els sa ha hl) els (by omega)
      refine con_intro rfl rfl (by kernel_rfl) (by kernel_rfl) ?_
      refine J_seq ?_
      refine JR.start ?_
      refine JR.run rfl rfl (r_boxA (x := 2003) rfl rfl rfl rfl) ?_
      refine JR.run rfl rfl (r_assign rfl rfl rfl trivial) ?_
      refine JR.done [] (by kernel_rfl) rfl (by kernel_rfl) ?_
      refine J_weak [(0, _), (3, _), (4, _), (2003, _)] ⟨rfl, rfl, rfl, rfl, trivial⟩ ?_
      refine J_seq ?_
      refine J_seq ?_
      refine JR.start ?_
      refine JR.run rfl rfl (r_fieldAddr (off := 0) (m := 1) rfl rfl (by kernel_rfl) rfl) ?_
      refine JR.run rfl rfl (r_load rfl rfl (by kernel_rfl) rfl rfl rfl) ?_
      refine JR.done [] (by kernel_rfl) rfl (by kernel_rfl) ?_
      refine J_weak [(0, _), (3, _), (4, _), (6, _), (2003, _)] ⟨rfl, rfl, rfl, rfl, rfl, trivial⟩ ?_
      refine J_block ?_
      refine J_seq ?_
      refine JR.start ?_
      refine JR.run rfl rfl (r_eqI rfl rfl rfl rfl) ?_
      refine JR.run rfl rfl (r_assign rfl rfl rfl trivial) ?_
      refine JR.done [] (by kernel_rfl) rfl (by kernel_rfl) ?_
      refine J_weak [(0, _), (3, _), (4, _), (6, _), (7, _), (2003, _)] ⟨rfl, rfl, rfl, rfl, rfl, rfl, trivial⟩ ?_
      refine J_condF rfl ?_
      refine J_seq ?_
      refine JR.start ?_
      refine JR.run rfl rfl (r_eqI rfl rfl rfl rfl) ?_
      refine JR.run rfl rfl (r_assign rfl rfl rfl trivial) ?_
      refine JR.done [] (by kernel_rfl) rfl (by kernel_rfl) ?_
      refine J_weak [(0, _), (3, _), (4, _), (6, _), (11, _), (2003, _)] ⟨rfl, rfl, rfl, rfl, rfl, rfl, trivial⟩ ?_
      refine J_condF rfl ?_
      refine J_seq ?_
      refine JR.start ?_
      refine JR.run rfl rfl (r_eqI rfl rfl rfl rfl) ?_
      refine JR.run rfl rfl (r_assign rfl rfl rfl trivial) ?_
      refine JR.done [] (by kernel_rfl) rfl (by kernel_rfl) ?_
      refine J_weak [(0, _), (3, _), (4, _), (6, _), (15, _), (2003, _)] ⟨rfl, rfl, rfl, rfl, rfl, rfl, trivial⟩ ?_
      refine J_condF rfl ?_
      refine J_seq ?_
      refine JR.start ?_
      refine JR.run rfl rfl (r_eqI rfl rfl rfl rfl) ?_
      refine JR.run rfl rfl (r_assign rfl rfl rfl trivial) ?_
      refine JR.done [] (by kernel_rfl) rfl (by kernel_rfl) ?_
      refine J_weak [(0, _), (3, _), (4, _), (6, _), (19, _), (2003, _)] ⟨rfl, rfl, rfl, rfl, rfl, rfl, trivial⟩ ?_
      refine J_condF rfl ?_
      refine J_seq ?_
      refine JR.start ?_
      refine JR.run rfl rfl (r_eqI rfl rfl rfl rfl) ?_
      refine JR.run rfl rfl (r_assign rfl rfl rfl trivial) ?_
      refine JR.done [] (by kernel_rfl) rfl (by kernel_rfl) ?_
      refine J_weak [(0, _), (3, _), (4, _), (6, _), (23, _), (2003, _)] ⟨rfl, rfl, rfl, rfl, rfl, rfl, trivial⟩ ?_
      refine J_condF rfl ?_
      refine J_seq ?_
      refine JR.start ?_
      refine JR.run rfl rfl (r_eqI rfl rfl rfl rfl) ?_
      refine JR.run rfl rfl (r_assign rfl rfl rfl trivial) ?_
      refine JR.done [] (by kernel_rfl) rfl (by kernel_rfl) ?_
      refine J_weak [(0, _), (3, _), (4, _), (6, _), (28, _), (2003, _)] ⟨rfl, rfl, rfl, rfl, rfl, rfl, trivial⟩ ?_
      refine J_condF rfl ?_
      refine J_seq ?_
      refine JR.start ?_
      refine JR.run rfl rfl (r_eqI rfl rfl rfl rfl) ?_
      refine JR.run rfl rfl (r_assign rfl rfl rfl trivial) ?_
      refine JR.done [] (by kernel_rfl) rfl (by kernel_rfl) ?_
      refine J_weak [(0, _), (3, _), (4, _), (6, _), (37, _), (2003, _)] ⟨rfl, rfl, rfl, rfl, rfl, rfl, trivial⟩ ?_
      refine J_condT rfl ?_
      refine J_seq ?_
      refine JR.start ?_
      refine JR.run rfl rfl (r_moveOwn rfl rfl rfl rfl) ?_
      refine JR.run rfl rfl (r_fieldAddr (off := 2) (m := 1) rfl rfl (by kernel_rfl) rfl) ?_
      refine JR.run rfl rfl (r_load rfl rfl (by kernel_rfl) rfl rfl rfl) ?_
      refine JR.run rfl rfl (r_indexAddr (e := 24) (sz := 3) rfl rfl (by kernel_rfl) rfl rfl (Int.le_refl 0) (tysD_at (l := [a]) (i := 0) rfl)) ?_
      refine JR.run rfl rfl (r_loadElA (m := 3) rfl rfl (by kernel_rfl) rfl rfl rfl) ?_
      refine JR.run rfl rfl (r_call (ca) rfl rfl rfl trivial (by kernel_rfl)) ?_
      refine JR.run rfl rfl (r_appendS (e := 5) rfl rfl (by kernel_rfl) (by kernel_rfl) (by kernel_rfl) rfl rfl (by first | omega | (simp only [List.length_append]; omega) | (simp only [List.length_cons, List.length_nil]; omega) | (simp only [List.length_append, List.length_cons, List.length_nil]; omega) | (simp only [List.length_append, bcells_len]; omega) | (simp only [List.length_append, bcells_len, List.length_cons, List.length_nil]; omega) | (simp only [bcells_len, List.length_cons, List.length_nil]; omega))) ?_
      refine JR.run rfl rfl (r_assignOwn rfl rfl rfl rfl) ?_
      refine JR.done [] (by kernel_rfl) rfl (by kernel_rfl) ?_
      refine J_weak [(3, _), (4, _), (2003, _)] ⟨rfl, rfl, rfl, trivial⟩ ?_
      refine J_ret ?_
      exact ⟨.inl rfl, _, rfl, .of (by rw [mTxt_list]; simp [bcells]), trivial⟩
    | func a b ha hb =>
      have sa : a.size ≤ m := by simp only [Ty.size, Ty.sizes] at hm; omega
      have sb : b.size ≤ m := by simp only [Ty.size, Ty.sizes] at hm; omega
      have hs2 : els.length + 30 * (1 + (a.size + b.size)) ≤ 1000000000 := by simp only [Ty.size, Ty.sizes] at hs; omega
      have la := mKid_len ha
      have lb := mKid_len hb
      have ca := kKidOf a ha (fun els hl => kPut m a els sa ha hl) els (by omega)
      have cb := kKidOf b hb (fun els hl => kPut m b els sb hb hl) (els ++ bcells (mKid a) ++ bcells [32, 45, 62, 32]) (by simp only [List.length_append, bcells_len, List.length_cons, List.length_nil]; omega)
      refine con_intro rfl rfl (by kernel_rfl) (by kernel_rfl) ?_
      refine J_seq ?_
      refine JR.start ?_
      refine JR.run rfl rfl (r_boxA (x := 2003) rfl rfl rfl rfl) ?_
      refine JR.run rfl rfl (r_assign rfl rfl rfl trivial) ?_
      refine JR.done [] (by kernel_rfl) rfl (by kernel_rfl) ?_
      refine J_weak [(0, _), (3, _), (4, _), (2003, _)] ⟨rfl, rfl, rfl, rfl, trivial⟩ ?_
      refine J_seq ?_
      refine J_seq ?_
      refine JR.start ?_
      refine JR.run rfl rfl (r_fieldAddr (off := 0) (m := 1) rfl rfl (by kernel_rfl) rfl) ?_
      refine JR.run rfl rfl (r_load rfl rfl (by kernel_rfl) rfl rfl rfl) ?_
      refine JR.done [] (by kernel_rfl) rfl (by kernel_rfl) ?_
      refine J_weak [(0, _), (3, _), (4, _), (6, _), (2003, _)] ⟨rfl, rfl, rfl, rfl, rfl, trivial⟩ ?_
      refine J_block ?_
      refine J_seq ?_
      refine JR.start ?_
      refine JR.run rfl rfl (r_eqI rfl rfl rfl rfl) ?_
      refine JR.run rfl rfl (r_assign rfl rfl rfl trivial) ?_
      refine JR.done [] (by kernel_rfl) rfl (by kernel_rfl) ?_
      refine J_weak [(0, _), (3, _), (4, _), (6, _), (7, _), (2003, _)] ⟨rfl, rfl, rfl, rfl, rfl, rfl, trivial⟩ ?_
      refine J_condF rfl ?_
      refine J_seq ?_
      refine JR.start ?_
      refine JR.run rfl rfl (r_eqI rfl rfl rfl rfl) ?_
      refine JR.run rfl rfl (r_assign rfl rfl rfl trivial) ?_
      refine JR.done [] (by kernel_rfl) rfl (by kernel_rfl) ?_
      refine J_weak [(0, _), (3, _), (4, _), (6, _), (11, _), (2003, _)] ⟨rfl, rfl, rfl, rfl, rfl, rfl, trivial⟩ ?_
      refine J_condF rfl ?_
      refine J_seq ?_
      refine JR.start ?_
      refine JR.run rfl rfl (r_eqI rfl rfl rfl rfl) ?_
      refine JR.run rfl rfl (r_assign rfl rfl rfl trivial) ?_
      refine JR.done [] (by kernel_rfl) rfl (by kernel_rfl) ?_
      refine J_weak [(0, _), (3, _), (4, _), (6, _), (15, _), (2003, _)] ⟨rfl, rfl, rfl, rfl, rfl, rfl, trivial⟩ ?_
      refine J_condF rfl ?_
      refine J_seq ?_
      refine JR.start ?_
      refine JR.run rfl rfl (r_eqI rfl rfl rfl rfl) ?_
      refine JR.run rfl rfl (r_assign rfl rfl rfl trivial) ?_
      refine JR.done [] (by kernel_rfl) rfl (by kernel_rfl) ?_
      refine J_weak [(0, _), (3, _), (4, _), (6, _), (19, _), (2003, _)] ⟨rfl, rfl, rfl, rfl, rfl, rfl, trivial⟩ ?_
      refine J_condF rfl ?_
      refine J_seq ?_
      refine JR.start ?_
      refine JR.run rfl rfl (r_eqI rfl rfl rfl rfl) ?_
      refine JR.run rfl rfl (r_assign rfl rfl rfl trivial) ?_
      refine JR.done [] (by kernel_rfl) rfl (by kernel_rfl) ?_
      refine J_weak [(0, _), (3, _), (4, _), (6, _), (23, _), (2003, _)] ⟨rfl, rfl, rfl, rfl, rfl, rfl, trivial⟩ ?_
      refine J_condF rfl ?_
      refine J_seq ?_
      refine JR.start ?_
      refine JR.run rfl rfl (r_eqI rfl rfl rfl rfl) ?_
      refine JR.run rfl rfl (r_assign rfl rfl rfl trivial) ?_
      refine JR.done [] (by kernel_rfl) rfl (by kernel_rfl) ?_
      refine J_weak [(0, _), (3, _), (4, _), (6, _), (28, _), (2003, _)] ⟨rfl, rfl, rfl, rfl, rfl, rfl, trivial⟩ ?_
      refine J_condF rfl ?_
      refine J_seq ?_
      refine JR.start ?_
      refine JR.run rfl rfl (r_eqI rfl rfl rfl rfl) ?_
      refine JR.run rfl rfl (r_assign rfl rfl rfl trivial) ?_
      refine JR.done [] (by kernel_rfl) rfl (by kernel_rfl) ?_
      refine J_weak [(0, _), (3, _), (4, _), (6, _), (37, _), (2003, _)] ⟨rfl, rfl, rfl, rfl, rfl, rfl, trivial⟩ ?_
      refine J_condF rfl ?_
      refine J_seq ?_
      refine JR.start ?_
      refine JR.run rfl rfl (r_eqI rfl rfl rfl rfl) ?_
      refine JR.run rfl rfl (r_assign rfl rfl rfl trivial) ?_
      refine JR.done [] (by kernel_rfl) rfl (by kernel_rfl) ?_
      refine J_weak [(0, _), (3, _), (4, _), (46, _), (2003, _)] ⟨rfl, rfl, rfl, rfl, rfl, trivial⟩ ?_
      refine J_condF rfl ?_
      refine J_skip ?_
      refine J_seq ?_
      refine JR.start ?_
      refine JR.run rfl rfl (r_moveOwn rfl rfl rfl rfl) ?_
      refine JR.run rfl rfl (r_fieldAddr (off := 2) (m := 1) rfl rfl (by kernel_rfl) rfl) ?_
      refine JR.run rfl rfl (r_load rfl rfl (by kernel_rfl) rfl rfl rfl) ?_
      refine JR.run rfl rfl (r_indexAddr (e := 24) (sz := 3) rfl rfl (by kernel_rfl) rfl rfl (Int.le_refl 0) (tysD_at (l := [a, b]) (i := 0) rfl)) ?_
      refine JR.run rfl rfl (r_loadElA (m := 3) rfl rfl (by kernel_rfl) rfl rfl rfl) ?_
      refine JR.run rfl rfl (r_call (ca) rfl rfl rfl trivial (by kernel_rfl)) ?_
      refine JR.run rfl rfl (r_appendS (e := 5) rfl rfl (by kernel_rfl) (by kernel_rfl) (by kernel_rfl) rfl rfl (by first | omega | (simp only [List.length_append]; omega) | (simp only [List.length_cons, List.length_nil]; omega) | (simp only [List.length_append, List.length_cons, List.length_nil]; omega) | (simp only [List.length_append, bcells_len]; omega) | (simp only [List.length_append, bcells_len, List.length_cons, List.length_nil]; omega) | (simp only [bcells_len, List.length_cons, List.length_nil]; omega))) ?_
      refine JR.run rfl rfl (r_fieldAddr (off := 2) (m := 1) rfl rfl (by kernel_rfl) rfl) ?_
      refine JR.run rfl rfl (r_load rfl rfl (by kernel_rfl) rfl rfl rfl) ?_
      refine JR.run rfl rfl (r_indexAddr (e := 24) (sz := 3) rfl rfl (by kernel_rfl) rfl rfl (by decide) (tysD_at (l := [a, b]) (i := 1) rfl)) ?_
      refine JR.run rfl rfl (r_loadElA (m := 3) rfl rfl (by kernel_rfl) rfl rfl rfl) ?_
      refine JR.run rfl rfl (r_call (cb) rfl rfl rfl trivial (by kernel_rfl)) ?_
      refine JR.run rfl rfl (r_assignOwn rfl rfl rfl rfl) ?_
      refine JR.done [[], [], [1], [1, 2], [1, 2, 3], [0, 1, 2, 3, 4], [0, 1, 2, 3, 4, 5], [], [7], [7, 8], [7, 8, 9], [0, 1, 2, 3, 4, 5, 6, 7, 8, 9, 10], [0, 1, 2, 3, 4, 5, 6, 7, 8, 9, 10, 11]] (by kernel_rfl) rfl (by kernel_rfl) ?_
      refine J_weak [(4, _)] ⟨rfl, trivial⟩ ?_
      refine J_ret ?_
      exact ⟨.inl rfl, _, rfl, .of (by rw [mTxt_fun]; simp [bcells]), trivial⟩

theorem kText (t : Ty) (h : t.size ≤ 100000) : Con Tryz.prog 24 [.agg (tyE t)] [] (.tup [.c (.lit (str (if mRight t then mTxt t else []))), .c (.lit (.int .i64 (if mRight t then 0 else 1)))]) [] := by
  have hc := kCheck t (by omega)
  cases hr : mRight t with
  | false =>
    rw [hr] at hc
    refine con_intro rfl rfl (by kernel_rfl) (by kernel_rfl) ?_
    refine J_seq ?_
    refine JR.start ?_
    refine JR.run rfl rfl (r_boxA (x := 2001) rfl rfl rfl rfl) ?_
    refine JR.run rfl rfl (r_assign rfl rfl rfl trivial) ?_
    refine JR.run rfl rfl (r_assign rfl rfl rfl trivial) ?_
    refine JR.done [] (by kernel_rfl) rfl (by kernel_rfl) ?_
    refine J_weak [(1, _), (2, _), (3, _), (2001, _)] ⟨rfl, rfl, rfl, rfl, trivial⟩ ?_
    refine J_seq ?_
    refine J_seq ?_
    refine JR.start ?_
    refine JR.run rfl rfl (r_loadA (m := 3) (us := _) rfl rfl (by kernel_rfl) rfl rfl rfl rfl) ?_
    refine JR.run rfl rfl (r_call (hc) rfl rfl rfl trivial (by kernel_rfl)) ?_
    refine JR.run rfl rfl (r_assign rfl rfl rfl trivial) ?_
    refine JR.done [] (by kernel_rfl) rfl (by kernel_rfl) ?_
    refine J_weak [(1, _), (2, _), (3, _), (4, _), (2001, _)] ⟨rfl, rfl, rfl, rfl, rfl, trivial⟩ ?_
    refine J_seq ?_
    refine JR.start ?_
    refine JR.run rfl rfl (r_move rfl rfl rfl trivial) ?_
    refine JR.run rfl rfl (r_neI rfl rfl rfl rfl) ?_
    refine JR.done [] (by kernel_rfl) rfl (by kernel_rfl) ?_
    refine J_weak [(1, _), (2, _), (3, _), (4, _), (8, _), (2001, _)] ⟨rfl, rfl, rfl, rfl, rfl, rfl, trivial⟩ ?_
    refine J_condT rfl ?_
    refine J_seq ?_
    refine JR.start ?_
    refine JR.run rfl rfl (r_move rfl rfl rfl trivial) ?_
    refine JR.run rfl rfl (r_assign rfl rfl rfl trivial) ?_
    refine JR.run rfl rfl (r_assign rfl rfl rfl trivial) ?_
    refine JR.done [] (by kernel_rfl) rfl (by kernel_rfl) ?_
    refine J_weak [(1, _), (2, _), (3, _), (2001, _)] ⟨rfl, rfl, rfl, rfl, trivial⟩ ?_
    refine J_ret ?_
    exact ⟨.inl rfl, _, rfl, .refl _, trivial⟩
  | true =>
    rw [hr] at hc
    have hR := right_ty t.size t (Nat.le_refl _) hr
    have hp := con_nil0 (kPut t.size t [] (Nat.le_refl _) hR (by rw [List.length_nil]; omega))
    rw [List.nil_append] at hp
    refine con_intro rfl rfl (by kernel_rfl) (by kernel_rfl) ?_
    refine J_seq ?_
    refine JR.start ?_
    refine JR.run rfl rfl (r_boxA (x := 2001) rfl rfl rfl rfl) ?_
    refine JR.run rfl rfl (r_assign rfl rfl rfl trivial) ?_
    refine JR.run rfl rfl (r_assign rfl rfl rfl trivial) ?_
    refine JR.done [] (by kernel_rfl) rfl (by kernel_rfl) ?_
    refine J_weak [(1, _), (2, _), (3, _), (2001, _)] ⟨rfl, rfl, rfl, rfl, trivial⟩ ?_
    refine J_seq ?_
    refine J_seq ?_
    refine JR.start ?_
    refine JR.run rfl rfl (r_loadA (m := 3) (us := _) rfl rfl (by kernel_rfl) rfl rfl rfl rfl) ?_
    refine JR.run rfl rfl (r_call (hc) rfl rfl rfl trivial (by kernel_rfl)) ?_
    refine JR.run rfl rfl (r_assign rfl rfl rfl trivial) ?_
    refine JR.done [] (by kernel_rfl) rfl (by kernel_rfl) ?_
    refine J_weak [(1, _), (2, _), (3, _), (4, _), (2001, _)] ⟨rfl, rfl, rfl, rfl, rfl, trivial⟩ ?_
    refine J_seq ?_
    refine JR.start ?_
    refine JR.run rfl rfl (r_move rfl rfl rfl trivial) ?_
    refine JR.run rfl rfl (r_neI rfl rfl rfl rfl) ?_
    refine JR.done [] (by kernel_rfl) rfl (by kernel_rfl) ?_
    refine J_weak [(1, _), (2, _), (3, _), (4, _), (8, _), (2001, _)] ⟨rfl, rfl, rfl, rfl, rfl, rfl, trivial⟩ ?_
    refine J_condF rfl ?_
    refine J_skip ?_
    refine J_seq ?_
    refine JR.start ?_
    refine JR.run rfl rfl (r_loadA (m := 3) (us := _) rfl rfl (by kernel_rfl) rfl rfl rfl rfl) ?_
    refine JR.run rfl rfl (r_call (hp) rfl rfl rfl trivial (by kernel_rfl)) ?_
    refine JR.run rfl rfl (r_strOwn rfl rfl (by kernel_rfl) rfl) ?_
    refine JR.run rfl rfl (r_assign rfl rfl rfl trivial) ?_
    refine JR.run rfl rfl (r_assign rfl rfl rfl trivial) ?_
    refine JR.done [] (by kernel_rfl) rfl (by kernel_rfl) ?_
    refine J_weak [(2, _), (3, _)] ⟨rfl, rfl, trivial⟩ ?_
    refine J_ret ?_
    exact ⟨.inl rfl, _, rfl, .refl _, trivial⟩

end Go.Proofs.YtccdnmjijakofaaGreatDoor
