/- The walk of the law NoteCut. -/
import Derived.Test.YtoadmjnaakbljaaDoorNl4
import Derived.Test.YtoadmjnaakbljaaDoorPR3
namespace Go.Proofs.YtoadmjnaakbljaaDoor
open Go Go.RowKit
set_option maxRecDepth 100000
set_option linter.unusedVariables false

theorem kWithoutB (t : Ty) (b : Bool) (h : t.size ≤ 100000) (hr : mWithout 6 t = b) : Con Tryd.prog 19 [.agg (tyE t), .c (.lit (.int .i64 6))] [] (.c (.lit (.bool b))) [] := by
  have c := kWithout 6 t.size t (by omega) (Nat.le_refl _)
  rw [hr] at c
  exact c
theorem u64_modm (n : Int) (d : Nat) (hd : 0 < d) (hd2 : d ≤ 1000000) : ∃ k : Nat, k < d ∧ IntKind.i64.wrap ((IntKind.u64.wrap n).tmod (IntKind.u64.wrap d)) = (k : Int) := by
  have h0 : 0 ≤ IntKind.u64.wrap n := by rw [IntKind.wrap_u64]; omega
  rw [IntWalk.u64_in (d : Int) (by omega)]
  obtain ⟨m, hm⟩ : ∃ m : Nat, IntKind.u64.wrap n = (m : Int) := ⟨(IntKind.u64.wrap n).toNat, by omega⟩
  rw [hm]
  have e : ((m : Int).tmod (d : Int)) = ((m % d : Nat) : Int) := by rw [Int.tmod_eq_emod_of_nonneg (by omega)]; rfl
  have hlt := Nat.mod_lt m hd
  exact ⟨m % d, hlt, by rw [e]; exact IntWalk.i64_in _ (by omega)⟩
theorem kKeepInt (n : Int) (d k : Nat) (hd : 0 < d) (hd2 : d ≤ 1000000) (hk : IntKind.i64.wrap ((IntKind.u64.wrap n).tmod (IntKind.u64.wrap d)) = (k : Int)) : Con Tryd.prog 22 [.c (.lit (.int .i64 n)), .c (.lit (.int .i64 (d : Int)))] [] (.c (.lit (.int .i64 (k : Int)))) [] := by
  have hz := IntWalk.u64_in (d : Int) (by omega)
  refine con_intro rfl rfl (by kernel_rfl) (by kernel_rfl) ?_
  refine J_seq ?_
  refine JR.start ?_
  refine JR.run rfl rfl (r_assign rfl rfl rfl trivial) ?_
  refine JR.done [] (by kernel_rfl) rfl (by kernel_rfl) ?_
  refine J_weak [(0, _), (1, _), (4, _)] ⟨rfl, rfl, rfl, trivial⟩ ?_
  refine J_seq ?_
  refine J_seq ?_
  refine JR.start ?_
  refine JR.run rfl rfl (r_move rfl rfl rfl trivial) ?_
  refine JR.run rfl rfl ((r_ltI rfl rfl rfl rfl).cast (cast_b (b' := false) (by exact decide_eq_false (by omega)))) ?_
  refine JR.done [] (by kernel_rfl) rfl (by kernel_rfl) ?_
  refine J_weak [(0, _), (1, _), (4, _), (6, _)] ⟨rfl, rfl, rfl, rfl, trivial⟩ ?_
  refine J_condF rfl ?_
  refine J_skip ?_
  refine J_seq ?_
  refine JR.start ?_
  refine JR.run rfl rfl (r_move rfl rfl rfl trivial) ?_
  refine JR.run rfl rfl (r_convI (k' := .u64) rfl rfl rfl (by kernel_rfl) rfl) ?_
  refine JR.run rfl rfl (r_move rfl rfl rfl trivial) ?_
  refine JR.run rfl rfl (r_convI (k' := .u64) rfl rfl rfl (by kernel_rfl) rfl) ?_
  refine JR.run rfl rfl (r_remI rfl rfl rfl rfl (by rw [hz]; omega)) ?_
  refine JR.run rfl rfl (r_convI (k' := .i64) rfl rfl rfl (by kernel_rfl) rfl) ?_
  refine JR.run rfl rfl (r_assign rfl rfl rfl trivial) ?_
  refine JR.done [] (by kernel_rfl) rfl (by kernel_rfl) ?_
  refine J_weak [(4, _)] ⟨rfl, trivial⟩ ?_
  refine J_ret ?_
  exact ⟨.inl rfl, _, rfl, .ofI hk.symm, trivial⟩

theorem bTxt_pos {t : Ty} (h : ClosedTy t) : 0 < (bTxt t).length := by
  cases h with
  | int => rw [bTxt_1]; decide
  | bool => rw [bTxt_2]; decide
  | str => rw [bTxt_3]; decide
  | unit => rw [bTxt_4]; decide
  | dyn => rw [bTxt_5]; decide
  | pair a b => rw [bTxt_pair]; simp only [List.length_append, List.length_cons, List.length_nil]; omega
  | list a => rw [bTxt_list]; simp only [List.length_append, List.length_cons, List.length_nil]; omega
  | func a b => rw [bTxt_fun]; simp only [List.length_append, List.length_cons, List.length_nil]; omega

theorem lCut (t : Ty) (n : Int) (hn : I64 n) : Con Tryd.prog 7 [.agg (tyE t), .c (.lit (.int .i64 n))] [] (.c (.lit (.bool true))) [] := by
  have hH := kHeavyE [t] (by simp)
  cases hq : (mRight t && mWithout 6 t) with
  | false =>
    have hq' : mRight t = true → mWithout 6 t = false := fun e => by rw [e] at hq; exact hq
    refine con_intro rfl rfl (by kernel_rfl) (by kernel_rfl) ?_
    refine J_seq ?_
    refine JR.start ?_
    refine JR.run rfl rfl (r_boxA (x := 2002) rfl rfl rfl rfl) ?_
    refine JR.run rfl rfl (r_assign rfl rfl rfl trivial) ?_
    refine JR.done [] (by kernel_rfl) rfl (by kernel_rfl) ?_
    refine J_weak [(1, _), (2, _), (4, _), (2002, _)] ⟨rfl, rfl, rfl, rfl, trivial⟩ ?_
    refine J_seq ?_
    refine J_seq ?_
    refine JR.start ?_
    refine JR.run rfl rfl (r_loadA (m := 3) (us := _) rfl rfl (by kernel_rfl) rfl rfl rfl rfl) ?_
    refine JR.run rfl rfl (r_buildSlice (e := 24) (sz := 3) (zs := [.int .i64 0, .int .i64 0, .slice none 0 0]) ([tyE t]) rfl rfl (by kernel_rfl) (by kernel_rfl) rfl rfl rfl rfl) ?_
    refine JR.runC rfl rfl (r_call (hH) rfl rfl rfl trivial (by kernel_rfl)) rfl ?_ ?_
    · intro h16
      refine JR.run rfl rfl (r_move rfl rfl rfl trivial) ?_
      refine JR.skip rfl rfl ?_
      refine JR.skip rfl rfl ?_
      refine JR.skip rfl rfl ?_
      refine JR.run rfl rfl (r_pickT rfl rfl rfl rfl trivial) ?_
      refine JR.run rfl rfl (r_move rfl rfl rfl trivial) ?_
      refine JR.skip rfl rfl ?_
      refine JR.skip rfl rfl ?_
      refine JR.skip rfl rfl ?_
      refine JR.run rfl rfl (r_pickT rfl rfl rfl rfl trivial) ?_
      refine JR.done [] (by kernel_rfl) rfl (by kernel_rfl) ?_
      refine J_weak [(1, _), (2, _), (4, _), (26, _), (2002, _)] ⟨rfl, rfl, rfl, rfl, rfl, trivial⟩ ?_
      refine J_condT rfl ?_
      refine J_seq ?_
      refine JR.start ?_
      refine JR.run rfl rfl (r_assign rfl rfl rfl trivial) ?_
      refine JR.done [] (by kernel_rfl) rfl (by kernel_rfl) ?_
      refine J_weak [(1, _), (2, _), (4, _), (2002, _)] ⟨rfl, rfl, rfl, rfl, trivial⟩ ?_
      refine J_ret ?_
      exact ⟨.inl rfl, _, rfl, .refl _, trivial⟩
    · intro h16
      have hl1 := mCnt_le t 0
      replace h16 : mCnt t 0 ≤ 600 := Nat.le_of_not_lt (of_decide_eq_false h16)
      have s1 := mCnt_light t 0 h16
      refine JR.run rfl rfl (r_move rfl rfl rfl trivial) ?_
      refine JR.run rfl rfl (r_loadA (m := 3) (us := _) rfl rfl (by kernel_rfl) rfl rfl rfl rfl) ?_
      refine JR.runC rfl rfl (r_call (kRight t.size t (by omega) (Nat.le_refl _)) rfl rfl rfl trivial (by kernel_rfl)) rfl ?_ ?_
      · intro h19
        refine JR.run rfl rfl (r_not rfl rfl rfl) ?_
        refine JR.run rfl rfl (r_pickF rfl rfl rfl rfl trivial) ?_
        refine JR.run rfl rfl (r_move rfl rfl rfl trivial) ?_
        refine JR.run rfl rfl (r_loadA (m := 3) (us := _) rfl rfl (by kernel_rfl) rfl rfl rfl rfl) ?_
        refine JR.run rfl rfl (r_call (kWithoutB t false (by omega) (hq' h19)) rfl rfl rfl trivial (by kernel_rfl)) ?_
        refine JR.run rfl rfl (r_not rfl rfl rfl) ?_
        refine JR.run rfl rfl (r_pickF rfl rfl rfl rfl trivial) ?_
        refine JR.done [] (by kernel_rfl) rfl (by kernel_rfl) ?_
        refine J_weak [(1, _), (2, _), (4, _), (26, _), (2002, _)] ⟨rfl, rfl, rfl, rfl, rfl, trivial⟩ ?_
        refine J_condT rfl ?_
        refine J_seq ?_
        refine JR.start ?_
        refine JR.run rfl rfl (r_assign rfl rfl rfl trivial) ?_
        refine JR.done [] (by kernel_rfl) rfl (by kernel_rfl) ?_
        refine J_weak [(1, _), (2, _), (4, _), (2002, _)] ⟨rfl, rfl, rfl, rfl, trivial⟩ ?_
        refine J_ret ?_
        exact ⟨.inl rfl, _, rfl, .refl _, trivial⟩
      · intro h19
        refine JR.run rfl rfl (r_not rfl rfl rfl) ?_
        refine JR.run rfl rfl (r_pickF rfl rfl rfl rfl trivial) ?_
        refine JR.run rfl rfl (r_move rfl rfl rfl trivial) ?_
        refine JR.skip rfl rfl ?_
        refine JR.skip rfl rfl ?_
        refine JR.skip rfl rfl ?_
        refine JR.run rfl rfl (r_pickT rfl rfl rfl rfl trivial) ?_
        refine JR.done [] (by kernel_rfl) rfl (by kernel_rfl) ?_
        refine J_weak [(1, _), (2, _), (4, _), (26, _), (2002, _)] ⟨rfl, rfl, rfl, rfl, rfl, trivial⟩ ?_
        refine J_condT rfl ?_
        refine J_seq ?_
        refine JR.start ?_
        refine JR.run rfl rfl (r_assign rfl rfl rfl trivial) ?_
        refine JR.done [] (by kernel_rfl) rfl (by kernel_rfl) ?_
        refine J_weak [(1, _), (2, _), (4, _), (2002, _)] ⟨rfl, rfl, rfl, rfl, trivial⟩ ?_
        refine J_ret ?_
        exact ⟨.inl rfl, _, rfl, .refl _, trivial⟩
  | true =>
    rw [Bool.and_eq_true] at hq
    obtain ⟨hr, hw⟩ := hq
    have hC := closed_right hr hw
    by_cases hv : 600 < mCnt t 0
    · have hH' : Con Tryd.prog 9 [.c (.sl 3 ([t].map tyE))] [] (.c (.lit (.bool true))) [] := by
        have c := hH
        rw [show ([t].foldl (fun n t => mCnt t n) 0) = mCnt t 0 from rfl, decide_eq_true hv] at c
        exact c
      refine con_intro rfl rfl (by kernel_rfl) (by kernel_rfl) ?_
      refine J_seq ?_
      refine JR.start ?_
      refine JR.run rfl rfl (r_boxA (x := 2002) rfl rfl rfl rfl) ?_
      refine JR.run rfl rfl (r_assign rfl rfl rfl trivial) ?_
      refine JR.done [] (by kernel_rfl) rfl (by kernel_rfl) ?_
      refine J_weak [(1, _), (2, _), (4, _), (2002, _)] ⟨rfl, rfl, rfl, rfl, trivial⟩ ?_
      refine J_seq ?_
      refine J_seq ?_
      refine JR.start ?_
      refine JR.run rfl rfl (r_loadA (m := 3) (us := _) rfl rfl (by kernel_rfl) rfl rfl rfl rfl) ?_
      refine JR.run rfl rfl (r_buildSlice (e := 24) (sz := 3) (zs := [.int .i64 0, .int .i64 0, .slice none 0 0]) ([tyE t]) rfl rfl (by kernel_rfl) (by kernel_rfl) rfl rfl rfl rfl) ?_
      refine JR.run rfl rfl (r_call (hH') rfl rfl rfl trivial (by kernel_rfl)) ?_
      refine JR.run rfl rfl (r_move rfl rfl rfl trivial) ?_
      refine JR.skip rfl rfl ?_
      refine JR.skip rfl rfl ?_
      refine JR.skip rfl rfl ?_
      refine JR.run rfl rfl (r_pickT rfl rfl rfl rfl trivial) ?_
      refine JR.run rfl rfl (r_move rfl rfl rfl trivial) ?_
      refine JR.skip rfl rfl ?_
      refine JR.skip rfl rfl ?_
      refine JR.skip rfl rfl ?_
      refine JR.run rfl rfl (r_pickT rfl rfl rfl rfl trivial) ?_
      refine JR.done [] (by kernel_rfl) rfl (by kernel_rfl) ?_
      refine J_weak [(1, _), (2, _), (4, _), (26, _), (2002, _)] ⟨rfl, rfl, rfl, rfl, rfl, trivial⟩ ?_
      refine J_condT rfl ?_
      refine J_seq ?_
      refine JR.start ?_
      refine JR.run rfl rfl (r_assign rfl rfl rfl trivial) ?_
      refine JR.done [] (by kernel_rfl) rfl (by kernel_rfl) ?_
      refine J_weak [(1, _), (2, _), (4, _), (2002, _)] ⟨rfl, rfl, rfl, rfl, trivial⟩ ?_
      refine J_ret ?_
      exact ⟨.inl rfl, _, rfl, .refl _, trivial⟩
    · have hH' : Con Tryd.prog 9 [.c (.sl 3 ([t].map tyE))] [] (.c (.lit (.bool false))) [] := by
        have c := hH
        rw [show ([t].foldl (fun n t => mCnt t n) 0) = mCnt t 0 from rfl, decide_eq_false hv] at c
        exact c
      have hl1 := mCnt_le t 0
      have s1 := mCnt_light t 0 (by omega)
      have hT7 := mTxt_len7 hC
      obtain ⟨B, hB1, hB2⟩ := txt_scan hC (by omega)
      have hBl := mScan_len hB1
      have hBm : (B.map tokD).length = B.length := List.length_map ..
      have hBb : B.length = (bTxt t).length := by rw [← hB2, List.length_map]
      have hB0 : 0 < B.length := by rw [hBb]; exact bTxt_pos hC
      obtain ⟨k, hk1, hk2⟩ := u64_modm n (B.map tokD).length (by omega) (by omega)
      have hki := kKeepInt n (B.map tokD).length k (by omega) (by omega) hk2
      have hcd : ∀ r, mRead (B.take k) 0 = r → Con Tryd.prog 16 [.c (.sl 5 ((B.map tokD).take k)), .c (.lit (.int .i64 0))] [] (.tup [.agg (tyE r.1), .c (.lit (.int .i64 r.2.1)), .c (.lit (.int .i64 r.2.2))]) [] := fun r hr => by
        have c := kRead (B.take k) 0 (by rw [List.length_take]; omega)
        rw [toksD, List.map_take, hr] at c
        exact c
      rcases read_cut hC hB2 k (by omega) with he | ⟨u, j, he, hj1, hj2, hj3⟩
      · have hc1 := hcd _ he
        refine con_intro rfl rfl (by kernel_rfl) (by kernel_rfl) ?_
        refine J_seq ?_
        refine JR.start ?_
        refine JR.run rfl rfl (r_boxA (x := 2002) rfl rfl rfl rfl) ?_
        refine JR.run rfl rfl (r_assign rfl rfl rfl trivial) ?_
        refine JR.done [] (by kernel_rfl) rfl (by kernel_rfl) ?_
        refine J_weak [(1, _), (2, _), (4, _), (2002, _)] ⟨rfl, rfl, rfl, rfl, trivial⟩ ?_
        refine J_seq ?_
        refine J_seq ?_
        refine JR.start ?_
        refine JR.run rfl rfl (r_loadA (m := 3) (us := _) rfl rfl (by kernel_rfl) rfl rfl rfl rfl) ?_
        refine JR.run rfl rfl (r_buildSlice (e := 24) (sz := 3) (zs := [.int .i64 0, .int .i64 0, .slice none 0 0]) ([tyE t]) rfl rfl (by kernel_rfl) (by kernel_rfl) rfl rfl rfl rfl) ?_
        refine JR.run rfl rfl (r_call (hH') rfl rfl rfl trivial (by kernel_rfl)) ?_
        refine JR.run rfl rfl (r_move rfl rfl rfl trivial) ?_
        refine JR.run rfl rfl (r_loadA (m := 3) (us := _) rfl rfl (by kernel_rfl) rfl rfl rfl rfl) ?_
        refine JR.run rfl rfl (r_call (kRightB t true (by omega) hr) rfl rfl rfl trivial (by kernel_rfl)) ?_
        refine JR.run rfl rfl (r_not rfl rfl rfl) ?_
        refine JR.run rfl rfl (r_pickF rfl rfl rfl rfl trivial) ?_
        refine JR.run rfl rfl (r_move rfl rfl rfl trivial) ?_
        refine JR.run rfl rfl (r_loadA (m := 3) (us := _) rfl rfl (by kernel_rfl) rfl rfl rfl rfl) ?_
        refine JR.run rfl rfl (r_call (kWithoutB t true (by omega) hw) rfl rfl rfl trivial (by kernel_rfl)) ?_
        refine JR.run rfl rfl (r_not rfl rfl rfl) ?_
        refine JR.run rfl rfl (r_pickF rfl rfl rfl rfl trivial) ?_
        refine JR.done [] (by kernel_rfl) rfl (by kernel_rfl) ?_
        refine J_weak [(1, _), (2, _), (4, _), (26, _), (2002, _)] ⟨rfl, rfl, rfl, rfl, rfl, trivial⟩ ?_
        refine J_condF rfl ?_
        refine J_skip ?_
        refine J_seq ?_
        refine JR.start ?_
        refine JR.run rfl rfl (r_loadA (m := 3) (us := _) rfl rfl (by kernel_rfl) rfl rfl rfl rfl) ?_
        refine JR.run rfl rfl (r_call (kTextR t (by omega) hr) rfl rfl rfl trivial (by kernel_rfl)) ?_
        refine JR.run rfl rfl (r_move rfl rfl rfl trivial) ?_
        refine JR.run rfl rfl (r_extract rfl rfl rfl rfl rfl) ?_
        refine JR.run rfl rfl (r_extract rfl rfl rfl rfl rfl) ?_
        refine JR.run rfl rfl (r_assign rfl rfl rfl trivial) ?_
        refine JR.run rfl rfl (r_assign rfl rfl rfl trivial) ?_
        refine JR.done [] (by kernel_rfl) rfl (by kernel_rfl) ?_
        refine J_weak [(1, _), (4, _), (5, _)] ⟨rfl, rfl, rfl, trivial⟩ ?_
        refine J_seq ?_
        refine JR.start ?_
        refine JR.run rfl rfl (r_move rfl rfl rfl trivial) ?_
        refine JR.run rfl rfl (r_bytesOf rfl rfl (by kernel_rfl) (by kernel_rfl) rfl) ?_
        refine JR.run rfl rfl (r_call (kScanT hB1 (by omega)) rfl rfl rfl trivial (by kernel_rfl)) ?_
        refine JR.run rfl rfl (r_move rfl rfl rfl trivial) ?_
        refine JR.run rfl rfl (r_extract rfl rfl rfl rfl rfl) ?_
        refine JR.run rfl rfl (r_extract rfl rfl rfl rfl rfl) ?_
        refine JR.run rfl rfl (r_extract rfl rfl rfl rfl rfl) ?_
        refine JR.run rfl rfl (r_assign rfl rfl rfl trivial) ?_
        refine JR.run rfl rfl (r_assign rfl rfl rfl trivial) ?_
        refine JR.run rfl rfl (r_assign rfl rfl rfl trivial) ?_
        refine JR.done [] (by kernel_rfl) rfl (by kernel_rfl) ?_
        refine J_weak [(1, _), (4, _), (7, _), (9, _)] ⟨rfl, rfl, rfl, rfl, trivial⟩ ?_
        refine J_seq ?_
        refine J_seq ?_
        refine JR.start ?_
        refine JR.run rfl rfl (r_move rfl rfl rfl trivial) ?_
        refine JR.run rfl rfl (r_neI rfl rfl rfl rfl) ?_
        refine JR.run rfl rfl (r_move rfl rfl rfl trivial) ?_
        refine JR.run rfl rfl (r_move rfl rfl rfl trivial) ?_
        refine JR.run rfl rfl (r_len rfl rfl (by kernel_rfl) rfl) ?_
        refine JR.run rfl rfl ((r_eqI rfl rfl rfl rfl).cast (cast_b (b' := false) (by exact decide_eq_false (by omega)))) ?_
        refine JR.run rfl rfl (r_pickF rfl rfl rfl rfl trivial) ?_
        refine JR.done [] (by kernel_rfl) rfl (by kernel_rfl) ?_
        refine J_weak [(1, _), (4, _), (7, _), (45, _)] ⟨rfl, rfl, rfl, rfl, trivial⟩ ?_
        refine J_condF rfl ?_
        refine J_skip ?_
        refine J_seq ?_
        refine JR.start ?_
        refine JR.run rfl rfl (r_move rfl rfl rfl trivial) ?_
        refine JR.run rfl rfl (r_move rfl rfl rfl trivial) ?_
        refine JR.run rfl rfl (r_len rfl rfl (by kernel_rfl) rfl) ?_
        refine JR.run rfl rfl (r_call (hki) rfl rfl rfl trivial (by kernel_rfl)) ?_
        refine JR.run rfl rfl (r_assign rfl rfl rfl trivial) ?_
        refine JR.done [] (by kernel_rfl) rfl (by kernel_rfl) ?_
        refine J_weak [(4, _), (7, _), (10, _)] ⟨rfl, rfl, rfl, trivial⟩ ?_
        refine J_seq ?_
        refine JR.start ?_
        refine JR.run rfl rfl (r_move rfl rfl rfl trivial) ?_
        refine JR.run rfl rfl (r_move rfl rfl rfl trivial) ?_
        refine JR.run rfl rfl (r_sliceTo (e := 54) (sz := 5) rfl rfl (by kernel_rfl) rfl rfl (by omega)) ?_
        refine JR.run rfl rfl (r_call (hc1) rfl rfl rfl trivial (by kernel_rfl)) ?_
        refine JR.run rfl rfl (r_move rfl rfl rfl trivial) ?_
        refine JR.run rfl rfl (r_extract rfl rfl rfl rfl rfl) ?_
        refine JR.run rfl rfl (r_extract rfl rfl rfl rfl rfl) ?_
        refine JR.run rfl rfl (r_extract rfl rfl rfl rfl rfl) ?_
        refine JR.run rfl rfl (r_alloc (x := 2011) (zs := [.int .i64 0, .int .i64 0, .slice none 0 0]) [.lit (.int .i64 0), .lit (.int .i64 0), .sl 3 []] rfl rfl rfl (by kernel_rfl) ⟨.refl _, .refl _, .nil _, trivial⟩) ?_
        refine JR.run rfl rfl (r_storeA rfl rfl (by kernel_rfl) rfl rfl rfl rfl rfl) ?_
        refine JR.run rfl rfl (r_assign rfl rfl rfl trivial) ?_
        refine JR.run rfl rfl (r_assign rfl rfl rfl trivial) ?_
        refine JR.done [] (by kernel_rfl) rfl (by kernel_rfl) ?_
        refine J_weak [(4, _), (10, _), (11, _), (12, _), (13, _), (2011, _)] ⟨rfl, rfl, rfl, rfl, rfl, rfl, trivial⟩ ?_
        refine J_seq ?_
        refine J_seq ?_
        refine JR.start ?_
        refine JR.run rfl rfl (r_move rfl rfl rfl trivial) ?_
        refine JR.run rfl rfl (r_eqI rfl rfl rfl rfl) ?_
        refine JR.done [] (by kernel_rfl) rfl (by kernel_rfl) ?_
        refine J_weak [(4, _), (10, _), (11, _), (12, _), (13, _), (59, _), (2011, _)] ⟨rfl, rfl, rfl, rfl, rfl, rfl, rfl, trivial⟩ ?_
        refine J_condT rfl ?_
        refine J_seq ?_
        refine JR.start ?_
        refine JR.run rfl rfl (r_move rfl rfl rfl trivial) ?_
        refine JR.run rfl rfl (r_move rfl rfl rfl trivial) ?_
        refine JR.run rfl rfl ((r_eqI rfl rfl rfl rfl).cast (cast_b (b' := true) (by exact decide_eq_true rfl))) ?_
        refine JR.run rfl rfl (r_move rfl rfl rfl trivial) ?_
        refine JR.run rfl rfl (r_fieldAddr (off := 0) (m := 1) rfl rfl (by kernel_rfl) rfl) ?_
        refine JR.run rfl rfl (r_load rfl rfl (by kernel_rfl) rfl rfl rfl) ?_
        refine JR.run rfl rfl ((r_eqI rfl rfl rfl rfl).cast (cast_b (b' := true) (by rfl))) ?_
        refine JR.run rfl rfl (r_pickT rfl rfl rfl rfl trivial) ?_
        refine JR.run rfl rfl (r_move rfl rfl rfl trivial) ?_
        refine JR.run rfl rfl (r_call (kWakes) rfl rfl rfl trivial (by kernel_rfl)) ?_
        refine JR.run rfl rfl (r_pickT rfl rfl rfl rfl trivial) ?_
        refine JR.run rfl rfl (r_assign rfl rfl rfl trivial) ?_
        refine JR.done [] (by kernel_rfl) rfl (by kernel_rfl) ?_
        refine J_weak [(4, _), (10, _), (11, _), (12, _), (13, _), (2011, _)] ⟨rfl, rfl, rfl, rfl, rfl, rfl, trivial⟩ ?_
        refine J_ret ?_
        exact ⟨.inl rfl, _, rfl, .refl _, trivial⟩
      · have hc1 := hcd _ he
        refine con_intro rfl rfl (by kernel_rfl) (by kernel_rfl) ?_
        refine J_seq ?_
        refine JR.start ?_
        refine JR.run rfl rfl (r_boxA (x := 2002) rfl rfl rfl rfl) ?_
        refine JR.run rfl rfl (r_assign rfl rfl rfl trivial) ?_
        refine JR.done [] (by kernel_rfl) rfl (by kernel_rfl) ?_
        refine J_weak [(1, _), (2, _), (4, _), (2002, _)] ⟨rfl, rfl, rfl, rfl, trivial⟩ ?_
        refine J_seq ?_
        refine J_seq ?_
        refine JR.start ?_
        refine JR.run rfl rfl (r_loadA (m := 3) (us := _) rfl rfl (by kernel_rfl) rfl rfl rfl rfl) ?_
        refine JR.run rfl rfl (r_buildSlice (e := 24) (sz := 3) (zs := [.int .i64 0, .int .i64 0, .slice none 0 0]) ([tyE t]) rfl rfl (by kernel_rfl) (by kernel_rfl) rfl rfl rfl rfl) ?_
        refine JR.run rfl rfl (r_call (hH') rfl rfl rfl trivial (by kernel_rfl)) ?_
        refine JR.run rfl rfl (r_move rfl rfl rfl trivial) ?_
        refine JR.run rfl rfl (r_loadA (m := 3) (us := _) rfl rfl (by kernel_rfl) rfl rfl rfl rfl) ?_
        refine JR.run rfl rfl (r_call (kRightB t true (by omega) hr) rfl rfl rfl trivial (by kernel_rfl)) ?_
        refine JR.run rfl rfl (r_not rfl rfl rfl) ?_
        refine JR.run rfl rfl (r_pickF rfl rfl rfl rfl trivial) ?_
        refine JR.run rfl rfl (r_move rfl rfl rfl trivial) ?_
        refine JR.run rfl rfl (r_loadA (m := 3) (us := _) rfl rfl (by kernel_rfl) rfl rfl rfl rfl) ?_
        refine JR.run rfl rfl (r_call (kWithoutB t true (by omega) hw) rfl rfl rfl trivial (by kernel_rfl)) ?_
        refine JR.run rfl rfl (r_not rfl rfl rfl) ?_
        refine JR.run rfl rfl (r_pickF rfl rfl rfl rfl trivial) ?_
        refine JR.done [] (by kernel_rfl) rfl (by kernel_rfl) ?_
        refine J_weak [(1, _), (2, _), (4, _), (26, _), (2002, _)] ⟨rfl, rfl, rfl, rfl, rfl, trivial⟩ ?_
        refine J_condF rfl ?_
        refine J_skip ?_
        refine J_seq ?_
        refine JR.start ?_
        refine JR.run rfl rfl (r_loadA (m := 3) (us := _) rfl rfl (by kernel_rfl) rfl rfl rfl rfl) ?_
        refine JR.run rfl rfl (r_call (kTextR t (by omega) hr) rfl rfl rfl trivial (by kernel_rfl)) ?_
        refine JR.run rfl rfl (r_move rfl rfl rfl trivial) ?_
        refine JR.run rfl rfl (r_extract rfl rfl rfl rfl rfl) ?_
        refine JR.run rfl rfl (r_extract rfl rfl rfl rfl rfl) ?_
        refine JR.run rfl rfl (r_assign rfl rfl rfl trivial) ?_
        refine JR.run rfl rfl (r_assign rfl rfl rfl trivial) ?_
        refine JR.done [] (by kernel_rfl) rfl (by kernel_rfl) ?_
        refine J_weak [(1, _), (4, _), (5, _)] ⟨rfl, rfl, rfl, trivial⟩ ?_
        refine J_seq ?_
        refine JR.start ?_
        refine JR.run rfl rfl (r_move rfl rfl rfl trivial) ?_
        refine JR.run rfl rfl (r_bytesOf rfl rfl (by kernel_rfl) (by kernel_rfl) rfl) ?_
        refine JR.run rfl rfl (r_call (kScanT hB1 (by omega)) rfl rfl rfl trivial (by kernel_rfl)) ?_
        refine JR.run rfl rfl (r_move rfl rfl rfl trivial) ?_
        refine JR.run rfl rfl (r_extract rfl rfl rfl rfl rfl) ?_
        refine JR.run rfl rfl (r_extract rfl rfl rfl rfl rfl) ?_
        refine JR.run rfl rfl (r_extract rfl rfl rfl rfl rfl) ?_
        refine JR.run rfl rfl (r_assign rfl rfl rfl trivial) ?_
        refine JR.run rfl rfl (r_assign rfl rfl rfl trivial) ?_
        refine JR.run rfl rfl (r_assign rfl rfl rfl trivial) ?_
        refine JR.done [] (by kernel_rfl) rfl (by kernel_rfl) ?_
        refine J_weak [(1, _), (4, _), (7, _), (9, _)] ⟨rfl, rfl, rfl, rfl, trivial⟩ ?_
        refine J_seq ?_
        refine J_seq ?_
        refine JR.start ?_
        refine JR.run rfl rfl (r_move rfl rfl rfl trivial) ?_
        refine JR.run rfl rfl (r_neI rfl rfl rfl rfl) ?_
        refine JR.run rfl rfl (r_move rfl rfl rfl trivial) ?_
        refine JR.run rfl rfl (r_move rfl rfl rfl trivial) ?_
        refine JR.run rfl rfl (r_len rfl rfl (by kernel_rfl) rfl) ?_
        refine JR.run rfl rfl ((r_eqI rfl rfl rfl rfl).cast (cast_b (b' := false) (by exact decide_eq_false (by omega)))) ?_
        refine JR.run rfl rfl (r_pickF rfl rfl rfl rfl trivial) ?_
        refine JR.done [] (by kernel_rfl) rfl (by kernel_rfl) ?_
        refine J_weak [(1, _), (4, _), (7, _), (45, _)] ⟨rfl, rfl, rfl, rfl, trivial⟩ ?_
        refine J_condF rfl ?_
        refine J_skip ?_
        refine J_seq ?_
        refine JR.start ?_
        refine JR.run rfl rfl (r_move rfl rfl rfl trivial) ?_
        refine JR.run rfl rfl (r_move rfl rfl rfl trivial) ?_
        refine JR.run rfl rfl (r_len rfl rfl (by kernel_rfl) rfl) ?_
        refine JR.run rfl rfl (r_call (hki) rfl rfl rfl trivial (by kernel_rfl)) ?_
        refine JR.run rfl rfl (r_assign rfl rfl rfl trivial) ?_
        refine JR.done [] (by kernel_rfl) rfl (by kernel_rfl) ?_
        refine J_weak [(4, _), (7, _), (10, _)] ⟨rfl, rfl, rfl, trivial⟩ ?_
        refine J_seq ?_
        refine JR.start ?_
        refine JR.run rfl rfl (r_move rfl rfl rfl trivial) ?_
        refine JR.run rfl rfl (r_move rfl rfl rfl trivial) ?_
        refine JR.run rfl rfl (r_sliceTo (e := 54) (sz := 5) rfl rfl (by kernel_rfl) rfl rfl (by omega)) ?_
        refine JR.run rfl rfl (r_call (hc1) rfl rfl rfl trivial (by kernel_rfl)) ?_
        refine JR.run rfl rfl (r_move rfl rfl rfl trivial) ?_
        refine JR.run rfl rfl (r_extract rfl rfl rfl rfl rfl) ?_
        refine JR.run rfl rfl (r_extract rfl rfl rfl rfl rfl) ?_
        refine JR.run rfl rfl (r_extract rfl rfl rfl rfl rfl) ?_
        refine JR.run rfl rfl (r_alloc (x := 2011) (zs := [.int .i64 0, .int .i64 0, .slice none 0 0]) [.lit (.int .i64 0), .lit (.int .i64 0), .sl 3 []] rfl rfl rfl (by kernel_rfl) ⟨.refl _, .refl _, .nil _, trivial⟩) ?_
        refine JR.run rfl rfl (r_storeA rfl rfl (by kernel_rfl) rfl rfl rfl rfl rfl) ?_
        refine JR.run rfl rfl (r_assign rfl rfl rfl trivial) ?_
        refine JR.run rfl rfl (r_assign rfl rfl rfl trivial) ?_
        refine JR.done [] (by kernel_rfl) rfl (by kernel_rfl) ?_
        refine J_weak [(4, _), (10, _), (11, _), (12, _), (13, _), (2011, _)] ⟨rfl, rfl, rfl, rfl, rfl, rfl, trivial⟩ ?_
        refine J_seq ?_
        refine J_seq ?_
        refine JR.start ?_
        refine JR.run rfl rfl (r_move rfl rfl rfl trivial) ?_
        refine JR.run rfl rfl (r_eqI rfl rfl rfl rfl) ?_
        refine JR.done [] (by kernel_rfl) rfl (by kernel_rfl) ?_
        refine J_weak [(4, _), (10, _), (11, _), (12, _), (13, _), (59, _), (2011, _)] ⟨rfl, rfl, rfl, rfl, rfl, rfl, rfl, trivial⟩ ?_
        refine J_condF rfl ?_
        refine J_skip ?_
        refine J_seq ?_
        refine JR.start ?_
        refine JR.run rfl rfl (r_move rfl rfl rfl trivial) ?_
        refine JR.run rfl rfl (r_eqI rfl rfl rfl rfl) ?_
        refine JR.run rfl rfl (r_move rfl rfl rfl trivial) ?_
        refine JR.run rfl rfl (r_move rfl rfl rfl trivial) ?_
        refine JR.run rfl rfl (r_move rfl rfl rfl trivial) ?_
        refine JR.run rfl rfl ((r_leI rfl rfl rfl rfl).cast (cast_b (b' := true) (by exact decide_eq_true (Int.ofNat_le.2 hj2)))) ?_
        refine JR.run rfl rfl (r_pickT rfl rfl rfl rfl trivial) ?_
        refine JR.run rfl rfl (r_move rfl rfl rfl trivial) ?_
        refine JR.run rfl rfl (r_move rfl rfl rfl trivial) ?_
        refine JR.run rfl rfl ((r_gtI rfl rfl rfl rfl).cast (cast_b (b' := true) (by exact decide_eq_true (Int.natCast_pos.2 hj1)))) ?_
        refine JR.run rfl rfl (r_pickT rfl rfl rfl rfl trivial) ?_
        refine JR.run rfl rfl (r_move rfl rfl rfl trivial) ?_
        refine JR.run rfl rfl (r_fieldAddr (off := 0) (m := 1) rfl rfl (by kernel_rfl) rfl) ?_
        refine JR.run rfl rfl (r_load rfl rfl (by kernel_rfl) rfl rfl rfl) ?_
        refine JR.run rfl rfl ((r_gtI rfl rfl rfl rfl).cast (cast_b (b' := true) (by exact decide_eq_true hj3))) ?_
        refine JR.run rfl rfl (r_pickT rfl rfl rfl rfl trivial) ?_
        refine JR.run rfl rfl (r_move rfl rfl rfl trivial) ?_
        refine JR.run rfl rfl (r_call (kWakes) rfl rfl rfl trivial (by kernel_rfl)) ?_
        refine JR.run rfl rfl (r_pickT rfl rfl rfl rfl trivial) ?_
        refine JR.run rfl rfl (r_assign rfl rfl rfl trivial) ?_
        refine JR.done [] (by kernel_rfl) rfl (by kernel_rfl) ?_
        refine J_weak [(4, _)] ⟨rfl, trivial⟩ ?_
        refine J_ret ?_
        exact ⟨.inl rfl, _, rfl, .refl _, trivial⟩

end Go.Proofs.YtoadmjnaakbljaaDoor
