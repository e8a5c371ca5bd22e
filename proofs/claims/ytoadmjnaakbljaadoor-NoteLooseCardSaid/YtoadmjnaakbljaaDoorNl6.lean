/- The walk of the law NoteLoose. -/
import Derived.Test.YtoadmjnaakbljaaDoorNl4
import Derived.Test.YtoadmjnaakbljaaDoorPR4
import Derived.Test.YtoadmjnaakbljaaDoorRr1
namespace Go.Proofs.YtoadmjnaakbljaaDoor
open Go Go.RowKit
set_option maxRecDepth 100000
set_option maxHeartbeats 2000000
set_option linter.unusedVariables false

theorem kTwo (k : Int) (a b : Ty) : Con Tryd.prog 20 [.c (.lit (.int .i64 k)), .agg (tyE a), .agg (tyE b)] [] (.agg (tyE (.two k a b))) [] := by
  have e : tysD [a, b] = [tyE a, tyE b] := by rw [tysD_E]; rfl
  show Con _ _ _ _ (.agg [.lit (.int .i64 k), .lit (.int .i64 0), .sl 3 (tysD [a, b])]) []
  rw [e]
  exact rTwoD k _ _ _ _ _ _
theorem kList (a : Ty) : Con Tryd.prog 21 [.agg (tyE a)] [] (.agg (tyE (.one 8 a))) [] := by
  have e : tysD [a] = [tyD a] := by rw [tysD_map]; rfl
  show Con _ _ _ _ (.agg [.lit (.int .i64 8), .lit (.int .i64 0), .sl 3 (tysD [a])]) []
  rw [e]
  exact rList a
theorem kWithB (t : Ty) (h : t.size ≤ 100000) : Con Tryd.prog 19 [.agg (tyE t), .c (.lit (.int .i64 6))] [] (.c (.lit (.bool (mWithout 6 t)))) [] := kWithout 6 t.size t (by omega) (Nat.le_refl _)

theorem lLoose (a b c : Ty) (n : Int) (hn : I64 n) : Con Tryd.prog 6 [.agg (tyE a), .agg (tyE b), .agg (tyE c), .c (.lit (.int .i64 n))] [] (.c (.lit (.bool true))) [] := by
  have hH := kHeavyE [a, b, c] (by simp)
  obtain ⟨k, hk5, _, hk2⟩ := u64_mod n 5 (by decide) (by decide)
  have hk2' : (IntKind.u64.wrap n).tmod 5 = (k : Int) := hk2
  refine con_intro rfl rfl (by kernel_rfl) (by kernel_rfl) ?_
  refine J_seq ?_
  refine JR.start ?_
  refine JR.run rfl rfl (r_boxA (x := 2004) rfl rfl rfl rfl) ?_
  refine JR.run rfl rfl (r_boxA (x := 2005) rfl rfl rfl rfl) ?_
  refine JR.run rfl rfl (r_boxA (x := 2006) rfl rfl rfl rfl) ?_
  refine JR.run rfl rfl (r_assign rfl rfl rfl trivial) ?_
  refine JR.done [] (by kernel_rfl) rfl (by kernel_rfl) ?_
  refine J_weak [(3, _), (4, _), (5, _), (6, _), (8, _), (2004, _), (2005, _), (2006, _)] ⟨rfl, rfl, rfl, rfl, rfl, rfl, rfl, rfl, trivial⟩ ?_
  refine J_seq ?_
  refine J_seq ?_
  refine JR.start ?_
  refine JR.run rfl rfl (r_loadA (m := 3) (us := _) rfl rfl (by kernel_rfl) rfl rfl rfl rfl) ?_
  refine JR.run rfl rfl (r_loadA (m := 3) (us := _) rfl rfl (by kernel_rfl) rfl rfl rfl rfl) ?_
  refine JR.run rfl rfl (r_loadA (m := 3) (us := _) rfl rfl (by kernel_rfl) rfl rfl rfl rfl) ?_
  refine JR.run rfl rfl (r_buildSlice (e := 24) (sz := 3) (zs := [.int .i64 0, .int .i64 0, .slice none 0 0]) ([tyE a, tyE b, tyE c]) rfl rfl (by kernel_rfl) (by kernel_rfl) rfl rfl rfl rfl) ?_
  refine JR.runC rfl rfl (r_call (hH) rfl rfl rfl trivial (by kernel_rfl)) rfl ?_ ?_
  · intro h27
    refine JR.run rfl rfl (r_move rfl rfl rfl trivial) ?_
    refine JR.skip rfl rfl ?_
    refine JR.skip rfl rfl ?_
    refine JR.skip rfl rfl ?_
    refine JR.run rfl rfl (r_pickT rfl rfl rfl rfl trivial) ?_
    refine JR.run rfl rfl (r_move rfl rfl rfl trivial) ?_
    refine JR.skip rfl rfl ?_
    refine JR.skip rfl rfl ?_
    refine JR.skip rfl rfl ?_
    refine JR.run rfl rfl (r_pickT rfl rfl rfl rfl trivial) ?_
    refine JR.run rfl rfl (r_move rfl rfl rfl trivial) ?_
    refine JR.skip rfl rfl ?_
    refine JR.skip rfl rfl ?_
    refine JR.skip rfl rfl ?_
    refine JR.run rfl rfl (r_pickT rfl rfl rfl rfl trivial) ?_
    refine JR.run rfl rfl (r_move rfl rfl rfl trivial) ?_
    refine JR.skip rfl rfl ?_
    refine JR.skip rfl rfl ?_
    refine JR.skip rfl rfl ?_
    refine JR.run rfl rfl (r_pickT rfl rfl rfl rfl trivial) ?_
    refine JR.run rfl rfl (r_move rfl rfl rfl trivial) ?_
    refine JR.skip rfl rfl ?_
    refine JR.skip rfl rfl ?_
    refine JR.skip rfl rfl ?_
    refine JR.run rfl rfl (r_pickT rfl rfl rfl rfl trivial) ?_
    refine JR.run rfl rfl (r_move rfl rfl rfl trivial) ?_
    refine JR.skip rfl rfl ?_
    refine JR.skip rfl rfl ?_
    refine JR.skip rfl rfl ?_
    refine JR.run rfl rfl (r_pickT rfl rfl rfl rfl trivial) ?_
    refine JR.done [] (by kernel_rfl) rfl (by kernel_rfl) ?_
    refine J_weak [(3, _), (4, _), (5, _), (6, _), (8, _), (57, _), (2004, _), (2005, _), (2006, _)] ⟨rfl, rfl, rfl, rfl, rfl, rfl, rfl, rfl, rfl, trivial⟩ ?_
    refine J_condT rfl ?_
    refine J_seq ?_
    refine JR.start ?_
    refine JR.run rfl rfl (r_assign rfl rfl rfl trivial) ?_
    refine JR.done [] (by kernel_rfl) rfl (by kernel_rfl) ?_
    refine J_weak [(3, _), (4, _), (5, _), (6, _), (8, _), (2004, _), (2005, _), (2006, _)] ⟨rfl, rfl, rfl, rfl, rfl, rfl, rfl, rfl, trivial⟩ ?_
    refine J_ret ?_
    exact ⟨.inl rfl, _, rfl, .refl _, trivial⟩
  · intro h27
    replace h27 : mCnt c (mCnt b (mCnt a 0)) ≤ 600 := Nat.le_of_not_lt (of_decide_eq_false h27)
    have q1 := mCnt_le a 0
    have q2 := mCnt_le b (mCnt a 0)
    have q3 := mCnt_le c (mCnt b (mCnt a 0))
    have s1 := mCnt_light a 0 (by omega)
    have s2 := mCnt_light b (mCnt a 0) (by omega)
    have s3 := mCnt_light c (mCnt b (mCnt a 0)) h27
    refine JR.run rfl rfl (r_move rfl rfl rfl trivial) ?_
    refine JR.run rfl rfl (r_loadA (m := 3) (us := _) rfl rfl (by kernel_rfl) rfl rfl rfl rfl) ?_
    refine JR.runC rfl rfl (r_call (kRight a.size a (by omega) (Nat.le_refl _)) rfl rfl rfl trivial (by kernel_rfl)) rfl ?_ ?_
    · intro h30
      refine JR.run rfl rfl (r_not rfl rfl rfl) ?_
      refine JR.run rfl rfl (r_pickF rfl rfl rfl rfl trivial) ?_
      refine JR.run rfl rfl (r_move rfl rfl rfl trivial) ?_
      refine JR.run rfl rfl (r_loadA (m := 3) (us := _) rfl rfl (by kernel_rfl) rfl rfl rfl rfl) ?_
      refine JR.runC rfl rfl (r_call (kRight b.size b (by omega) (Nat.le_refl _)) rfl rfl rfl trivial (by kernel_rfl)) rfl ?_ ?_
      · intro h35
        refine JR.run rfl rfl (r_not rfl rfl rfl) ?_
        refine JR.run rfl rfl (r_pickF rfl rfl rfl rfl trivial) ?_
        refine JR.run rfl rfl (r_move rfl rfl rfl trivial) ?_
        refine JR.run rfl rfl (r_loadA (m := 3) (us := _) rfl rfl (by kernel_rfl) rfl rfl rfl rfl) ?_
        refine JR.runC rfl rfl (r_call (kRight c.size c (by omega) (Nat.le_refl _)) rfl rfl rfl trivial (by kernel_rfl)) rfl ?_ ?_
        · intro h40
          refine JR.run rfl rfl (r_not rfl rfl rfl) ?_
          refine JR.run rfl rfl (r_pickF rfl rfl rfl rfl trivial) ?_
          refine JR.run rfl rfl (r_move rfl rfl rfl trivial) ?_
          refine JR.run rfl rfl (r_loadA (m := 3) (us := _) rfl rfl (by kernel_rfl) rfl rfl rfl rfl) ?_
          refine JR.runC rfl rfl (r_call (kWithB a (by omega)) rfl rfl rfl trivial (by kernel_rfl)) rfl ?_ ?_
          · intro h45
            refine JR.run rfl rfl (r_not rfl rfl rfl) ?_
            refine JR.run rfl rfl (r_pickF rfl rfl rfl rfl trivial) ?_
            refine JR.run rfl rfl (r_move rfl rfl rfl trivial) ?_
            refine JR.run rfl rfl (r_loadA (m := 3) (us := _) rfl rfl (by kernel_rfl) rfl rfl rfl rfl) ?_
            refine JR.runC rfl rfl (r_call (kWithB b (by omega)) rfl rfl rfl trivial (by kernel_rfl)) rfl ?_ ?_
            · intro h50
              refine JR.run rfl rfl (r_not rfl rfl rfl) ?_
              refine JR.run rfl rfl (r_pickF rfl rfl rfl rfl trivial) ?_
              refine JR.run rfl rfl (r_move rfl rfl rfl trivial) ?_
              refine JR.run rfl rfl (r_loadA (m := 3) (us := _) rfl rfl (by kernel_rfl) rfl rfl rfl rfl) ?_
              refine JR.runC rfl rfl (r_call (kWithB c (by omega)) rfl rfl rfl trivial (by kernel_rfl)) rfl ?_ ?_
              · intro h55
                have cA := closed_right h30 h45
                have cB := closed_right h35 h50
                have cC := closed_right h40 h55
                have lA := mTxt_len7 cA
                have lB := mTxt_len7 cB
                have lC := mTxt_len7 cC
                refine JR.run rfl rfl (r_not rfl rfl rfl) ?_
                refine JR.run rfl rfl (r_pickF rfl rfl rfl rfl trivial) ?_
                refine JR.done [] (by kernel_rfl) rfl (by kernel_rfl) ?_
                refine J_weak [(3, _), (4, _), (5, _), (6, _), (8, _), (57, _), (2004, _), (2005, _), (2006, _)] ⟨rfl, rfl, rfl, rfl, rfl, rfl, rfl, rfl, rfl, trivial⟩ ?_
                refine J_condF rfl ?_
                refine J_skip ?_
                refine J_seq ?_
                refine JR.start ?_
                refine JR.run rfl rfl (r_loadA (m := 3) (us := _) rfl rfl (by kernel_rfl) rfl rfl rfl rfl) ?_
                refine JR.run rfl rfl (r_call (kTextR a (by omega) h30) rfl rfl rfl trivial (by kernel_rfl)) ?_
                refine JR.run rfl rfl (r_move rfl rfl rfl trivial) ?_
                refine JR.run rfl rfl (r_extract rfl rfl rfl rfl rfl) ?_
                refine JR.run rfl rfl (r_extract rfl rfl rfl rfl rfl) ?_
                refine JR.run rfl rfl (r_assign rfl rfl rfl trivial) ?_
                refine JR.run rfl rfl (r_assign rfl rfl rfl trivial) ?_
                refine JR.done [] (by kernel_rfl) rfl (by kernel_rfl) ?_
                refine J_weak [(3, _), (4, _), (5, _), (6, _), (8, _), (9, _), (2004, _), (2005, _), (2006, _)] ⟨rfl, rfl, rfl, rfl, rfl, rfl, rfl, rfl, rfl, trivial⟩ ?_
                refine J_seq ?_
                refine JR.start ?_
                refine JR.run rfl rfl (r_loadA (m := 3) (us := _) rfl rfl (by kernel_rfl) rfl rfl rfl rfl) ?_
                refine JR.run rfl rfl (r_call (kTextR b (by omega) h35) rfl rfl rfl trivial (by kernel_rfl)) ?_
                refine JR.run rfl rfl (r_move rfl rfl rfl trivial) ?_
                refine JR.run rfl rfl (r_extract rfl rfl rfl rfl rfl) ?_
                refine JR.run rfl rfl (r_extract rfl rfl rfl rfl rfl) ?_
                refine JR.run rfl rfl (r_assign rfl rfl rfl trivial) ?_
                refine JR.run rfl rfl (r_assign rfl rfl rfl trivial) ?_
                refine JR.done [] (by kernel_rfl) rfl (by kernel_rfl) ?_
                refine J_weak [(3, _), (4, _), (5, _), (6, _), (8, _), (9, _), (11, _), (2004, _), (2005, _), (2006, _)] ⟨rfl, rfl, rfl, rfl, rfl, rfl, rfl, rfl, rfl, rfl, trivial⟩ ?_
                refine J_seq ?_
                refine JR.start ?_
                refine JR.run rfl rfl (r_loadA (m := 3) (us := _) rfl rfl (by kernel_rfl) rfl rfl rfl rfl) ?_
                refine JR.run rfl rfl (r_call (kTextR c (by omega) h40) rfl rfl rfl trivial (by kernel_rfl)) ?_
                refine JR.run rfl rfl (r_move rfl rfl rfl trivial) ?_
                refine JR.run rfl rfl (r_extract rfl rfl rfl rfl rfl) ?_
                refine JR.run rfl rfl (r_extract rfl rfl rfl rfl rfl) ?_
                refine JR.run rfl rfl (r_assign rfl rfl rfl trivial) ?_
                refine JR.run rfl rfl (r_assign rfl rfl rfl trivial) ?_
                refine JR.done [] (by kernel_rfl) rfl (by kernel_rfl) ?_
                refine J_weak [(3, _), (4, _), (5, _), (6, _), (8, _), (9, _), (11, _), (13, _), (2004, _), (2005, _), (2006, _)] ⟨rfl, rfl, rfl, rfl, rfl, rfl, rfl, rfl, rfl, rfl, rfl, trivial⟩ ?_
                refine J_seq ?_
                refine JR.start ?_
                refine JR.run rfl rfl (r_move rfl rfl rfl trivial) ?_
                refine JR.run rfl rfl (r_catS rfl rfl rfl rfl (by first | (simp only [List.length_cons, List.length_nil]; omega) | (simp only [List.length_append, List.length_cons, List.length_nil]; omega))) ?_
                refine JR.run rfl rfl (r_catS rfl rfl rfl rfl (by first | (simp only [List.length_cons, List.length_nil]; omega) | (simp only [List.length_append, List.length_cons, List.length_nil]; omega))) ?_
                refine JR.run rfl rfl (r_move rfl rfl rfl trivial) ?_
                refine JR.run rfl rfl (r_catS rfl rfl rfl rfl (by first | (simp only [List.length_cons, List.length_nil]; omega) | (simp only [List.length_append, List.length_cons, List.length_nil]; omega))) ?_
                refine JR.run rfl rfl (r_catS rfl rfl rfl rfl (by first | (simp only [List.length_cons, List.length_nil]; omega) | (simp only [List.length_append, List.length_cons, List.length_nil]; omega))) ?_
                refine JR.run rfl rfl (r_move rfl rfl rfl trivial) ?_
                refine JR.run rfl rfl (r_catS rfl rfl rfl rfl (by first | (simp only [List.length_cons, List.length_nil]; omega) | (simp only [List.length_append, List.length_cons, List.length_nil]; omega))) ?_
                refine JR.run rfl rfl (r_catS rfl rfl rfl rfl (by first | (simp only [List.length_cons, List.length_nil]; omega) | (simp only [List.length_append, List.length_cons, List.length_nil]; omega))) ?_
                refine JR.run rfl rfl (r_assign rfl rfl rfl trivial) ?_
                refine JR.run rfl rfl (r_assign rfl rfl rfl trivial) ?_
                refine JR.run rfl rfl (r_assign rfl rfl rfl trivial) ?_
                refine JR.done [] (by kernel_rfl) rfl (by kernel_rfl) ?_
                refine J_weak [(3, _), (4, _), (5, _), (6, _), (8, _), (9, _), (11, _), (13, _), (2004, _), (2005, _), (2006, _)] ⟨rfl, rfl, rfl, rfl, rfl, rfl, rfl, rfl, rfl, rfl, rfl, trivial⟩ ?_
                refine J_seq ?_
                refine JR.start ?_
                refine JR.run rfl rfl (r_build (zs := [.int .i64 0, .int .i64 0, .slice none 0 0]) (qs := [(0, 1), (1, 1), (2, 1)]) [.lit (.int .i64 0), .lit (.int .i64 0), .sl 3 []] rfl rfl (by kernel_rfl) (by kernel_rfl) ⟨.refl _, .refl _, .nil _, trivial⟩ rfl rfl) ?_
                refine JR.run rfl rfl (r_alloc (x := 2016) (zs := [.int .i64 0, .int .i64 0, .slice none 0 0]) [.lit (.int .i64 0), .lit (.int .i64 0), .sl 3 []] rfl rfl rfl (by kernel_rfl) ⟨.refl _, .refl _, .nil _, trivial⟩) ?_
                refine JR.run rfl rfl (r_assign rfl rfl rfl trivial) ?_
                refine JR.run rfl rfl (r_storeA rfl rfl (by kernel_rfl) rfl rfl rfl rfl rfl) ?_
                refine JR.done [] (by kernel_rfl) rfl (by kernel_rfl) ?_
                refine J_weak [(3, _), (4, _), (5, _), (6, _), (8, _), (9, _), (11, _), (13, _), (15, _), (16, _), (2004, _), (2005, _), (2006, _), (2016, _)] ⟨rfl, rfl, rfl, rfl, rfl, rfl, rfl, rfl, rfl, rfl, rfl, rfl, rfl, rfl, trivial⟩ ?_
                refine J_seq ?_
                refine J_seq ?_
                refine JR.start ?_
                refine JR.run rfl rfl (r_move rfl rfl rfl trivial) ?_
                refine JR.run rfl rfl (r_convI (k' := .u64) rfl rfl rfl (by kernel_rfl) rfl) ?_
                refine JR.run rfl rfl ((r_remI rfl rfl rfl rfl (by decide)).cast (cast_i (j := (k : Int)) hk2')) ?_
                refine JR.done [] (by kernel_rfl) rfl (by kernel_rfl) ?_
                refine J_weak [(4, _), (5, _), (6, _), (8, _), (9, _), (11, _), (13, _), (15, _), (16, _), (85, _), (2004, _), (2005, _), (2006, _), (2016, _)] ⟨rfl, rfl, rfl, rfl, rfl, rfl, rfl, rfl, rfl, rfl, rfl, rfl, rfl, rfl, trivial⟩ ?_
                refine J_block ?_
                refine J_seq ?_
                refine JR.start ?_
                refine JR.runB rfl rfl (r_eqI rfl rfl rfl rfl) ?_ ?_
                · intro h101
                  replace h101 := of_decide_eq_true h101
                  have hls : (loS 0 ([40] ++ mTxt a ++ [41]) ([40] ++ mTxt b ++ [41]) ([40, 40] ++ mTxt c ++ [41, 41])).length ≤ 16384 := by simp only [loS, List.length_append, List.length_cons, List.length_nil]; omega
                  obtain ⟨B, hB1, hB2⟩ := sc_scan (loose_scan cA cB cC 0) hls
                  have hcs := kScanT hB1 (by omega)
                  have hBl := mScan_len hB1
                  have hBm : (B.map tokD).length = B.length := List.length_map ..
                  have hc1 := kRead B 0 (by omega)
                  rw [read_whole (loose_read cA cB cC 0) hB2] at hc1
                  have hsm := kSameS (loT 0 a b c) (by simp only [loT, Ty.size, Ty.sizes]; omega)
                  refine JR.run rfl rfl (r_assign rfl rfl rfl trivial) ?_
                  refine JR.done [] (by kernel_rfl) rfl (by kernel_rfl) ?_
                  refine J_weak [(4, _), (5, _), (6, _), (8, _), (9, _), (11, _), (13, _), (15, _), (16, _), (85, _), (100, _), (2004, _), (2005, _), (2006, _), (2016, _)] ⟨rfl, rfl, rfl, rfl, rfl, rfl, rfl, rfl, rfl, rfl, rfl, rfl, rfl, rfl, rfl, trivial⟩ ?_
                  refine J_condT rfl ?_
                  refine JR.start ?_
                  refine JR.run rfl rfl (r_move rfl rfl rfl trivial) ?_
                  refine JR.run rfl rfl (r_catS rfl rfl rfl rfl (by first | (simp only [List.length_cons, List.length_nil]; omega) | (simp only [List.length_append, List.length_cons, List.length_nil]; omega))) ?_
                  refine JR.run rfl rfl (r_move rfl rfl rfl trivial) ?_
                  refine JR.run rfl rfl (r_catS rfl rfl rfl rfl (by first | (simp only [List.length_cons, List.length_nil]; omega) | (simp only [List.length_append, List.length_cons, List.length_nil]; omega))) ?_
                  refine JR.run rfl rfl (r_catS rfl rfl rfl rfl (by first | (simp only [List.length_cons, List.length_nil]; omega) | (simp only [List.length_append, List.length_cons, List.length_nil]; omega))) ?_
                  refine JR.run rfl rfl (r_move rfl rfl rfl trivial) ?_
                  refine JR.run rfl rfl (r_catS rfl rfl rfl rfl (by first | (simp only [List.length_cons, List.length_nil]; omega) | (simp only [List.length_append, List.length_cons, List.length_nil]; omega))) ?_
                  refine JR.run rfl rfl (r_loadA (m := 3) (us := _) rfl rfl (by kernel_rfl) rfl rfl rfl rfl) ?_
                  refine JR.run rfl rfl (r_loadA (m := 3) (us := _) rfl rfl (by kernel_rfl) rfl rfl rfl rfl) ?_
                  refine JR.run rfl rfl (r_call (kTwo 7 a b) rfl rfl rfl trivial (by kernel_rfl)) ?_
                  refine JR.run rfl rfl (r_loadA (m := 3) (us := _) rfl rfl (by kernel_rfl) rfl rfl rfl rfl) ?_
                  refine JR.run rfl rfl (r_call (kTwo 9 (.two 7 a b) c) rfl rfl rfl trivial (by kernel_rfl)) ?_
                  refine JR.run rfl rfl (r_assign rfl rfl rfl trivial) ?_
                  refine JR.run rfl rfl (r_storeA rfl rfl (by kernel_rfl) rfl rfl rfl rfl rfl) ?_
                  refine JR.done [[], [0], [], [0, 1, 2], [0, 1, 2, 3], [], [0, 1, 2, 3, 4, 5], [], [], [7, 8], [], [7, 8, 9, 10], [0, 1, 2, 3, 4, 5, 6, 7, 8, 9, 10, 11], [0, 1, 2, 3, 4, 5, 6, 7, 8, 9, 10, 11, 12]] (by kernel_rfl) rfl (by kernel_rfl) ?_
                  refine J_weak [(8, _), (15, _), (16, _), (2016, _)] ⟨rfl, rfl, rfl, rfl, trivial⟩ ?_
                  refine J_seq ?_
                  refine JR.start ?_
                  refine JR.run rfl rfl (r_move rfl rfl rfl trivial) ?_
                  refine JR.run rfl rfl (r_bytesOf rfl rfl (by kernel_rfl) (by kernel_rfl) rfl) ?_
                  refine JR.run rfl rfl (r_call (hcs) rfl rfl rfl trivial (by kernel_rfl)) ?_
                  refine JR.run rfl rfl (r_move rfl rfl rfl trivial) ?_
                  refine JR.run rfl rfl (r_extract rfl rfl rfl rfl rfl) ?_
                  refine JR.run rfl rfl (r_extract rfl rfl rfl rfl rfl) ?_
                  refine JR.run rfl rfl (r_extract rfl rfl rfl rfl rfl) ?_
                  refine JR.run rfl rfl (r_assign rfl rfl rfl trivial) ?_
                  refine JR.run rfl rfl (r_assign rfl rfl rfl trivial) ?_
                  refine JR.run rfl rfl (r_assign rfl rfl rfl trivial) ?_
                  refine JR.done [] (by kernel_rfl) rfl (by kernel_rfl) ?_
                  refine J_weak [(8, _), (16, _), (17, _), (19, _), (2016, _)] ⟨rfl, rfl, rfl, rfl, rfl, trivial⟩ ?_
                  refine J_seq ?_
                  refine JR.start ?_
                  refine JR.run rfl rfl (r_move rfl rfl rfl trivial) ?_
                  refine JR.run rfl rfl (r_call (hc1) rfl rfl rfl trivial (by kernel_rfl)) ?_
                  refine JR.run rfl rfl (r_move rfl rfl rfl trivial) ?_
                  refine JR.run rfl rfl (r_extract rfl rfl rfl rfl rfl) ?_
                  refine JR.run rfl rfl (r_extract rfl rfl rfl rfl rfl) ?_
                  refine JR.run rfl rfl (r_extract rfl rfl rfl rfl rfl) ?_
                  refine JR.run rfl rfl (r_alloc (x := 2020) (zs := [.int .i64 0, .int .i64 0, .slice none 0 0]) [.lit (.int .i64 0), .lit (.int .i64 0), .sl 3 []] rfl rfl rfl (by kernel_rfl) ⟨.refl _, .refl _, .nil _, trivial⟩) ?_
                  refine JR.run rfl rfl (r_storeA rfl rfl (by kernel_rfl) rfl rfl rfl rfl rfl) ?_
                  refine JR.run rfl rfl (r_assign rfl rfl rfl trivial) ?_
                  refine JR.run rfl rfl (r_assign rfl rfl rfl trivial) ?_
                  refine JR.done [] (by kernel_rfl) rfl (by kernel_rfl) ?_
                  refine J_weak [(8, _), (16, _), (17, _), (19, _), (20, _), (21, _), (22, _), (2016, _), (2020, _)] ⟨rfl, rfl, rfl, rfl, rfl, rfl, rfl, rfl, rfl, trivial⟩ ?_
                  refine J_seq ?_
                  refine JR.start ?_
                  refine JR.run rfl rfl (r_move rfl rfl rfl trivial) ?_
                  refine JR.run rfl rfl (r_eqI rfl rfl rfl rfl) ?_
                  refine JR.run rfl rfl (r_move rfl rfl rfl trivial) ?_
                  refine JR.run rfl rfl (r_move rfl rfl rfl trivial) ?_
                  refine JR.run rfl rfl (r_eqI rfl rfl rfl rfl) ?_
                  refine JR.run rfl rfl (r_pickT rfl rfl rfl rfl trivial) ?_
                  refine JR.run rfl rfl (r_move rfl rfl rfl trivial) ?_
                  refine JR.run rfl rfl (r_move rfl rfl rfl trivial) ?_
                  refine JR.run rfl rfl (r_move rfl rfl rfl trivial) ?_
                  refine JR.run rfl rfl (r_len rfl rfl (by kernel_rfl) rfl) ?_
                  refine JR.run rfl rfl ((r_eqI rfl rfl rfl rfl).cast (cast_b (b' := true) (by exact decide_eq_true (by rw [hBm])))) ?_
                  refine JR.run rfl rfl (r_pickT rfl rfl rfl rfl trivial) ?_
                  refine JR.run rfl rfl (r_move rfl rfl rfl trivial) ?_
                  refine JR.run rfl rfl (r_loadA (m := 3) (us := _) rfl rfl (by kernel_rfl) rfl rfl rfl rfl) ?_
                  refine JR.run rfl rfl (r_loadA (m := 3) (us := _) rfl rfl (by kernel_rfl) rfl rfl rfl rfl) ?_
                  refine JR.run rfl rfl (r_call (hsm) rfl rfl rfl trivial (by kernel_rfl)) ?_
                  refine JR.run rfl rfl (r_pickT rfl rfl rfl rfl trivial) ?_
                  refine JR.run rfl rfl (r_move rfl rfl rfl trivial) ?_
                  refine JR.run rfl rfl (r_call (kWakes) rfl rfl rfl trivial (by kernel_rfl)) ?_
                  refine JR.run rfl rfl (r_pickT rfl rfl rfl rfl trivial) ?_
                  refine JR.run rfl rfl (r_assign rfl rfl rfl trivial) ?_
                  refine JR.done [] (by kernel_rfl) rfl (by kernel_rfl) ?_
                  refine J_weak [(8, _)] ⟨rfl, trivial⟩ ?_
                  refine J_ret ?_
                  exact ⟨.inl rfl, _, rfl, .refl _, trivial⟩
                · intro h101
                  replace h101 := of_decide_eq_false h101
                  refine JR.run rfl rfl (r_assign rfl rfl rfl trivial) ?_
                  refine JR.done [] (by kernel_rfl) rfl (by kernel_rfl) ?_
                  refine J_weak [(4, _), (5, _), (6, _), (8, _), (9, _), (11, _), (13, _), (15, _), (16, _), (85, _), (100, _), (2004, _), (2005, _), (2006, _), (2016, _)] ⟨rfl, rfl, rfl, rfl, rfl, rfl, rfl, rfl, rfl, rfl, rfl, rfl, rfl, rfl, rfl, trivial⟩ ?_
                  refine J_condF rfl ?_
                  refine J_seq ?_
                  refine JR.start ?_
                  refine JR.runB rfl rfl (r_eqI rfl rfl rfl rfl) ?_ ?_
                  · intro h115
                    replace h115 := of_decide_eq_true h115
                    have hls : (loS 1 ([40] ++ mTxt a ++ [41]) ([40] ++ mTxt b ++ [41]) ([40, 40] ++ mTxt c ++ [41, 41])).length ≤ 16384 := by simp only [loS, List.length_append, List.length_cons, List.length_nil]; omega
                    obtain ⟨B, hB1, hB2⟩ := sc_scan (loose_scan cA cB cC 1) hls
                    have hcs := kScanT hB1 (by omega)
                    have hBl := mScan_len hB1
                    have hBm : (B.map tokD).length = B.length := List.length_map ..
                    have hc1 := kRead B 0 (by omega)
                    rw [read_whole (loose_read cA cB cC 1) hB2] at hc1
                    have hsm := kSameS (loT 1 a b c) (by simp only [loT, Ty.size, Ty.sizes]; omega)
                    refine JR.run rfl rfl (r_assign rfl rfl rfl trivial) ?_
                    refine JR.done [] (by kernel_rfl) rfl (by kernel_rfl) ?_
                    refine J_weak [(4, _), (5, _), (6, _), (8, _), (9, _), (11, _), (13, _), (15, _), (16, _), (85, _), (114, _), (2004, _), (2005, _), (2006, _), (2016, _)] ⟨rfl, rfl, rfl, rfl, rfl, rfl, rfl, rfl, rfl, rfl, rfl, rfl, rfl, rfl, rfl, trivial⟩ ?_
                    refine J_condT rfl ?_
                    refine JR.start ?_
                    refine JR.run rfl rfl (r_move rfl rfl rfl trivial) ?_
                    refine JR.run rfl rfl (r_catS rfl rfl rfl rfl (by first | (simp only [List.length_cons, List.length_nil]; omega) | (simp only [List.length_append, List.length_cons, List.length_nil]; omega))) ?_
                    refine JR.run rfl rfl (r_move rfl rfl rfl trivial) ?_
                    refine JR.run rfl rfl (r_catS rfl rfl rfl rfl (by first | (simp only [List.length_cons, List.length_nil]; omega) | (simp only [List.length_append, List.length_cons, List.length_nil]; omega))) ?_
                    refine JR.run rfl rfl (r_catS rfl rfl rfl rfl (by first | (simp only [List.length_cons, List.length_nil]; omega) | (simp only [List.length_append, List.length_cons, List.length_nil]; omega))) ?_
                    refine JR.run rfl rfl (r_move rfl rfl rfl trivial) ?_
                    refine JR.run rfl rfl (r_catS rfl rfl rfl rfl (by first | (simp only [List.length_cons, List.length_nil]; omega) | (simp only [List.length_append, List.length_cons, List.length_nil]; omega))) ?_
                    refine JR.run rfl rfl (r_loadA (m := 3) (us := _) rfl rfl (by kernel_rfl) rfl rfl rfl rfl) ?_
                    refine JR.run rfl rfl (r_loadA (m := 3) (us := _) rfl rfl (by kernel_rfl) rfl rfl rfl rfl) ?_
                    refine JR.run rfl rfl (r_loadA (m := 3) (us := _) rfl rfl (by kernel_rfl) rfl rfl rfl rfl) ?_
                    refine JR.run rfl rfl (r_call (kTwo 9 b c) rfl rfl rfl trivial (by kernel_rfl)) ?_
                    refine JR.run rfl rfl (r_call (kTwo 9 a (.two 9 b c)) rfl rfl rfl trivial (by kernel_rfl)) ?_
                    refine JR.run rfl rfl (r_assign rfl rfl rfl trivial) ?_
                    refine JR.run rfl rfl (r_storeA rfl rfl (by kernel_rfl) rfl rfl rfl rfl rfl) ?_
                    refine JR.done [[], [0], [], [0, 1, 2], [0, 1, 2, 3], [], [0, 1, 2, 3, 4, 5], [], [], [], [8, 9], [7, 8, 9, 10], [0, 1, 2, 3, 4, 5, 6, 7, 8, 9, 10, 11], [0, 1, 2, 3, 4, 5, 6, 7, 8, 9, 10, 11, 12]] (by kernel_rfl) rfl (by kernel_rfl) ?_
                    refine J_weak [(8, _), (15, _), (16, _), (2016, _)] ⟨rfl, rfl, rfl, rfl, trivial⟩ ?_
                    refine J_seq ?_
                    refine JR.start ?_
                    refine JR.run rfl rfl (r_move rfl rfl rfl trivial) ?_
                    refine JR.run rfl rfl (r_bytesOf rfl rfl (by kernel_rfl) (by kernel_rfl) rfl) ?_
                    refine JR.run rfl rfl (r_call (hcs) rfl rfl rfl trivial (by kernel_rfl)) ?_
                    refine JR.run rfl rfl (r_move rfl rfl rfl trivial) ?_
                    refine JR.run rfl rfl (r_extract rfl rfl rfl rfl rfl) ?_
                    refine JR.run rfl rfl (r_extract rfl rfl rfl rfl rfl) ?_
                    refine JR.run rfl rfl (r_extract rfl rfl rfl rfl rfl) ?_
                    refine JR.run rfl rfl (r_assign rfl rfl rfl trivial) ?_
                    refine JR.run rfl rfl (r_assign rfl rfl rfl trivial) ?_
                    refine JR.run rfl rfl (r_assign rfl rfl rfl trivial) ?_
                    refine JR.done [] (by kernel_rfl) rfl (by kernel_rfl) ?_
                    refine J_weak [(8, _), (16, _), (17, _), (19, _), (2016, _)] ⟨rfl, rfl, rfl, rfl, rfl, trivial⟩ ?_
                    refine J_seq ?_
                    refine JR.start ?_
                    refine JR.run rfl rfl (r_move rfl rfl rfl trivial) ?_
                    refine JR.run rfl rfl (r_call (hc1) rfl rfl rfl trivial (by kernel_rfl)) ?_
                    refine JR.run rfl rfl (r_move rfl rfl rfl trivial) ?_
                    refine JR.run rfl rfl (r_extract rfl rfl rfl rfl rfl) ?_
                    refine JR.run rfl rfl (r_extract rfl rfl rfl rfl rfl) ?_
                    refine JR.run rfl rfl (r_extract rfl rfl rfl rfl rfl) ?_
                    refine JR.run rfl rfl (r_alloc (x := 2020) (zs := [.int .i64 0, .int .i64 0, .slice none 0 0]) [.lit (.int .i64 0), .lit (.int .i64 0), .sl 3 []] rfl rfl rfl (by kernel_rfl) ⟨.refl _, .refl _, .nil _, trivial⟩) ?_
                    refine JR.run rfl rfl (r_storeA rfl rfl (by kernel_rfl) rfl rfl rfl rfl rfl) ?_
                    refine JR.run rfl rfl (r_assign rfl rfl rfl trivial) ?_
                    refine JR.run rfl rfl (r_assign rfl rfl rfl trivial) ?_
                    refine JR.done [] (by kernel_rfl) rfl (by kernel_rfl) ?_
                    refine J_weak [(8, _), (16, _), (17, _), (19, _), (20, _), (21, _), (22, _), (2016, _), (2020, _)] ⟨rfl, rfl, rfl, rfl, rfl, rfl, rfl, rfl, rfl, trivial⟩ ?_
                    refine J_seq ?_
                    refine JR.start ?_
                    refine JR.run rfl rfl (r_move rfl rfl rfl trivial) ?_
                    refine JR.run rfl rfl (r_eqI rfl rfl rfl rfl) ?_
                    refine JR.run rfl rfl (r_move rfl rfl rfl trivial) ?_
                    refine JR.run rfl rfl (r_move rfl rfl rfl trivial) ?_
                    refine JR.run rfl rfl (r_eqI rfl rfl rfl rfl) ?_
                    refine JR.run rfl rfl (r_pickT rfl rfl rfl rfl trivial) ?_
                    refine JR.run rfl rfl (r_move rfl rfl rfl trivial) ?_
                    refine JR.run rfl rfl (r_move rfl rfl rfl trivial) ?_
                    refine JR.run rfl rfl (r_move rfl rfl rfl trivial) ?_
                    refine JR.run rfl rfl (r_len rfl rfl (by kernel_rfl) rfl) ?_
                    refine JR.run rfl rfl ((r_eqI rfl rfl rfl rfl).cast (cast_b (b' := true) (by exact decide_eq_true (by rw [hBm])))) ?_
                    refine JR.run rfl rfl (r_pickT rfl rfl rfl rfl trivial) ?_
                    refine JR.run rfl rfl (r_move rfl rfl rfl trivial) ?_
                    refine JR.run rfl rfl (r_loadA (m := 3) (us := _) rfl rfl (by kernel_rfl) rfl rfl rfl rfl) ?_
                    refine JR.run rfl rfl (r_loadA (m := 3) (us := _) rfl rfl (by kernel_rfl) rfl rfl rfl rfl) ?_
                    refine JR.run rfl rfl (r_call (hsm) rfl rfl rfl trivial (by kernel_rfl)) ?_
                    refine JR.run rfl rfl (r_pickT rfl rfl rfl rfl trivial) ?_
                    refine JR.run rfl rfl (r_move rfl rfl rfl trivial) ?_
                    refine JR.run rfl rfl (r_call (kWakes) rfl rfl rfl trivial (by kernel_rfl)) ?_
                    refine JR.run rfl rfl (r_pickT rfl rfl rfl rfl trivial) ?_
                    refine JR.run rfl rfl (r_assign rfl rfl rfl trivial) ?_
                    refine JR.done [] (by kernel_rfl) rfl (by kernel_rfl) ?_
                    refine J_weak [(8, _)] ⟨rfl, trivial⟩ ?_
                    refine J_ret ?_
                    exact ⟨.inl rfl, _, rfl, .refl _, trivial⟩
                  · intro h115
                    replace h115 := of_decide_eq_false h115
                    refine JR.run rfl rfl (r_assign rfl rfl rfl trivial) ?_
                    refine JR.done [] (by kernel_rfl) rfl (by kernel_rfl) ?_
                    refine J_weak [(4, _), (5, _), (6, _), (8, _), (9, _), (11, _), (13, _), (15, _), (16, _), (85, _), (114, _), (2004, _), (2005, _), (2006, _), (2016, _)] ⟨rfl, rfl, rfl, rfl, rfl, rfl, rfl, rfl, rfl, rfl, rfl, rfl, rfl, rfl, rfl, trivial⟩ ?_
                    refine J_condF rfl ?_
                    refine J_seq ?_
                    refine JR.start ?_
                    refine JR.runB rfl rfl (r_eqI rfl rfl rfl rfl) ?_ ?_
                    · intro h129
                      replace h129 := of_decide_eq_true h129
                      have hls : (loS 2 ([40] ++ mTxt a ++ [41]) ([40] ++ mTxt b ++ [41]) ([40, 40] ++ mTxt c ++ [41, 41])).length ≤ 16384 := by simp only [loS, tkList, List.length_append, List.length_cons, List.length_nil]; omega
                      obtain ⟨B, hB1, hB2⟩ := sc_scan (loose_scan cA cB cC 2) hls
                      have hcs := kScanT hB1 (by omega)
                      have hBl := mScan_len hB1
                      have hBm : (B.map tokD).length = B.length := List.length_map ..
                      have hc1 := kRead B 0 (by omega)
                      rw [read_whole (loose_read cA cB cC 2) hB2] at hc1
                      have hsm := kSameS (loT 2 a b c) (by simp only [loT, Ty.size, Ty.sizes]; omega)
                      refine JR.run rfl rfl (r_assign rfl rfl rfl trivial) ?_
                      refine JR.done [] (by kernel_rfl) rfl (by kernel_rfl) ?_
                      refine J_weak [(4, _), (5, _), (6, _), (8, _), (9, _), (11, _), (13, _), (15, _), (16, _), (85, _), (128, _), (2004, _), (2005, _), (2006, _), (2016, _)] ⟨rfl, rfl, rfl, rfl, rfl, rfl, rfl, rfl, rfl, rfl, rfl, rfl, rfl, rfl, rfl, trivial⟩ ?_
                      refine J_condT rfl ?_
                      refine JR.start ?_
                      refine JR.run rfl rfl (r_move rfl rfl rfl trivial) ?_
                      refine JR.run rfl rfl (r_catS rfl rfl rfl rfl (by first | (simp only [List.length_cons, List.length_nil]; omega) | (simp only [List.length_append, List.length_cons, List.length_nil]; omega))) ?_
                      refine JR.run rfl rfl (r_move rfl rfl rfl trivial) ?_
                      refine JR.run rfl rfl (r_catS rfl rfl rfl rfl (by first | (simp only [List.length_cons, List.length_nil]; omega) | (simp only [List.length_append, List.length_cons, List.length_nil]; omega))) ?_
                      refine JR.run rfl rfl (r_catS rfl rfl rfl rfl (by first | (simp only [List.length_cons, List.length_nil]; omega) | (simp only [List.length_append, List.length_cons, List.length_nil]; omega))) ?_
                      refine JR.run rfl rfl (r_move rfl rfl rfl trivial) ?_
                      refine JR.run rfl rfl (r_catS rfl rfl rfl rfl (by first | (simp only [List.length_cons, List.length_nil]; omega) | (simp only [List.length_append, List.length_cons, List.length_nil]; omega))) ?_
                      refine JR.run rfl rfl (r_catS rfl rfl rfl rfl (by first | (simp only [List.length_cons, List.length_nil]; omega) | (simp only [List.length_append, List.length_cons, List.length_nil]; omega))) ?_
                      refine JR.run rfl rfl (r_loadA (m := 3) (us := _) rfl rfl (by kernel_rfl) rfl rfl rfl rfl) ?_
                      refine JR.run rfl rfl (r_loadA (m := 3) (us := _) rfl rfl (by kernel_rfl) rfl rfl rfl rfl) ?_
                      refine JR.run rfl rfl (r_loadA (m := 3) (us := _) rfl rfl (by kernel_rfl) rfl rfl rfl rfl) ?_
                      refine JR.run rfl rfl (r_call (kList c) rfl rfl rfl trivial (by kernel_rfl)) ?_
                      refine JR.run rfl rfl (r_call (kTwo 7 b (.one 8 c)) rfl rfl rfl trivial (by kernel_rfl)) ?_
                      refine JR.run rfl rfl (r_call (kTwo 9 a (.two 7 b (.one 8 c))) rfl rfl rfl trivial (by kernel_rfl)) ?_
                      refine JR.run rfl rfl (r_assign rfl rfl rfl trivial) ?_
                      refine JR.run rfl rfl (r_storeA rfl rfl (by kernel_rfl) rfl rfl rfl rfl rfl) ?_
                      refine JR.done [[], [0], [], [0, 1, 2], [0, 1, 2, 3], [], [0, 1, 2, 3, 4, 5], [0, 1, 2, 3, 4, 5, 6], [], [], [], [10], [9, 10, 11], [8, 9, 10, 11, 12], [0, 1, 2, 3, 4, 5, 6, 7, 8, 9, 10, 11, 12, 13], [0, 1, 2, 3, 4, 5, 6, 7, 8, 9, 10, 11, 12, 13, 14]] (by kernel_rfl) rfl (by kernel_rfl) ?_
                      refine J_weak [(8, _), (15, _), (16, _), (2016, _)] ⟨rfl, rfl, rfl, rfl, trivial⟩ ?_
                      refine J_seq ?_
                      refine JR.start ?_
                      refine JR.run rfl rfl (r_move rfl rfl rfl trivial) ?_
                      refine JR.run rfl rfl (r_bytesOf rfl rfl (by kernel_rfl) (by kernel_rfl) rfl) ?_
                      refine JR.run rfl rfl (r_call (hcs) rfl rfl rfl trivial (by kernel_rfl)) ?_
                      refine JR.run rfl rfl (r_move rfl rfl rfl trivial) ?_
                      refine JR.run rfl rfl (r_extract rfl rfl rfl rfl rfl) ?_
                      refine JR.run rfl rfl (r_extract rfl rfl rfl rfl rfl) ?_
                      refine JR.run rfl rfl (r_extract rfl rfl rfl rfl rfl) ?_
                      refine JR.run rfl rfl (r_assign rfl rfl rfl trivial) ?_
                      refine JR.run rfl rfl (r_assign rfl rfl rfl trivial) ?_
                      refine JR.run rfl rfl (r_assign rfl rfl rfl trivial) ?_
                      refine JR.done [] (by kernel_rfl) rfl (by kernel_rfl) ?_
                      refine J_weak [(8, _), (16, _), (17, _), (19, _), (2016, _)] ⟨rfl, rfl, rfl, rfl, rfl, trivial⟩ ?_
                      refine J_seq ?_
                      refine JR.start ?_
                      refine JR.run rfl rfl (r_move rfl rfl rfl trivial) ?_
                      refine JR.run rfl rfl (r_call (hc1) rfl rfl rfl trivial (by kernel_rfl)) ?_
                      refine JR.run rfl rfl (r_move rfl rfl rfl trivial) ?_
                      refine JR.run rfl rfl (r_extract rfl rfl rfl rfl rfl) ?_
                      refine JR.run rfl rfl (r_extract rfl rfl rfl rfl rfl) ?_
                      refine JR.run rfl rfl (r_extract rfl rfl rfl rfl rfl) ?_
                      refine JR.run rfl rfl (r_alloc (x := 2020) (zs := [.int .i64 0, .int .i64 0, .slice none 0 0]) [.lit (.int .i64 0), .lit (.int .i64 0), .sl 3 []] rfl rfl rfl (by kernel_rfl) ⟨.refl _, .refl _, .nil _, trivial⟩) ?_
                      refine JR.run rfl rfl (r_storeA rfl rfl (by kernel_rfl) rfl rfl rfl rfl rfl) ?_
                      refine JR.run rfl rfl (r_assign rfl rfl rfl trivial) ?_
                      refine JR.run rfl rfl (r_assign rfl rfl rfl trivial) ?_
                      refine JR.done [] (by kernel_rfl) rfl (by kernel_rfl) ?_
                      refine J_weak [(8, _), (16, _), (17, _), (19, _), (20, _), (21, _), (22, _), (2016, _), (2020, _)] ⟨rfl, rfl, rfl, rfl, rfl, rfl, rfl, rfl, rfl, trivial⟩ ?_
                      refine J_seq ?_
                      refine JR.start ?_
                      refine JR.run rfl rfl (r_move rfl rfl rfl trivial) ?_
                      refine JR.run rfl rfl (r_eqI rfl rfl rfl rfl) ?_
                      refine JR.run rfl rfl (r_move rfl rfl rfl trivial) ?_
                      refine JR.run rfl rfl (r_move rfl rfl rfl trivial) ?_
                      refine JR.run rfl rfl (r_eqI rfl rfl rfl rfl) ?_
                      refine JR.run rfl rfl (r_pickT rfl rfl rfl rfl trivial) ?_
                      refine JR.run rfl rfl (r_move rfl rfl rfl trivial) ?_
                      refine JR.run rfl rfl (r_move rfl rfl rfl trivial) ?_
                      refine JR.run rfl rfl (r_move rfl rfl rfl trivial) ?_
                      refine JR.run rfl rfl (r_len rfl rfl (by kernel_rfl) rfl) ?_
                      refine JR.run rfl rfl ((r_eqI rfl rfl rfl rfl).cast (cast_b (b' := true) (by exact decide_eq_true (by rw [hBm])))) ?_
                      refine JR.run rfl rfl (r_pickT rfl rfl rfl rfl trivial) ?_
                      refine JR.run rfl rfl (r_move rfl rfl rfl trivial) ?_
                      refine JR.run rfl rfl (r_loadA (m := 3) (us := _) rfl rfl (by kernel_rfl) rfl rfl rfl rfl) ?_
                      refine JR.run rfl rfl (r_loadA (m := 3) (us := _) rfl rfl (by kernel_rfl) rfl rfl rfl rfl) ?_
                      refine JR.run rfl rfl (r_call (hsm) rfl rfl rfl trivial (by kernel_rfl)) ?_
                      refine JR.run rfl rfl (r_pickT rfl rfl rfl rfl trivial) ?_
                      refine JR.run rfl rfl (r_move rfl rfl rfl trivial) ?_
                      refine JR.run rfl rfl (r_call (kWakes) rfl rfl rfl trivial (by kernel_rfl)) ?_
                      refine JR.run rfl rfl (r_pickT rfl rfl rfl rfl trivial) ?_
                      refine JR.run rfl rfl (r_assign rfl rfl rfl trivial) ?_
                      refine JR.done [] (by kernel_rfl) rfl (by kernel_rfl) ?_
                      refine J_weak [(8, _)] ⟨rfl, trivial⟩ ?_
                      refine J_ret ?_
                      exact ⟨.inl rfl, _, rfl, .refl _, trivial⟩
                    · intro h129
                      replace h129 := of_decide_eq_false h129
                      refine JR.run rfl rfl (r_assign rfl rfl rfl trivial) ?_
                      refine JR.done [] (by kernel_rfl) rfl (by kernel_rfl) ?_
                      refine J_weak [(4, _), (5, _), (6, _), (8, _), (9, _), (11, _), (13, _), (15, _), (16, _), (85, _), (128, _), (2004, _), (2005, _), (2006, _), (2016, _)] ⟨rfl, rfl, rfl, rfl, rfl, rfl, rfl, rfl, rfl, rfl, rfl, rfl, rfl, rfl, rfl, trivial⟩ ?_
                      refine J_condF rfl ?_
                      refine J_seq ?_
                      refine JR.start ?_
                      refine JR.runB rfl rfl (r_eqI rfl rfl rfl rfl) ?_ ?_
                      · intro h145
                        replace h145 := of_decide_eq_true h145
                        have hls : (loS 3 ([40] ++ mTxt a ++ [41]) ([40] ++ mTxt b ++ [41]) ([40, 40] ++ mTxt c ++ [41, 41])).length ≤ 16384 := by simp only [loS, List.length_append, List.length_cons, List.length_nil]; omega
                        obtain ⟨B, hB1, hB2⟩ := sc_scan (loose_scan cA cB cC 3) hls
                        have hcs := kScanT hB1 (by omega)
                        have hBl := mScan_len hB1
                        have hBm : (B.map tokD).length = B.length := List.length_map ..
                        have hc1 := kRead B 0 (by omega)
                        rw [read_whole (loose_read cA cB cC 3) hB2] at hc1
                        have hsm := kSameS (loT 3 a b c) (by simp only [loT, Ty.size, Ty.sizes]; omega)
                        refine JR.run rfl rfl (r_assign rfl rfl rfl trivial) ?_
                        refine JR.done [] (by kernel_rfl) rfl (by kernel_rfl) ?_
                        refine J_weak [(4, _), (5, _), (6, _), (8, _), (9, _), (11, _), (13, _), (15, _), (16, _), (144, _), (2004, _), (2005, _), (2006, _), (2016, _)] ⟨rfl, rfl, rfl, rfl, rfl, rfl, rfl, rfl, rfl, rfl, rfl, rfl, rfl, rfl, trivial⟩ ?_
                        refine J_condT rfl ?_
                        refine JR.start ?_
                        refine JR.run rfl rfl (r_move rfl rfl rfl trivial) ?_
                        refine JR.run rfl rfl (r_catS rfl rfl rfl rfl (by first | (simp only [List.length_cons, List.length_nil]; omega) | (simp only [List.length_append, List.length_cons, List.length_nil]; omega))) ?_
                        refine JR.run rfl rfl (r_move rfl rfl rfl trivial) ?_
                        refine JR.run rfl rfl (r_catS rfl rfl rfl rfl (by first | (simp only [List.length_cons, List.length_nil]; omega) | (simp only [List.length_append, List.length_cons, List.length_nil]; omega))) ?_
                        refine JR.run rfl rfl (r_catS rfl rfl rfl rfl (by first | (simp only [List.length_cons, List.length_nil]; omega) | (simp only [List.length_append, List.length_cons, List.length_nil]; omega))) ?_
                        refine JR.run rfl rfl (r_move rfl rfl rfl trivial) ?_
                        refine JR.run rfl rfl (r_catS rfl rfl rfl rfl (by first | (simp only [List.length_cons, List.length_nil]; omega) | (simp only [List.length_append, List.length_cons, List.length_nil]; omega))) ?_
                        refine JR.run rfl rfl (r_loadA (m := 3) (us := _) rfl rfl (by kernel_rfl) rfl rfl rfl rfl) ?_
                        refine JR.run rfl rfl (r_call (kList a) rfl rfl rfl trivial (by kernel_rfl)) ?_
                        refine JR.run rfl rfl (r_call (kList (.one 8 a)) rfl rfl rfl trivial (by kernel_rfl)) ?_
                        refine JR.run rfl rfl (r_loadA (m := 3) (us := _) rfl rfl (by kernel_rfl) rfl rfl rfl rfl) ?_
                        refine JR.run rfl rfl (r_call (kList b) rfl rfl rfl trivial (by kernel_rfl)) ?_
                        refine JR.run rfl rfl (r_call (kTwo 7 (.one 8 (.one 8 a)) (.one 8 b)) rfl rfl rfl trivial (by kernel_rfl)) ?_
                        refine JR.run rfl rfl (r_loadA (m := 3) (us := _) rfl rfl (by kernel_rfl) rfl rfl rfl rfl) ?_
                        refine JR.run rfl rfl (r_call (kTwo 9 (.two 7 (.one 8 (.one 8 a)) (.one 8 b)) c) rfl rfl rfl trivial (by kernel_rfl)) ?_
                        refine JR.run rfl rfl (r_assign rfl rfl rfl trivial) ?_
                        refine JR.run rfl rfl (r_storeA rfl rfl (by kernel_rfl) rfl rfl rfl rfl rfl) ?_
                        refine JR.done [[], [0], [], [0, 1, 2], [0, 1, 2, 3], [], [0, 1, 2, 3, 4, 5], [], [7], [7, 8], [], [7, 8, 9, 10], [7, 8, 9, 10, 11], [], [7, 8, 9, 10, 11, 12, 13], [0, 1, 2, 3, 4, 5, 6, 7, 8, 9, 10, 11, 12, 13, 14], [0, 1, 2, 3, 4, 5, 6, 7, 8, 9, 10, 11, 12, 13, 14, 15]] (by kernel_rfl) rfl (by kernel_rfl) ?_
                        refine J_weak [(8, _), (15, _), (16, _), (2016, _)] ⟨rfl, rfl, rfl, rfl, trivial⟩ ?_
                        refine J_seq ?_
                        refine JR.start ?_
                        refine JR.run rfl rfl (r_move rfl rfl rfl trivial) ?_
                        refine JR.run rfl rfl (r_bytesOf rfl rfl (by kernel_rfl) (by kernel_rfl) rfl) ?_
                        refine JR.run rfl rfl (r_call (hcs) rfl rfl rfl trivial (by kernel_rfl)) ?_
                        refine JR.run rfl rfl (r_move rfl rfl rfl trivial) ?_
                        refine JR.run rfl rfl (r_extract rfl rfl rfl rfl rfl) ?_
                        refine JR.run rfl rfl (r_extract rfl rfl rfl rfl rfl) ?_
                        refine JR.run rfl rfl (r_extract rfl rfl rfl rfl rfl) ?_
                        refine JR.run rfl rfl (r_assign rfl rfl rfl trivial) ?_
                        refine JR.run rfl rfl (r_assign rfl rfl rfl trivial) ?_
                        refine JR.run rfl rfl (r_assign rfl rfl rfl trivial) ?_
                        refine JR.done [] (by kernel_rfl) rfl (by kernel_rfl) ?_
                        refine J_weak [(8, _), (16, _), (17, _), (19, _), (2016, _)] ⟨rfl, rfl, rfl, rfl, rfl, trivial⟩ ?_
                        refine J_seq ?_
                        refine JR.start ?_
                        refine JR.run rfl rfl (r_move rfl rfl rfl trivial) ?_
                        refine JR.run rfl rfl (r_call (hc1) rfl rfl rfl trivial (by kernel_rfl)) ?_
                        refine JR.run rfl rfl (r_move rfl rfl rfl trivial) ?_
                        refine JR.run rfl rfl (r_extract rfl rfl rfl rfl rfl) ?_
                        refine JR.run rfl rfl (r_extract rfl rfl rfl rfl rfl) ?_
                        refine JR.run rfl rfl (r_extract rfl rfl rfl rfl rfl) ?_
                        refine JR.run rfl rfl (r_alloc (x := 2020) (zs := [.int .i64 0, .int .i64 0, .slice none 0 0]) [.lit (.int .i64 0), .lit (.int .i64 0), .sl 3 []] rfl rfl rfl (by kernel_rfl) ⟨.refl _, .refl _, .nil _, trivial⟩) ?_
                        refine JR.run rfl rfl (r_storeA rfl rfl (by kernel_rfl) rfl rfl rfl rfl rfl) ?_
                        refine JR.run rfl rfl (r_assign rfl rfl rfl trivial) ?_
                        refine JR.run rfl rfl (r_assign rfl rfl rfl trivial) ?_
                        refine JR.done [] (by kernel_rfl) rfl (by kernel_rfl) ?_
                        refine J_weak [(8, _), (16, _), (17, _), (19, _), (20, _), (21, _), (22, _), (2016, _), (2020, _)] ⟨rfl, rfl, rfl, rfl, rfl, rfl, rfl, rfl, rfl, trivial⟩ ?_
                        refine J_seq ?_
                        refine JR.start ?_
                        refine JR.run rfl rfl (r_move rfl rfl rfl trivial) ?_
                        refine JR.run rfl rfl (r_eqI rfl rfl rfl rfl) ?_
                        refine JR.run rfl rfl (r_move rfl rfl rfl trivial) ?_
                        refine JR.run rfl rfl (r_move rfl rfl rfl trivial) ?_
                        refine JR.run rfl rfl (r_eqI rfl rfl rfl rfl) ?_
                        refine JR.run rfl rfl (r_pickT rfl rfl rfl rfl trivial) ?_
                        refine JR.run rfl rfl (r_move rfl rfl rfl trivial) ?_
                        refine JR.run rfl rfl (r_move rfl rfl rfl trivial) ?_
                        refine JR.run rfl rfl (r_move rfl rfl rfl trivial) ?_
                        refine JR.run rfl rfl (r_len rfl rfl (by kernel_rfl) rfl) ?_
                        refine JR.run rfl rfl ((r_eqI rfl rfl rfl rfl).cast (cast_b (b' := true) (by exact decide_eq_true (by rw [hBm])))) ?_
                        refine JR.run rfl rfl (r_pickT rfl rfl rfl rfl trivial) ?_
                        refine JR.run rfl rfl (r_move rfl rfl rfl trivial) ?_
                        refine JR.run rfl rfl (r_loadA (m := 3) (us := _) rfl rfl (by kernel_rfl) rfl rfl rfl rfl) ?_
                        refine JR.run rfl rfl (r_loadA (m := 3) (us := _) rfl rfl (by kernel_rfl) rfl rfl rfl rfl) ?_
                        refine JR.run rfl rfl (r_call (hsm) rfl rfl rfl trivial (by kernel_rfl)) ?_
                        refine JR.run rfl rfl (r_pickT rfl rfl rfl rfl trivial) ?_
                        refine JR.run rfl rfl (r_move rfl rfl rfl trivial) ?_
                        refine JR.run rfl rfl (r_call (kWakes) rfl rfl rfl trivial (by kernel_rfl)) ?_
                        refine JR.run rfl rfl (r_pickT rfl rfl rfl rfl trivial) ?_
                        refine JR.run rfl rfl (r_assign rfl rfl rfl trivial) ?_
                        refine JR.done [] (by kernel_rfl) rfl (by kernel_rfl) ?_
                        refine J_weak [(8, _)] ⟨rfl, trivial⟩ ?_
                        refine J_ret ?_
                        exact ⟨.inl rfl, _, rfl, .refl _, trivial⟩
                      · intro h145
                        replace h145 := of_decide_eq_false h145
                        have hls : (loS 4 ([40] ++ mTxt a ++ [41]) ([40] ++ mTxt b ++ [41]) ([40, 40] ++ mTxt c ++ [41, 41])).length ≤ 16384 := by simp only [loS, List.length_append, List.length_cons, List.length_nil]; omega
                        obtain ⟨B, hB1, hB2⟩ := sc_scan (loose_scan cA cB cC 4) hls
                        have hcs := kScanT hB1 (by omega)
                        have hBl := mScan_len hB1
                        have hBm : (B.map tokD).length = B.length := List.length_map ..
                        have hc1 := kRead B 0 (by omega)
                        rw [read_whole (loose_read cA cB cC 4) hB2] at hc1
                        have hsm := kSameS (loT 4 a b c) (by simp only [loT, Ty.size, Ty.sizes]; omega)
                        refine JR.run rfl rfl (r_assign rfl rfl rfl trivial) ?_
                        refine JR.done [] (by kernel_rfl) rfl (by kernel_rfl) ?_
                        refine J_weak [(4, _), (5, _), (6, _), (8, _), (9, _), (11, _), (13, _), (15, _), (16, _), (144, _), (2004, _), (2005, _), (2006, _), (2016, _)] ⟨rfl, rfl, rfl, rfl, rfl, rfl, rfl, rfl, rfl, rfl, rfl, rfl, rfl, rfl, trivial⟩ ?_
                        refine J_condF rfl ?_
                        refine JR.start ?_
                        refine JR.run rfl rfl (r_move rfl rfl rfl trivial) ?_
                        refine JR.run rfl rfl (r_catS rfl rfl rfl rfl (by first | (simp only [List.length_cons, List.length_nil]; omega) | (simp only [List.length_append, List.length_cons, List.length_nil]; omega))) ?_
                        refine JR.run rfl rfl (r_catS rfl rfl rfl rfl (by first | (simp only [List.length_cons, List.length_nil]; omega) | (simp only [List.length_append, List.length_cons, List.length_nil]; omega))) ?_
                        refine JR.run rfl rfl (r_move rfl rfl rfl trivial) ?_
                        refine JR.run rfl rfl (r_catS rfl rfl rfl rfl (by first | (simp only [List.length_cons, List.length_nil]; omega) | (simp only [List.length_append, List.length_cons, List.length_nil]; omega))) ?_
                        refine JR.run rfl rfl (r_catS rfl rfl rfl rfl (by first | (simp only [List.length_cons, List.length_nil]; omega) | (simp only [List.length_append, List.length_cons, List.length_nil]; omega))) ?_
                        refine JR.run rfl rfl (r_move rfl rfl rfl trivial) ?_
                        refine JR.run rfl rfl (r_catS rfl rfl rfl rfl (by first | (simp only [List.length_cons, List.length_nil]; omega) | (simp only [List.length_append, List.length_cons, List.length_nil]; omega))) ?_
                        refine JR.run rfl rfl (r_loadA (m := 3) (us := _) rfl rfl (by kernel_rfl) rfl rfl rfl rfl) ?_
                        refine JR.run rfl rfl (r_loadA (m := 3) (us := _) rfl rfl (by kernel_rfl) rfl rfl rfl rfl) ?_
                        refine JR.run rfl rfl (r_call (kTwo 9 a b) rfl rfl rfl trivial (by kernel_rfl)) ?_
                        refine JR.run rfl rfl (r_call (kList (.two 9 a b)) rfl rfl rfl trivial (by kernel_rfl)) ?_
                        refine JR.run rfl rfl (r_loadA (m := 3) (us := _) rfl rfl (by kernel_rfl) rfl rfl rfl rfl) ?_
                        refine JR.run rfl rfl (r_call (kTwo 9 (.one 8 (.two 9 a b)) c) rfl rfl rfl trivial (by kernel_rfl)) ?_
                        refine JR.run rfl rfl (r_assign rfl rfl rfl trivial) ?_
                        refine JR.run rfl rfl (r_storeA rfl rfl (by kernel_rfl) rfl rfl rfl rfl rfl) ?_
                        refine JR.done [[], [0], [0, 1], [], [0, 1, 2, 3], [0, 1, 2, 3, 4], [], [0, 1, 2, 3, 4, 5, 6], [], [], [8, 9], [8, 9, 10], [], [8, 9, 10, 11, 12], [0, 1, 2, 3, 4, 5, 6, 7, 8, 9, 10, 11, 12, 13], [0, 1, 2, 3, 4, 5, 6, 7, 8, 9, 10, 11, 12, 13, 14]] (by kernel_rfl) rfl (by kernel_rfl) ?_
                        refine J_weak [(8, _), (15, _), (16, _), (2016, _)] ⟨rfl, rfl, rfl, rfl, trivial⟩ ?_
                        refine J_seq ?_
                        refine JR.start ?_
                        refine JR.run rfl rfl (r_move rfl rfl rfl trivial) ?_
                        refine JR.run rfl rfl (r_bytesOf rfl rfl (by kernel_rfl) (by kernel_rfl) rfl) ?_
                        refine JR.run rfl rfl (r_call (hcs) rfl rfl rfl trivial (by kernel_rfl)) ?_
                        refine JR.run rfl rfl (r_move rfl rfl rfl trivial) ?_
                        refine JR.run rfl rfl (r_extract rfl rfl rfl rfl rfl) ?_
                        refine JR.run rfl rfl (r_extract rfl rfl rfl rfl rfl) ?_
                        refine JR.run rfl rfl (r_extract rfl rfl rfl rfl rfl) ?_
                        refine JR.run rfl rfl (r_assign rfl rfl rfl trivial) ?_
                        refine JR.run rfl rfl (r_assign rfl rfl rfl trivial) ?_
                        refine JR.run rfl rfl (r_assign rfl rfl rfl trivial) ?_
                        refine JR.done [] (by kernel_rfl) rfl (by kernel_rfl) ?_
                        refine J_weak [(8, _), (16, _), (17, _), (19, _), (2016, _)] ⟨rfl, rfl, rfl, rfl, rfl, trivial⟩ ?_
                        refine J_seq ?_
                        refine JR.start ?_
                        refine JR.run rfl rfl (r_move rfl rfl rfl trivial) ?_
                        refine JR.run rfl rfl (r_call (hc1) rfl rfl rfl trivial (by kernel_rfl)) ?_
                        refine JR.run rfl rfl (r_move rfl rfl rfl trivial) ?_
                        refine JR.run rfl rfl (r_extract rfl rfl rfl rfl rfl) ?_
                        refine JR.run rfl rfl (r_extract rfl rfl rfl rfl rfl) ?_
                        refine JR.run rfl rfl (r_extract rfl rfl rfl rfl rfl) ?_
                        refine JR.run rfl rfl (r_alloc (x := 2020) (zs := [.int .i64 0, .int .i64 0, .slice none 0 0]) [.lit (.int .i64 0), .lit (.int .i64 0), .sl 3 []] rfl rfl rfl (by kernel_rfl) ⟨.refl _, .refl _, .nil _, trivial⟩) ?_
                        refine JR.run rfl rfl (r_storeA rfl rfl (by kernel_rfl) rfl rfl rfl rfl rfl) ?_
                        refine JR.run rfl rfl (r_assign rfl rfl rfl trivial) ?_
                        refine JR.run rfl rfl (r_assign rfl rfl rfl trivial) ?_
                        refine JR.done [] (by kernel_rfl) rfl (by kernel_rfl) ?_
                        refine J_weak [(8, _), (16, _), (17, _), (19, _), (20, _), (21, _), (22, _), (2016, _), (2020, _)] ⟨rfl, rfl, rfl, rfl, rfl, rfl, rfl, rfl, rfl, trivial⟩ ?_
                        refine J_seq ?_
                        refine JR.start ?_
                        refine JR.run rfl rfl (r_move rfl rfl rfl trivial) ?_
                        refine JR.run rfl rfl (r_eqI rfl rfl rfl rfl) ?_
                        refine JR.run rfl rfl (r_move rfl rfl rfl trivial) ?_
                        refine JR.run rfl rfl (r_move rfl rfl rfl trivial) ?_
                        refine JR.run rfl rfl (r_eqI rfl rfl rfl rfl) ?_
                        refine JR.run rfl rfl (r_pickT rfl rfl rfl rfl trivial) ?_
                        refine JR.run rfl rfl (r_move rfl rfl rfl trivial) ?_
                        refine JR.run rfl rfl (r_move rfl rfl rfl trivial) ?_
                        refine JR.run rfl rfl (r_move rfl rfl rfl trivial) ?_
                        refine JR.run rfl rfl (r_len rfl rfl (by kernel_rfl) rfl) ?_
                        refine JR.run rfl rfl ((r_eqI rfl rfl rfl rfl).cast (cast_b (b' := true) (by exact decide_eq_true (by rw [hBm])))) ?_
                        refine JR.run rfl rfl (r_pickT rfl rfl rfl rfl trivial) ?_
                        refine JR.run rfl rfl (r_move rfl rfl rfl trivial) ?_
                        refine JR.run rfl rfl (r_loadA (m := 3) (us := _) rfl rfl (by kernel_rfl) rfl rfl rfl rfl) ?_
                        refine JR.run rfl rfl (r_loadA (m := 3) (us := _) rfl rfl (by kernel_rfl) rfl rfl rfl rfl) ?_
                        refine JR.run rfl rfl (r_call (hsm) rfl rfl rfl trivial (by kernel_rfl)) ?_
                        refine JR.run rfl rfl (r_pickT rfl rfl rfl rfl trivial) ?_
                        refine JR.run rfl rfl (r_move rfl rfl rfl trivial) ?_
                        refine JR.run rfl rfl (r_call (kWakes) rfl rfl rfl trivial (by kernel_rfl)) ?_
                        refine JR.run rfl rfl (r_pickT rfl rfl rfl rfl trivial) ?_
                        refine JR.run rfl rfl (r_assign rfl rfl rfl trivial) ?_
                        refine JR.done [] (by kernel_rfl) rfl (by kernel_rfl) ?_
                        refine J_weak [(8, _)] ⟨rfl, trivial⟩ ?_
                        refine J_ret ?_
                        exact ⟨.inl rfl, _, rfl, .refl _, trivial⟩
              · intro h55
                refine JR.run rfl rfl (r_not rfl rfl rfl) ?_
                refine JR.run rfl rfl (r_pickF rfl rfl rfl rfl trivial) ?_
                refine JR.done [] (by kernel_rfl) rfl (by kernel_rfl) ?_
                refine J_weak [(3, _), (4, _), (5, _), (6, _), (8, _), (57, _), (2004, _), (2005, _), (2006, _)] ⟨rfl, rfl, rfl, rfl, rfl, rfl, rfl, rfl, rfl, trivial⟩ ?_
                refine J_condT rfl ?_
                refine J_seq ?_
                refine JR.start ?_
                refine JR.run rfl rfl (r_assign rfl rfl rfl trivial) ?_
                refine JR.done [] (by kernel_rfl) rfl (by kernel_rfl) ?_
                refine J_weak [(3, _), (4, _), (5, _), (6, _), (8, _), (2004, _), (2005, _), (2006, _)] ⟨rfl, rfl, rfl, rfl, rfl, rfl, rfl, rfl, trivial⟩ ?_
                refine J_ret ?_
                exact ⟨.inl rfl, _, rfl, .refl _, trivial⟩
            · intro h50
              refine JR.run rfl rfl (r_not rfl rfl rfl) ?_
              refine JR.run rfl rfl (r_pickF rfl rfl rfl rfl trivial) ?_
              refine JR.run rfl rfl (r_move rfl rfl rfl trivial) ?_
              refine JR.skip rfl rfl ?_
              refine JR.skip rfl rfl ?_
              refine JR.skip rfl rfl ?_
              refine JR.run rfl rfl (r_pickT rfl rfl rfl rfl trivial) ?_
              refine JR.done [] (by kernel_rfl) rfl (by kernel_rfl) ?_
              refine J_weak [(3, _), (4, _), (5, _), (6, _), (8, _), (57, _), (2004, _), (2005, _), (2006, _)] ⟨rfl, rfl, rfl, rfl, rfl, rfl, rfl, rfl, rfl, trivial⟩ ?_
              refine J_condT rfl ?_
              refine J_seq ?_
              refine JR.start ?_
              refine JR.run rfl rfl (r_assign rfl rfl rfl trivial) ?_
              refine JR.done [] (by kernel_rfl) rfl (by kernel_rfl) ?_
              refine J_weak [(3, _), (4, _), (5, _), (6, _), (8, _), (2004, _), (2005, _), (2006, _)] ⟨rfl, rfl, rfl, rfl, rfl, rfl, rfl, rfl, trivial⟩ ?_
              refine J_ret ?_
              exact ⟨.inl rfl, _, rfl, .refl _, trivial⟩
          · intro h45
            refine JR.run rfl rfl (r_not rfl rfl rfl) ?_
            refine JR.run rfl rfl (r_pickF rfl rfl rfl rfl trivial) ?_
            refine JR.run rfl rfl (r_move rfl rfl rfl trivial) ?_
            refine JR.skip rfl rfl ?_
            refine JR.skip rfl rfl ?_
            refine JR.skip rfl rfl ?_
            refine JR.run rfl rfl (r_pickT rfl rfl rfl rfl trivial) ?_
            refine JR.run rfl rfl (r_move rfl rfl rfl trivial) ?_
            refine JR.skip rfl rfl ?_
            refine JR.skip rfl rfl ?_
            refine JR.skip rfl rfl ?_
            refine JR.run rfl rfl (r_pickT rfl rfl rfl rfl trivial) ?_
            refine JR.done [] (by kernel_rfl) rfl (by kernel_rfl) ?_
            refine J_weak [(3, _), (4, _), (5, _), (6, _), (8, _), (57, _), (2004, _), (2005, _), (2006, _)] ⟨rfl, rfl, rfl, rfl, rfl, rfl, rfl, rfl, rfl, trivial⟩ ?_
            refine J_condT rfl ?_
            refine J_seq ?_
            refine JR.start ?_
            refine JR.run rfl rfl (r_assign rfl rfl rfl trivial) ?_
            refine JR.done [] (by kernel_rfl) rfl (by kernel_rfl) ?_
            refine J_weak [(3, _), (4, _), (5, _), (6, _), (8, _), (2004, _), (2005, _), (2006, _)] ⟨rfl, rfl, rfl, rfl, rfl, rfl, rfl, rfl, trivial⟩ ?_
            refine J_ret ?_
            exact ⟨.inl rfl, _, rfl, .refl _, trivial⟩
        · intro h40
          refine JR.run rfl rfl (r_not rfl rfl rfl) ?_
          refine JR.run rfl rfl (r_pickF rfl rfl rfl rfl trivial) ?_
          refine JR.run rfl rfl (r_move rfl rfl rfl trivial) ?_
          refine JR.skip rfl rfl ?_
          refine JR.skip rfl rfl ?_
          refine JR.skip rfl rfl ?_
          refine JR.run rfl rfl (r_pickT rfl rfl rfl rfl trivial) ?_
          refine JR.run rfl rfl (r_move rfl rfl rfl trivial) ?_
          refine JR.skip rfl rfl ?_
          refine JR.skip rfl rfl ?_
          refine JR.skip rfl rfl ?_
          refine JR.run rfl rfl (r_pickT rfl rfl rfl rfl trivial) ?_
          refine JR.run rfl rfl (r_move rfl rfl rfl trivial) ?_
          refine JR.skip rfl rfl ?_
          refine JR.skip rfl rfl ?_
          refine JR.skip rfl rfl ?_
          refine JR.run rfl rfl (r_pickT rfl rfl rfl rfl trivial) ?_
          refine JR.done [] (by kernel_rfl) rfl (by kernel_rfl) ?_
          refine J_weak [(3, _), (4, _), (5, _), (6, _), (8, _), (57, _), (2004, _), (2005, _), (2006, _)] ⟨rfl, rfl, rfl, rfl, rfl, rfl, rfl, rfl, rfl, trivial⟩ ?_
          refine J_condT rfl ?_
          refine J_seq ?_
          refine JR.start ?_
          refine JR.run rfl rfl (r_assign rfl rfl rfl trivial) ?_
          refine JR.done [] (by kernel_rfl) rfl (by kernel_rfl) ?_
          refine J_weak [(3, _), (4, _), (5, _), (6, _), (8, _), (2004, _), (2005, _), (2006, _)] ⟨rfl, rfl, rfl, rfl, rfl, rfl, rfl, rfl, trivial⟩ ?_
          refine J_ret ?_
          exact ⟨.inl rfl, _, rfl, .refl _, trivial⟩
      · intro h35
        refine JR.run rfl rfl (r_not rfl rfl rfl) ?_
        refine JR.run rfl rfl (r_pickF rfl rfl rfl rfl trivial) ?_
        refine JR.run rfl rfl (r_move rfl rfl rfl trivial) ?_
        refine JR.skip rfl rfl ?_
        refine JR.skip rfl rfl ?_
        refine JR.skip rfl rfl ?_
        refine JR.run rfl rfl (r_pickT rfl rfl rfl rfl trivial) ?_
        refine JR.run rfl rfl (r_move rfl rfl rfl trivial) ?_
        refine JR.skip rfl rfl ?_
        refine JR.skip rfl rfl ?_
        refine JR.skip rfl rfl ?_
        refine JR.run rfl rfl (r_pickT rfl rfl rfl rfl trivial) ?_
        refine JR.run rfl rfl (r_move rfl rfl rfl trivial) ?_
        refine JR.skip rfl rfl ?_
        refine JR.skip rfl rfl ?_
        refine JR.skip rfl rfl ?_
        refine JR.run rfl rfl (r_pickT rfl rfl rfl rfl trivial) ?_
        refine JR.run rfl rfl (r_move rfl rfl rfl trivial) ?_
        refine JR.skip rfl rfl ?_
        refine JR.skip rfl rfl ?_
        refine JR.skip rfl rfl ?_
        refine JR.run rfl rfl (r_pickT rfl rfl rfl rfl trivial) ?_
        refine JR.done [] (by kernel_rfl) rfl (by kernel_rfl) ?_
        refine J_weak [(3, _), (4, _), (5, _), (6, _), (8, _), (57, _), (2004, _), (2005, _), (2006, _)] ⟨rfl, rfl, rfl, rfl, rfl, rfl, rfl, rfl, rfl, trivial⟩ ?_
        refine J_condT rfl ?_
        refine J_seq ?_
        refine JR.start ?_
        refine JR.run rfl rfl (r_assign rfl rfl rfl trivial) ?_
        refine JR.done [] (by kernel_rfl) rfl (by kernel_rfl) ?_
        refine J_weak [(3, _), (4, _), (5, _), (6, _), (8, _), (2004, _), (2005, _), (2006, _)] ⟨rfl, rfl, rfl, rfl, rfl, rfl, rfl, rfl, trivial⟩ ?_
        refine J_ret ?_
        exact ⟨.inl rfl, _, rfl, .refl _, trivial⟩
    · intro h30
      refine JR.run rfl rfl (r_not rfl rfl rfl) ?_
      refine JR.run rfl rfl (r_pickF rfl rfl rfl rfl trivial) ?_
      refine JR.run rfl rfl (r_move rfl rfl rfl trivial) ?_
      refine JR.skip rfl rfl ?_
      refine JR.skip rfl rfl ?_
      refine JR.skip rfl rfl ?_
      refine JR.run rfl rfl (r_pickT rfl rfl rfl rfl trivial) ?_
      refine JR.run rfl rfl (r_move rfl rfl rfl trivial) ?_
      refine JR.skip rfl rfl ?_
      refine JR.skip rfl rfl ?_
      refine JR.skip rfl rfl ?_
      refine JR.run rfl rfl (r_pickT rfl rfl rfl rfl trivial) ?_
      refine JR.run rfl rfl (r_move rfl rfl rfl trivial) ?_
      refine JR.skip rfl rfl ?_
      refine JR.skip rfl rfl ?_
      refine JR.skip rfl rfl ?_
      refine JR.run rfl rfl (r_pickT rfl rfl rfl rfl trivial) ?_
      refine JR.run rfl rfl (r_move rfl rfl rfl trivial) ?_
      refine JR.skip rfl rfl ?_
      refine JR.skip rfl rfl ?_
      refine JR.skip rfl rfl ?_
      refine JR.run rfl rfl (r_pickT rfl rfl rfl rfl trivial) ?_
      refine JR.run rfl rfl (r_move rfl rfl rfl trivial) ?_
      refine JR.skip rfl rfl ?_
      refine JR.skip rfl rfl ?_
      refine JR.skip rfl rfl ?_
      refine JR.run rfl rfl (r_pickT rfl rfl rfl rfl trivial) ?_
      refine JR.done [] (by kernel_rfl) rfl (by kernel_rfl) ?_
      refine J_weak [(3, _), (4, _), (5, _), (6, _), (8, _), (57, _), (2004, _), (2005, _), (2006, _)] ⟨rfl, rfl, rfl, rfl, rfl, rfl, rfl, rfl, rfl, trivial⟩ ?_
      refine J_condT rfl ?_
      refine J_seq ?_
      refine JR.start ?_
      refine JR.run rfl rfl (r_assign rfl rfl rfl trivial) ?_
      refine JR.done [] (by kernel_rfl) rfl (by kernel_rfl) ?_
      refine J_weak [(3, _), (4, _), (5, _), (6, _), (8, _), (2004, _), (2005, _), (2006, _)] ⟨rfl, rfl, rfl, rfl, rfl, rfl, rfl, rfl, trivial⟩ ?_
      refine J_ret ?_
      exact ⟨.inl rfl, _, rfl, .refl _, trivial⟩

end Go.Proofs.YtoadmjnaakbljaaDoor
