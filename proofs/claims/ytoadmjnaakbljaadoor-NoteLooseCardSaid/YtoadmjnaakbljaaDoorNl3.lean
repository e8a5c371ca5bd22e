/- The walk of the law NotePlaces. -/
import Derived.Test.YtoadmjnaakbljaaDoorNt5
import Derived.Test.YtoadmjnaakbljaaDoorPR2
namespace Go.Proofs.YtoadmjnaakbljaaDoor
open Go Go.RowKit
set_option maxRecDepth 100000
set_option linter.unusedVariables false

theorem kScanT {s : List UInt8} {B : List Tok} (h : mScan s = .ok B) (hl : s.length ≤ 140737488351232) : Con Tryd.prog 15 [.c (.sl 1 (bcells s))] [] (.tup [.c (toksD B), .c (.lit (.int .i64 0)), .c (.lit (.int .i64 0))]) [] := by
  have c := lexScan_con s hl
  rw [h] at c
  exact c
theorem readBoth (A B : List Tok) (i : Int) (r : Ty × Int × Int) (h : mRead (A ++ B) i = r) (hm : (A ++ B).length ≤ 1000000000) : Con Tryd.prog 16 [.c (.sl 5 ([] ++ A.map tokD ++ B.map tokD)), .c (.lit (.int .i64 i))] [] (.tup [.agg (tyE r.1), .c (.lit (.int .i64 r.2.1)), .c (.lit (.int .i64 r.2.2))]) [] := by
  have c := kRead (A ++ B) i hm
  rw [toksD, List.map_append, h] at c
  exact c

theorem lPlaces (t : Ty) (bs : List UInt8) (hbs : bs.length ≤ 9223372036854775807) (i : Int) (hi : I64 i) : Con Tryd.prog 8 [.agg (tyE t), .c (.sl 1 (bcells bs)), .c (.lit (.int .i64 i))] [] (.c (.lit (.bool true))) [] := by
  have hH := kHeavyE [t] (by simp)
  have hbl := bcells_len bs
  refine con_intro rfl rfl (by kernel_rfl) (by kernel_rfl) ?_
  refine J_seq ?_
  refine JR.start ?_
  refine JR.run rfl rfl (r_boxA (x := 2003) rfl rfl rfl rfl) ?_
  refine JR.run rfl rfl (r_assign rfl rfl rfl trivial) ?_
  refine JR.done [] (by kernel_rfl) rfl (by kernel_rfl) ?_
  refine J_weak [(1, _), (2, _), (3, _), (6, _), (2003, _)] ⟨rfl, rfl, rfl, rfl, rfl, trivial⟩ ?_
  refine J_seq ?_
  refine J_seq ?_
  refine JR.start ?_
  refine JR.run rfl rfl (r_loadA (m := 3) (us := _) rfl rfl (by kernel_rfl) rfl rfl rfl rfl) ?_
  refine JR.run rfl rfl (r_buildSlice (e := 24) (sz := 3) (zs := [.int .i64 0, .int .i64 0, .slice none 0 0]) ([tyE t]) rfl rfl (by kernel_rfl) (by kernel_rfl) rfl rfl rfl rfl) ?_
  refine JR.runC rfl rfl (r_call (hH) rfl rfl rfl trivial (by kernel_rfl)) rfl ?_ ?_
  · intro h27
    refine JR.run rfl rfl (r_move rfl rfl rfl trivial) ?_
    refine JR.skip rfl rfl ?_
    refine JR.skip rfl rfl ?_
    refine JR.skip rfl rfl ?_
    refine JR.run rfl rfl (r_pickT rfl rfl rfl rfl trivial) ?_
    refine JR.run rfl rfl (r_move rfl rfl rfl trivial) ?_
    refine JR.skip rfl rfl ?_
    refine JR.skip rfl rfl ?_
    refine JR.skip rfl rfl ?_
    refine JR.run rfl rfl (r_pickT rfl rfl rfl rfl trivial) ?_
    refine JR.run rfl rfl (r_move rfl rfl rfl trivial) ?_
    refine JR.skip rfl rfl ?_
    refine JR.skip rfl rfl ?_
    refine JR.skip rfl rfl ?_
    refine JR.run rfl rfl (r_pickT rfl rfl rfl rfl trivial) ?_
    refine JR.done [] (by kernel_rfl) rfl (by kernel_rfl) ?_
    refine J_weak [(1, _), (2, _), (3, _), (6, _), (42, _), (2003, _)] ⟨rfl, rfl, rfl, rfl, rfl, rfl, trivial⟩ ?_
    refine J_condT rfl ?_
    refine J_seq ?_
    refine JR.start ?_
    refine JR.run rfl rfl (r_assign rfl rfl rfl trivial) ?_
    refine JR.done [] (by kernel_rfl) rfl (by kernel_rfl) ?_
    refine J_weak [(1, _), (2, _), (3, _), (6, _), (2003, _)] ⟨rfl, rfl, rfl, rfl, rfl, trivial⟩ ?_
    refine J_ret ?_
    exact ⟨.inl rfl, _, rfl, .refl _, trivial⟩
  · intro h27
    have hl1 := mCnt_le t 0
    replace h27 : mCnt t 0 ≤ 600 := Nat.le_of_not_lt (of_decide_eq_false h27)
    have s1 := mCnt_light t 0 h27
    refine JR.run rfl rfl (r_move rfl rfl rfl trivial) ?_
    refine JR.run rfl rfl (r_loadA (m := 3) (us := _) rfl rfl (by kernel_rfl) rfl rfl rfl rfl) ?_
    refine JR.runC rfl rfl (r_call (kRight t.size t (by omega) (Nat.le_refl _)) rfl rfl rfl trivial (by kernel_rfl)) rfl ?_ ?_
    · intro h30
      refine JR.run rfl rfl (r_not rfl rfl rfl) ?_
      refine JR.run rfl rfl (r_pickF rfl rfl rfl rfl trivial) ?_
      refine JR.run rfl rfl (r_move rfl rfl rfl trivial) ?_
      refine JR.run rfl rfl (r_loadA (m := 3) (us := _) rfl rfl (by kernel_rfl) rfl rfl rfl rfl) ?_
      refine JR.runC rfl rfl (r_call (kWithout 6 t.size t (by omega) (Nat.le_refl _)) rfl rfl rfl trivial (by kernel_rfl)) rfl ?_ ?_
      · intro h35
        refine JR.run rfl rfl (r_not rfl rfl rfl) ?_
        refine JR.run rfl rfl (r_pickF rfl rfl rfl rfl trivial) ?_
        refine JR.run rfl rfl (r_move rfl rfl rfl trivial) ?_
        refine JR.run rfl rfl (r_move rfl rfl rfl trivial) ?_
        refine JR.run rfl rfl (r_len rfl rfl (by kernel_rfl) rfl) ?_
        refine JR.runB rfl rfl (r_gtI rfl rfl rfl rfl) ?_ ?_
        · intro h41
          replace h41 := of_decide_eq_true h41
          refine JR.run rfl rfl (r_pickF rfl rfl rfl rfl trivial) ?_
          refine JR.done [] (by kernel_rfl) rfl (by kernel_rfl) ?_
          refine J_weak [(1, _), (2, _), (3, _), (6, _), (42, _), (2003, _)] ⟨rfl, rfl, rfl, rfl, rfl, rfl, trivial⟩ ?_
          refine J_condT rfl ?_
          refine J_seq ?_
          refine JR.start ?_
          refine JR.run rfl rfl (r_assign rfl rfl rfl trivial) ?_
          refine JR.done [] (by kernel_rfl) rfl (by kernel_rfl) ?_
          refine J_weak [(1, _), (2, _), (3, _), (6, _), (2003, _)] ⟨rfl, rfl, rfl, rfl, rfl, trivial⟩ ?_
          refine J_ret ?_
          exact ⟨.inl rfl, _, rfl, .refl _, trivial⟩
        · intro h41
          replace h41 := of_decide_eq_false h41
          have hC := closed_right h30 h35
          obtain ⟨B, hB1, hB2⟩ := txt_scan hC (by omega)
          have hT7 := mTxt_len7 hC
          have hA := scTs_len bs
          have hBl := mScan_len hB1
          have hAm : ((scTs bs).map tokD).length = (scTs bs).length := List.length_map ..
          have hBm : (B.map tokD).length = B.length := List.length_map ..
          have hBb : B.length = (bTxt t).length := by rw [← hB2, List.length_map]
          have hAB : (scTs bs ++ B).length = (scTs bs).length + B.length := List.length_append
          have hlen2 : ([] ++ (scTs bs).map tokD ++ B.map tokD).length = (scTs bs).length + (bTxt t).length := by rw [List.nil_append, List.length_append, hAm, hBm, hBb]
          have hc1 := readBoth (scTs bs) B (((scTs bs).map tokD).length : Int) (t, (((scTs bs).length + (bTxt t).length : Nat) : Int), 0) (by rw [hAm]; exact read_at hC (scTs bs) B (by rw [hB2, List.append_nil]) nogo_nil) (by omega)
          have hc2 := readBoth (scTs bs) B (([] ++ (scTs bs).map tokD ++ B.map tokD).length : Int) (.leaf 0, ((scTs bs ++ B).length : Int), 3) (by rw [hlen2, ← hBb, ← hAB]; exact read_end _) (by omega)
          have hc3 := readBoth (scTs bs) B i _ rfl (by omega)
          refine JR.run rfl rfl (r_pickF rfl rfl rfl rfl trivial) ?_
          refine JR.done [] (by kernel_rfl) rfl (by kernel_rfl) ?_
          refine J_weak [(1, _), (2, _), (3, _), (6, _), (42, _), (2003, _)] ⟨rfl, rfl, rfl, rfl, rfl, rfl, trivial⟩ ?_
          refine J_condF rfl ?_
          refine J_skip ?_
          refine J_seq ?_
          refine JR.start ?_
          refine JR.run rfl rfl (r_move rfl rfl rfl trivial) ?_
          refine JR.run rfl rfl (r_call (kScan bs (by omega)) rfl rfl rfl trivial (by kernel_rfl)) ?_
          refine JR.run rfl rfl (r_move rfl rfl rfl trivial) ?_
          refine JR.run rfl rfl (r_extract rfl rfl rfl rfl rfl) ?_
          refine JR.run rfl rfl (r_extract rfl rfl rfl rfl rfl) ?_
          refine JR.run rfl rfl (r_extract rfl rfl rfl rfl rfl) ?_
          refine JR.run rfl rfl (r_assign rfl rfl rfl trivial) ?_
          refine JR.run rfl rfl (r_assign rfl rfl rfl trivial) ?_
          refine JR.run rfl rfl (r_assign rfl rfl rfl trivial) ?_
          refine JR.done [] (by kernel_rfl) rfl (by kernel_rfl) ?_
          refine J_weak [(2, _), (3, _), (6, _), (7, _), (9, _), (2003, _)] ⟨rfl, rfl, rfl, rfl, rfl, rfl, trivial⟩ ?_
          refine J_seq ?_
          refine JR.start ?_
          refine JR.run rfl rfl (r_loadA (m := 3) (us := _) rfl rfl (by kernel_rfl) rfl rfl rfl rfl) ?_
          refine JR.run rfl rfl (r_call (kTextR t (by omega) h30) rfl rfl rfl trivial (by kernel_rfl)) ?_
          refine JR.run rfl rfl (r_move rfl rfl rfl trivial) ?_
          refine JR.run rfl rfl (r_extract rfl rfl rfl rfl rfl) ?_
          refine JR.run rfl rfl (r_extract rfl rfl rfl rfl rfl) ?_
          refine JR.run rfl rfl (r_assign rfl rfl rfl trivial) ?_
          refine JR.run rfl rfl (r_assign rfl rfl rfl trivial) ?_
          refine JR.done [] (by kernel_rfl) rfl (by kernel_rfl) ?_
          refine J_weak [(2, _), (3, _), (6, _), (7, _), (9, _), (10, _), (2003, _)] ⟨rfl, rfl, rfl, rfl, rfl, rfl, rfl, trivial⟩ ?_
          refine J_seq ?_
          refine JR.start ?_
          refine JR.run rfl rfl (r_move rfl rfl rfl trivial) ?_
          refine JR.run rfl rfl (r_bytesOf rfl rfl (by kernel_rfl) (by kernel_rfl) rfl) ?_
          refine JR.run rfl rfl (r_call (kScanT hB1 (by omega)) rfl rfl rfl trivial (by kernel_rfl)) ?_
          refine JR.run rfl rfl (r_move rfl rfl rfl trivial) ?_
          refine JR.run rfl rfl (r_extract rfl rfl rfl rfl rfl) ?_
          refine JR.run rfl rfl (r_extract rfl rfl rfl rfl rfl) ?_
          refine JR.run rfl rfl (r_extract rfl rfl rfl rfl rfl) ?_
          refine JR.run rfl rfl (r_assign rfl rfl rfl trivial) ?_
          refine JR.run rfl rfl (r_assign rfl rfl rfl trivial) ?_
          refine JR.run rfl rfl (r_assign rfl rfl rfl trivial) ?_
          refine JR.done [] (by kernel_rfl) rfl (by kernel_rfl) ?_
          refine J_weak [(2, _), (3, _), (6, _), (7, _), (9, _), (12, _), (14, _), (2003, _)] ⟨rfl, rfl, rfl, rfl, rfl, rfl, rfl, rfl, trivial⟩ ?_
          refine J_seq ?_
          refine J_seq ?_
          refine JR.start ?_
          refine JR.run rfl rfl (r_move rfl rfl rfl trivial) ?_
          refine JR.runB rfl rfl (r_neI rfl rfl rfl rfl) ?_ ?_
          · intro h62
            replace h62 := of_decide_eq_false (nT h62)
            refine JR.run rfl rfl (r_move rfl rfl rfl trivial) ?_
            refine JR.skip rfl rfl ?_
            refine JR.skip rfl rfl ?_
            refine JR.run rfl rfl (r_pickT rfl rfl rfl rfl trivial) ?_
            refine JR.done [] (by kernel_rfl) rfl (by kernel_rfl) ?_
            refine J_weak [(2, _), (3, _), (6, _), (7, _), (12, _), (14, _), (66, _), (2003, _)] ⟨rfl, rfl, rfl, rfl, rfl, rfl, rfl, rfl, trivial⟩ ?_
            refine J_condT rfl ?_
            refine J_seq ?_
            refine JR.start ?_
            refine JR.run rfl rfl (r_move rfl rfl rfl trivial) ?_
            refine JR.run rfl rfl (r_len rfl rfl (by kernel_rfl) rfl) ?_
            refine JR.run rfl rfl (r_move rfl rfl rfl trivial) ?_
            refine JR.run rfl rfl (r_len rfl rfl (by kernel_rfl) rfl) ?_
            refine JR.run rfl rfl (r_addI rfl rfl rfl rfl (by omega)) ?_
            refine JR.run rfl rfl ((r_geI rfl rfl rfl rfl).cast (cast_b (b' := true) (by exact decide_eq_true (by omega)))) ?_
            refine JR.run rfl rfl (r_move rfl rfl rfl trivial) ?_
            refine JR.run rfl rfl (r_move rfl rfl rfl trivial) ?_
            refine JR.run rfl rfl (r_eqI rfl rfl rfl rfl) ?_
            refine JR.run rfl rfl (r_pickT rfl rfl rfl rfl trivial) ?_
            refine JR.run rfl rfl (r_move rfl rfl rfl trivial) ?_
            refine JR.run rfl rfl (r_call (kWakes) rfl rfl rfl trivial (by kernel_rfl)) ?_
            refine JR.run rfl rfl (r_pickT rfl rfl rfl rfl trivial) ?_
            refine JR.run rfl rfl (r_assign rfl rfl rfl trivial) ?_
            refine JR.done [] (by kernel_rfl) rfl (by kernel_rfl) ?_
            refine J_weak [(2, _), (3, _), (6, _), (7, _), (12, _), (2003, _)] ⟨rfl, rfl, rfl, rfl, rfl, rfl, trivial⟩ ?_
            refine J_ret ?_
            exact ⟨.inl rfl, _, rfl, .refl _, trivial⟩
          · intro h62
            replace h62 := of_decide_eq_true (nF h62)
            refine JR.run rfl rfl (r_move rfl rfl rfl trivial) ?_
            refine JR.run rfl rfl (r_move rfl rfl rfl trivial) ?_
            refine JR.run rfl rfl (r_neI rfl rfl rfl rfl) ?_
            refine JR.run rfl rfl (r_pickF rfl rfl rfl rfl trivial) ?_
            refine JR.done [] (by kernel_rfl) rfl (by kernel_rfl) ?_
            refine J_weak [(2, _), (3, _), (6, _), (7, _), (12, _), (14, _), (66, _), (2003, _)] ⟨rfl, rfl, rfl, rfl, rfl, rfl, rfl, rfl, trivial⟩ ?_
            refine J_condF rfl ?_
            refine J_skip ?_
            refine J_seq ?_
            refine JR.start ?_
            refine JR.run rfl rfl (r_buildNone (e := 54) (sz := 5) rfl rfl (by kernel_rfl)) ?_
            refine JR.run rfl rfl (r_move rfl rfl rfl trivial) ?_
            refine JR.run rfl rfl (r_append (e := 54) (sz := 5) (b := 48) rfl rfl (by kernel_rfl) rfl rfl (by simp only [List.length_nil]; omega) (by simp only [List.length_nil]; omega)) ?_
            refine JR.run rfl rfl (r_move rfl rfl rfl trivial) ?_
            refine JR.run rfl rfl (r_append (e := 54) (sz := 5) (b := 48) rfl rfl (by kernel_rfl) rfl rfl (by simp only [List.length_append, List.length_nil]; omega) (by simp only [List.length_append, List.length_nil]; omega)) ?_
            refine JR.run rfl rfl (r_assignOwn rfl rfl rfl rfl) ?_
            refine JR.done [] (by kernel_rfl) rfl (by kernel_rfl) ?_
            refine J_weak [(2, _), (3, _), (6, _), (7, _), (15, _), (2003, _)] ⟨rfl, rfl, rfl, rfl, rfl, rfl, trivial⟩ ?_
            refine J_seq ?_
            refine J_turn (t_ownC 15 rfl) (by kernel_rfl) ?_
            refine JR.start ?_
            refine JR.run rfl rfl (r_move rfl rfl rfl trivial) ?_
            refine JR.run rfl rfl (r_move rfl rfl rfl trivial) ?_
            refine JR.run rfl rfl (r_len rfl rfl (by kernel_rfl) rfl) ?_
            refine JR.run rfl rfl (r_call (hc1) rfl rfl rfl trivial (by kernel_rfl)) ?_
            refine JR.run rfl rfl (r_move rfl rfl rfl trivial) ?_
            refine JR.run rfl rfl (r_extract rfl rfl rfl rfl rfl) ?_
            refine JR.run rfl rfl (r_extract rfl rfl rfl rfl rfl) ?_
            refine JR.run rfl rfl (r_extract rfl rfl rfl rfl rfl) ?_
            refine JR.run rfl rfl (r_alloc (x := 2016) (zs := [.int .i64 0, .int .i64 0, .slice none 0 0]) [.lit (.int .i64 0), .lit (.int .i64 0), .sl 3 []] rfl rfl rfl (by kernel_rfl) ⟨.refl _, .refl _, .nil _, trivial⟩) ?_
            refine JR.run rfl rfl (r_storeA rfl rfl (by kernel_rfl) rfl rfl rfl rfl rfl) ?_
            refine JR.run rfl rfl (r_assign rfl rfl rfl trivial) ?_
            refine JR.run rfl rfl (r_assign rfl rfl rfl trivial) ?_
            refine JR.done [] (by kernel_rfl) rfl (by kernel_rfl) ?_
            refine J_weak [(2, _), (3, _), (6, _), (15, _), (16, _), (17, _), (18, _), (2003, _), (2016, _)] ⟨rfl, rfl, rfl, rfl, rfl, rfl, rfl, rfl, rfl, trivial⟩ ?_
            refine J_seq ?_
            refine JR.start ?_
            refine JR.run rfl rfl (r_move rfl rfl rfl trivial) ?_
            refine JR.run rfl rfl (r_move rfl rfl rfl trivial) ?_
            refine JR.run rfl rfl (r_len rfl rfl (by kernel_rfl) rfl) ?_
            refine JR.run rfl rfl (r_call (hc2) rfl rfl rfl trivial (by kernel_rfl)) ?_
            refine JR.run rfl rfl (r_move rfl rfl rfl trivial) ?_
            refine JR.run rfl rfl (r_extract rfl rfl rfl rfl rfl) ?_
            refine JR.run rfl rfl (r_extract rfl rfl rfl rfl rfl) ?_
            refine JR.run rfl rfl (r_extract rfl rfl rfl rfl rfl) ?_
            refine JR.run rfl rfl (r_alloc (x := 2019) (zs := [.int .i64 0, .int .i64 0, .slice none 0 0]) [.lit (.int .i64 0), .lit (.int .i64 0), .sl 3 []] rfl rfl rfl (by kernel_rfl) ⟨.refl _, .refl _, .nil _, trivial⟩) ?_
            refine JR.run rfl rfl (r_storeA rfl rfl (by kernel_rfl) rfl rfl rfl rfl rfl) ?_
            refine JR.run rfl rfl (r_assign rfl rfl rfl trivial) ?_
            refine JR.run rfl rfl (r_assign rfl rfl rfl trivial) ?_
            refine JR.done [] (by kernel_rfl) rfl (by kernel_rfl) ?_
            refine J_weak [(2, _), (3, _), (6, _), (15, _), (16, _), (17, _), (18, _), (20, _), (21, _), (2003, _), (2016, _)] ⟨rfl, rfl, rfl, rfl, rfl, rfl, rfl, rfl, rfl, rfl, rfl, trivial⟩ ?_
            refine J_seq ?_
            refine JR.start ?_
            refine JR.run rfl rfl (r_move rfl rfl rfl trivial) ?_
            refine JR.run rfl rfl (r_move rfl rfl rfl trivial) ?_
            refine JR.run rfl rfl (r_call (hc3) rfl rfl rfl trivial (by kernel_rfl)) ?_
            refine JR.run rfl rfl (r_move rfl rfl rfl trivial) ?_
            refine JR.run rfl rfl (r_extract rfl rfl rfl rfl rfl) ?_
            refine JR.run rfl rfl (r_extract rfl rfl rfl rfl rfl) ?_
            refine JR.run rfl rfl (r_extract rfl rfl rfl rfl rfl) ?_
            refine JR.run rfl rfl (r_alloc (x := 2022) (zs := [.int .i64 0, .int .i64 0, .slice none 0 0]) [.lit (.int .i64 0), .lit (.int .i64 0), .sl 3 []] rfl rfl rfl (by kernel_rfl) ⟨.refl _, .refl _, .nil _, trivial⟩) ?_
            refine JR.run rfl rfl (r_storeA rfl rfl (by kernel_rfl) rfl rfl rfl rfl rfl) ?_
            refine JR.run rfl rfl (r_assign rfl rfl rfl trivial) ?_
            refine JR.run rfl rfl (r_assign rfl rfl rfl trivial) ?_
            refine JR.done [] (by kernel_rfl) rfl (by kernel_rfl) ?_
            refine J_weak [(2, _), (3, _), (6, _), (15, _), (16, _), (17, _), (18, _), (20, _), (21, _), (23, _), (24, _), (2003, _), (2016, _)] ⟨rfl, rfl, rfl, rfl, rfl, rfl, rfl, rfl, rfl, rfl, rfl, rfl, rfl, trivial⟩ ?_
            refine J_seq ?_
            refine J_seq ?_
            refine JR.start ?_
            refine JR.run rfl rfl (r_move rfl rfl rfl trivial) ?_
            refine JR.runB rfl rfl (r_ltI rfl rfl rfl rfl) ?_ ?_
            · intro h109
              replace h109 := of_decide_eq_true h109
              have hro := read_out (scTs bs ++ B) i (.inl h109)
              refine JR.run rfl rfl (r_move rfl rfl rfl trivial) ?_
              refine JR.skip rfl rfl ?_
              refine JR.skip rfl rfl ?_
              refine JR.skip rfl rfl ?_
              refine JR.skip rfl rfl ?_
              refine JR.run rfl rfl (r_pickT rfl rfl rfl rfl trivial) ?_
              refine JR.done [] (by kernel_rfl) rfl (by kernel_rfl) ?_
              refine J_weak [(3, _), (6, _), (15, _), (16, _), (17, _), (18, _), (20, _), (21, _), (23, _), (24, _), (115, _), (2003, _), (2016, _)] ⟨rfl, rfl, rfl, rfl, rfl, rfl, rfl, rfl, rfl, rfl, rfl, rfl, rfl, trivial⟩ ?_
              refine J_condT rfl ?_
              refine J_seq ?_
              refine JR.start ?_
              refine JR.run rfl rfl (r_move rfl rfl rfl trivial) ?_
              refine JR.run rfl rfl ((r_neI rfl rfl rfl rfl).cast (cast_b (b' := false) (by rw [hro]; rfl))) ?_
              refine JR.run rfl rfl (r_move rfl rfl rfl trivial) ?_
              refine JR.run rfl rfl (r_move rfl rfl rfl trivial) ?_
              refine JR.run rfl rfl ((r_neI rfl rfl rfl rfl).cast (cast_b (b' := false) (by rw [hro]; rfl))) ?_
              refine JR.run rfl rfl (r_pickF rfl rfl rfl rfl trivial) ?_
              refine JR.done [] (by kernel_rfl) rfl (by kernel_rfl) ?_
              refine J_weak [(3, _), (6, _), (15, _), (16, _), (17, _), (18, _), (20, _), (21, _), (121, _), (2003, _), (2016, _)] ⟨rfl, rfl, rfl, rfl, rfl, rfl, rfl, rfl, rfl, rfl, rfl, trivial⟩ ?_
              refine J_condF rfl ?_
              refine J_skip ?_
              refine J_seq ?_
              refine JR.start ?_
              refine JR.run rfl rfl (r_move rfl rfl rfl trivial) ?_
              refine JR.run rfl rfl (r_eqI rfl rfl rfl rfl) ?_
              refine JR.run rfl rfl (r_move rfl rfl rfl trivial) ?_
              refine JR.run rfl rfl (r_move rfl rfl rfl trivial) ?_
              refine JR.run rfl rfl (r_move rfl rfl rfl trivial) ?_
              refine JR.run rfl rfl (r_len rfl rfl (by kernel_rfl) rfl) ?_
              refine JR.run rfl rfl ((r_eqI rfl rfl rfl rfl).cast (cast_b (b' := true) (by exact decide_eq_true (by rw [hlen2])))) ?_
              refine JR.run rfl rfl (r_pickT rfl rfl rfl rfl trivial) ?_
              refine JR.run rfl rfl (r_move rfl rfl rfl trivial) ?_
              refine JR.run rfl rfl (r_loadA (m := 3) (us := _) rfl rfl (by kernel_rfl) rfl rfl rfl rfl) ?_
              refine JR.run rfl rfl (r_loadA (m := 3) (us := _) rfl rfl (by kernel_rfl) rfl rfl rfl rfl) ?_
              refine JR.run rfl rfl (r_call (kSameS t (by omega)) rfl rfl rfl trivial (by kernel_rfl)) ?_
              refine JR.run rfl rfl (r_pickT rfl rfl rfl rfl trivial) ?_
              refine JR.run rfl rfl (r_move rfl rfl rfl trivial) ?_
              refine JR.run rfl rfl (r_move rfl rfl rfl trivial) ?_
              refine JR.run rfl rfl (r_eqI rfl rfl rfl rfl) ?_
              refine JR.run rfl rfl (r_pickT rfl rfl rfl rfl trivial) ?_
              refine JR.run rfl rfl (r_move rfl rfl rfl trivial) ?_
              refine JR.run rfl rfl (r_move rfl rfl rfl trivial) ?_
              refine JR.run rfl rfl (r_move rfl rfl rfl trivial) ?_
              refine JR.run rfl rfl (r_len rfl rfl (by kernel_rfl) rfl) ?_
              refine JR.run rfl rfl ((r_eqI rfl rfl rfl rfl).cast (cast_b (b' := true) (by exact decide_eq_true (by rw [hlen2, hAB, hBb])))) ?_
              refine JR.run rfl rfl (r_pickT rfl rfl rfl rfl trivial) ?_
              refine JR.run rfl rfl (r_move rfl rfl rfl trivial) ?_
              refine JR.run rfl rfl (r_call (kWakes) rfl rfl rfl trivial (by kernel_rfl)) ?_
              refine JR.run rfl rfl (r_pickT rfl rfl rfl rfl trivial) ?_
              refine JR.run rfl rfl (r_assign rfl rfl rfl trivial) ?_
              refine JR.done [] (by kernel_rfl) rfl (by kernel_rfl) ?_
              refine J_weak [(6, _)] ⟨rfl, trivial⟩ ?_
              refine J_ret ?_
              exact ⟨.inl rfl, _, rfl, .refl _, trivial⟩
            · intro h109
              replace h109 := of_decide_eq_false h109
              refine JR.run rfl rfl (r_move rfl rfl rfl trivial) ?_
              refine JR.run rfl rfl (r_move rfl rfl rfl trivial) ?_
              refine JR.run rfl rfl (r_move rfl rfl rfl trivial) ?_
              refine JR.run rfl rfl (r_len rfl rfl (by kernel_rfl) rfl) ?_
              refine JR.runB rfl rfl (r_gtI rfl rfl rfl rfl) ?_ ?_
              · intro h114
                replace h114 := of_decide_eq_true h114
                have hro := read_out (scTs bs ++ B) i (.inr (by omega))
                refine JR.run rfl rfl (r_pickF rfl rfl rfl rfl trivial) ?_
                refine JR.done [] (by kernel_rfl) rfl (by kernel_rfl) ?_
                refine J_weak [(3, _), (6, _), (15, _), (16, _), (17, _), (18, _), (20, _), (21, _), (23, _), (24, _), (115, _), (2003, _), (2016, _)] ⟨rfl, rfl, rfl, rfl, rfl, rfl, rfl, rfl, rfl, rfl, rfl, rfl, rfl, trivial⟩ ?_
                refine J_condT rfl ?_
                refine J_seq ?_
                refine JR.start ?_
                refine JR.run rfl rfl (r_move rfl rfl rfl trivial) ?_
                refine JR.run rfl rfl ((r_neI rfl rfl rfl rfl).cast (cast_b (b' := false) (by rw [hro]; rfl))) ?_
                refine JR.run rfl rfl (r_move rfl rfl rfl trivial) ?_
                refine JR.run rfl rfl (r_move rfl rfl rfl trivial) ?_
                refine JR.run rfl rfl ((r_neI rfl rfl rfl rfl).cast (cast_b (b' := false) (by rw [hro]; rfl))) ?_
                refine JR.run rfl rfl (r_pickF rfl rfl rfl rfl trivial) ?_
                refine JR.done [] (by kernel_rfl) rfl (by kernel_rfl) ?_
                refine J_weak [(3, _), (6, _), (15, _), (16, _), (17, _), (18, _), (20, _), (21, _), (121, _), (2003, _), (2016, _)] ⟨rfl, rfl, rfl, rfl, rfl, rfl, rfl, rfl, rfl, rfl, rfl, trivial⟩ ?_
                refine J_condF rfl ?_
                refine J_skip ?_
                refine J_seq ?_
                refine JR.start ?_
                refine JR.run rfl rfl (r_move rfl rfl rfl trivial) ?_
                refine JR.run rfl rfl (r_eqI rfl rfl rfl rfl) ?_
                refine JR.run rfl rfl (r_move rfl rfl rfl trivial) ?_
                refine JR.run rfl rfl (r_move rfl rfl rfl trivial) ?_
                refine JR.run rfl rfl (r_move rfl rfl rfl trivial) ?_
                refine JR.run rfl rfl (r_len rfl rfl (by kernel_rfl) rfl) ?_
                refine JR.run rfl rfl ((r_eqI rfl rfl rfl rfl).cast (cast_b (b' := true) (by exact decide_eq_true (by rw [hlen2])))) ?_
                refine JR.run rfl rfl (r_pickT rfl rfl rfl rfl trivial) ?_
                refine JR.run rfl rfl (r_move rfl rfl rfl trivial) ?_
                refine JR.run rfl rfl (r_loadA (m := 3) (us := _) rfl rfl (by kernel_rfl) rfl rfl rfl rfl) ?_
                refine JR.run rfl rfl (r_loadA (m := 3) (us := _) rfl rfl (by kernel_rfl) rfl rfl rfl rfl) ?_
                refine JR.run rfl rfl (r_call (kSameS t (by omega)) rfl rfl rfl trivial (by kernel_rfl)) ?_
                refine JR.run rfl rfl (r_pickT rfl rfl rfl rfl trivial) ?_
                refine JR.run rfl rfl (r_move rfl rfl rfl trivial) ?_
                refine JR.run rfl rfl (r_move rfl rfl rfl trivial) ?_
                refine JR.run rfl rfl (r_eqI rfl rfl rfl rfl) ?_
                refine JR.run rfl rfl (r_pickT rfl rfl rfl rfl trivial) ?_
                refine JR.run rfl rfl (r_move rfl rfl rfl trivial) ?_
                refine JR.run rfl rfl (r_move rfl rfl rfl trivial) ?_
                refine JR.run rfl rfl (r_move rfl rfl rfl trivial) ?_
                refine JR.run rfl rfl (r_len rfl rfl (by kernel_rfl) rfl) ?_
                refine JR.run rfl rfl ((r_eqI rfl rfl rfl rfl).cast (cast_b (b' := true) (by exact decide_eq_true (by rw [hlen2, hAB, hBb])))) ?_
                refine JR.run rfl rfl (r_pickT rfl rfl rfl rfl trivial) ?_
                refine JR.run rfl rfl (r_move rfl rfl rfl trivial) ?_
                refine JR.run rfl rfl (r_call (kWakes) rfl rfl rfl trivial (by kernel_rfl)) ?_
                refine JR.run rfl rfl (r_pickT rfl rfl rfl rfl trivial) ?_
                refine JR.run rfl rfl (r_assign rfl rfl rfl trivial) ?_
                refine JR.done [] (by kernel_rfl) rfl (by kernel_rfl) ?_
                refine J_weak [(6, _)] ⟨rfl, trivial⟩ ?_
                refine J_ret ?_
                exact ⟨.inl rfl, _, rfl, .refl _, trivial⟩
              · intro h114
                replace h114 := of_decide_eq_false h114
                refine JR.run rfl rfl (r_pickF rfl rfl rfl rfl trivial) ?_
                refine JR.done [] (by kernel_rfl) rfl (by kernel_rfl) ?_
                refine J_weak [(3, _), (6, _), (15, _), (16, _), (17, _), (18, _), (20, _), (21, _), (23, _), (24, _), (115, _), (2003, _), (2016, _)] ⟨rfl, rfl, rfl, rfl, rfl, rfl, rfl, rfl, rfl, rfl, rfl, rfl, rfl, trivial⟩ ?_
                refine J_condF rfl ?_
                refine J_skip ?_
                refine J_seq ?_
                refine JR.start ?_
                refine JR.run rfl rfl (r_move rfl rfl rfl trivial) ?_
                refine JR.run rfl rfl (r_eqI rfl rfl rfl rfl) ?_
                refine JR.run rfl rfl (r_move rfl rfl rfl trivial) ?_
                refine JR.run rfl rfl (r_move rfl rfl rfl trivial) ?_
                refine JR.run rfl rfl (r_move rfl rfl rfl trivial) ?_
                refine JR.run rfl rfl (r_len rfl rfl (by kernel_rfl) rfl) ?_
                refine JR.run rfl rfl ((r_eqI rfl rfl rfl rfl).cast (cast_b (b' := true) (by exact decide_eq_true (by rw [hlen2])))) ?_
                refine JR.run rfl rfl (r_pickT rfl rfl rfl rfl trivial) ?_
                refine JR.run rfl rfl (r_move rfl rfl rfl trivial) ?_
                refine JR.run rfl rfl (r_loadA (m := 3) (us := _) rfl rfl (by kernel_rfl) rfl rfl rfl rfl) ?_
                refine JR.run rfl rfl (r_loadA (m := 3) (us := _) rfl rfl (by kernel_rfl) rfl rfl rfl rfl) ?_
                refine JR.run rfl rfl (r_call (kSameS t (by omega)) rfl rfl rfl trivial (by kernel_rfl)) ?_
                refine JR.run rfl rfl (r_pickT rfl rfl rfl rfl trivial) ?_
                refine JR.run rfl rfl (r_move rfl rfl rfl trivial) ?_
                refine JR.run rfl rfl (r_move rfl rfl rfl trivial) ?_
                refine JR.run rfl rfl (r_eqI rfl rfl rfl rfl) ?_
                refine JR.run rfl rfl (r_pickT rfl rfl rfl rfl trivial) ?_
                refine JR.run rfl rfl (r_move rfl rfl rfl trivial) ?_
                refine JR.run rfl rfl (r_move rfl rfl rfl trivial) ?_
                refine JR.run rfl rfl (r_move rfl rfl rfl trivial) ?_
                refine JR.run rfl rfl (r_len rfl rfl (by kernel_rfl) rfl) ?_
                refine JR.run rfl rfl ((r_eqI rfl rfl rfl rfl).cast (cast_b (b' := true) (by exact decide_eq_true (by rw [hlen2, hAB, hBb])))) ?_
                refine JR.run rfl rfl (r_pickT rfl rfl rfl rfl trivial) ?_
                refine JR.run rfl rfl (r_move rfl rfl rfl trivial) ?_
                refine JR.run rfl rfl (r_call (kWakes) rfl rfl rfl trivial (by kernel_rfl)) ?_
                refine JR.run rfl rfl (r_pickT rfl rfl rfl rfl trivial) ?_
                refine JR.run rfl rfl (r_assign rfl rfl rfl trivial) ?_
                refine JR.done [] (by kernel_rfl) rfl (by kernel_rfl) ?_
                refine J_weak [(6, _)] ⟨rfl, trivial⟩ ?_
                refine J_ret ?_
                exact ⟨.inl rfl, _, rfl, .refl _, trivial⟩
      · intro h35
        refine JR.run rfl rfl (r_not rfl rfl rfl) ?_
        refine JR.run rfl rfl (r_pickF rfl rfl rfl rfl trivial) ?_
        refine JR.run rfl rfl (r_move rfl rfl rfl trivial) ?_
        refine JR.skip rfl rfl ?_
        refine JR.skip rfl rfl ?_
        refine JR.skip rfl rfl ?_
        refine JR.run rfl rfl (r_pickT rfl rfl rfl rfl trivial) ?_
        refine JR.done [] (by kernel_rfl) rfl (by kernel_rfl) ?_
        refine J_weak [(1, _), (2, _), (3, _), (6, _), (42, _), (2003, _)] ⟨rfl, rfl, rfl, rfl, rfl, rfl, trivial⟩ ?_
        refine J_condT rfl ?_
        refine J_seq ?_
        refine JR.start ?_
        refine JR.run rfl rfl (r_assign rfl rfl rfl trivial) ?_
        refine JR.done [] (by kernel_rfl) rfl (by kernel_rfl) ?_
        refine J_weak [(1, _), (2, _), (3, _), (6, _), (2003, _)] ⟨rfl, rfl, rfl, rfl, rfl, trivial⟩ ?_
        refine J_ret ?_
        exact ⟨.inl rfl, _, rfl, .refl _, trivial⟩
    · intro h30
      refine JR.run rfl rfl (r_not rfl rfl rfl) ?_
      refine JR.run rfl rfl (r_pickF rfl rfl rfl rfl trivial) ?_
      refine JR.run rfl rfl (r_move rfl rfl rfl trivial) ?_
      refine JR.skip rfl rfl ?_
      refine JR.skip rfl rfl ?_
      refine JR.skip rfl rfl ?_
      refine JR.run rfl rfl (r_pickT rfl rfl rfl rfl trivial) ?_
      refine JR.run rfl rfl (r_move rfl rfl rfl trivial) ?_
      refine JR.skip rfl rfl ?_
      refine JR.skip rfl rfl ?_
      refine JR.skip rfl rfl ?_
      refine JR.run rfl rfl (r_pickT rfl rfl rfl rfl trivial) ?_
      refine JR.done [] (by kernel_rfl) rfl (by kernel_rfl) ?_
      refine J_weak [(1, _), (2, _), (3, _), (6, _), (42, _), (2003, _)] ⟨rfl, rfl, rfl, rfl, rfl, rfl, trivial⟩ ?_
      refine J_condT rfl ?_
      refine J_seq ?_
      refine JR.start ?_
      refine JR.run rfl rfl (r_assign rfl rfl rfl trivial) ?_
      refine JR.done [] (by kernel_rfl) rfl (by kernel_rfl) ?_
      refine J_weak [(1, _), (2, _), (3, _), (6, _), (2003, _)] ⟨rfl, rfl, rfl, rfl, rfl, trivial⟩ ?_
      refine J_ret ?_
      exact ⟨.inl rfl, _, rfl, .refl _, trivial⟩

end Go.Proofs.YtoadmjnaakbljaaDoor
