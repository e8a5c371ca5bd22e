/- The walk of the law NoteBack. -/
import Derived.Test.YtoadmjnaakbljaaDoorNl3
namespace Go.Proofs.YtoadmjnaakbljaaDoor
open Go Go.RowKit
set_option maxRecDepth 100000
set_option linter.unusedVariables false

def moreS (k : Nat) : List UInt8 := if k = 0 then [] else if k = 1 then [32, 41] else if k = 2 then [32, 61] else if k = 3 then [32, 44] else if k = 4 then [32, 120] else if k = 5 then [32, 53] else [32, 105, 110]
def moreB (k : Nat) : List BTok := if k = 0 then [] else if k = 1 then [sgT [41]] else if k = 2 then [sgT [61]] else if k = 3 then [sgT [44]] else if k = 4 then [⟨1, [120], 0⟩] else if k = 5 then [⟨3, [], 5⟩] else [kwT [105, 110]]
theorem sc_of {l : List UInt8} {t : BTok} {n : Nat} (h1 : mSkip false l = l) (h2 : mTok l = some (t, n)) (h3 : l.drop n = []) : Sc l [t] := sc_tok h1 h2 (by rw [h3]; exact sc_nil)
theorem moreSc : ∀ k : Nat, k < 7 → Sc (moreS k) (moreB k) ∧ Bound (moreS k) ∧ NoGo (moreB k) := by
  intro k hk
  match k, hk with
  | 0, _ => exact ⟨sc_nil, bound_nil, nogo_nil⟩
  | 1, _ => exact ⟨sc_blank (sc_sign (.inr (.inl rfl)) sc_nil), bound_cons (by decide), fun b r h => by cases h; exact ⟨by decide, by decide, by decide⟩⟩
  | 2, _ => exact ⟨sc_blank (sc_of (n := 1) (by decide) (by decide) rfl), bound_cons (by decide), fun b r h => by cases h; exact ⟨by decide, by decide, by decide⟩⟩
  | 3, _ => exact ⟨sc_blank (sc_of (n := 1) (by decide) (by decide) rfl), bound_cons (by decide), fun b r h => by cases h; exact ⟨by decide, by decide, by decide⟩⟩
  | 4, _ => exact ⟨sc_blank (sc_of (n := 1) (by decide) (by decide) rfl), bound_cons (by decide), fun b r h => by cases h; exact ⟨by decide, by decide, by decide⟩⟩
  | 5, _ => exact ⟨sc_blank (sc_of (n := 1) (by decide) (by decide) rfl), bound_cons (by decide), fun b r h => by cases h; exact ⟨by decide, by decide, by decide⟩⟩
  | 6, _ => exact ⟨sc_blank (sc_of (n := 2) (by decide) (by decide) rfl), bound_cons (by decide), fun b r h => by cases h; exact ⟨by decide, by decide, by decide⟩⟩
  | k + 7, hk => omega
theorem moreLen : ∀ k : Nat, k < 7 → (moreS k).length ≤ 3 ∧ (moreB k).length = if k = 0 then 0 else 1 := by
  intro k hk
  match k, hk with
  | 0, _ => decide
  | 1, _ => decide
  | 2, _ => decide
  | 3, _ => decide
  | 4, _ => decide
  | 5, _ => decide
  | 6, _ => decide
  | k + 7, hk => omega
def mores : List (List D) := [[.lit (str [])], [.lit (str [32, 41])], [.lit (str [32, 61])], [.lit (str [32, 44])], [.lit (str [32, 120])], [.lit (str [32, 53])], [.lit (str [32, 105, 110])]]
theorem mores_at : ∀ k : Nat, k < 7 → mores[k]? = some [.lit (str (moreS k))] := by
  intro k hk
  match k, hk with
  | 0, _ => rfl
  | 1, _ => rfl
  | 2, _ => rfl
  | 3, _ => rfl
  | 4, _ => rfl
  | 5, _ => rfl
  | 6, _ => rfl
  | k + 7, hk => omega
theorem moreS_nil {k : Nat} (h : k < 7) : (moreS k == []) = decide (k = 0) := by
  match k, h with
  | 0, _ => decide
  | 1, _ => decide
  | 2, _ => decide
  | 3, _ => decide
  | 4, _ => decide
  | 5, _ => decide
  | 6, _ => decide
  | k + 7, hk => omega
/-- uint(n) % d, back to int -/
theorem u64_mod (n : Int) (d : Nat) (hd : 0 < d) (hd2 : d ≤ 1000) : ∃ k : Nat, k < d ∧ IntKind.i64.wrap ((IntKind.u64.wrap n).tmod d) = (k : Int) ∧ (IntKind.u64.wrap n).tmod d = (k : Int) := by
  have h0 : 0 ≤ IntKind.u64.wrap n := by rw [IntKind.wrap_u64]; omega
  obtain ⟨m, hm⟩ : ∃ m : Nat, IntKind.u64.wrap n = (m : Int) := ⟨(IntKind.u64.wrap n).toNat, by omega⟩
  rw [hm]
  have e : ((m : Int).tmod (d : Int)) = ((m % d : Nat) : Int) := by rw [Int.tmod_eq_emod_of_nonneg (by omega)]; rfl
  have hlt := Nat.mod_lt m hd
  exact ⟨m % d, hlt, by rw [e]; exact IntWalk.i64_in _ (by omega), e⟩

theorem mTxt_pos {t : Ty} (h : RightTy t) : 0 < (mTxt t).length := by
  rcases right_split h with hl | ⟨x, q, hc⟩
  · exact List.length_pos_iff.2 hl.wordy.2
  · rw [hc.txt, List.length_append, List.length_cons]; omega
theorem kTextN (t : Ty) (h : t.size ≤ 100000) (hr : mRight t = false) : Con Tryd.prog 11 [.agg (tyE t)] [] (.tup [.c (.lit (str [])), .c (.lit (.int .i64 1))]) [] := by
  have c := kText t h
  rw [hr] at c
  exact c
theorem kRightB (t : Ty) (b : Bool) (h : t.size ≤ 100000) (hr : mRight t = b) : Con Tryd.prog 12 [.agg (tyE t)] [] (.c (.lit (.bool b))) [] := by
  have c := kRight t.size t (by omega) (Nat.le_refl _)
  rw [hr] at c
  exact c

theorem lBack (t : Ty) (n : Int) (hn : I64 n) : Con Tryd.prog 4 [.agg (tyE t), .c (.lit (.int .i64 n))] [] (.c (.lit (.bool true))) [] := by
  have hH := kHeavyE [t] (by simp)
  obtain ⟨k, hk7, hk1, _⟩ := u64_mod n 7 (by decide) (by decide)
  have hk1' : IntKind.i64.wrap ((IntKind.u64.wrap n).tmod 7) = (k : Int) := hk1
  cases hr : mRight t with
  | false =>
    refine con_intro rfl rfl (by kernel_rfl) (by kernel_rfl) ?_
    refine J_seq ?_
    refine JR.start ?_
    refine JR.run rfl rfl (r_boxA (x := 2002) rfl rfl rfl rfl) ?_
    refine JR.run rfl rfl (r_assign rfl rfl rfl trivial) ?_
    refine JR.done [] (by kernel_rfl) rfl (by kernel_rfl) ?_
    refine J_weak [(1, _), (2, _), (4, _), (2002, _)] ⟨rfl, rfl, rfl, rfl, trivial⟩ ?_
    refine J_seq ?_
    refine J_seq ?_
    refine JR.start ?_
    refine JR.run rfl rfl (r_loadA (m := 3) (us := _) rfl rfl (by kernel_rfl) rfl rfl rfl rfl) ?_
    refine JR.run rfl rfl (r_buildSlice (e := 24) (sz := 3) (zs := [.int .i64 0, .int .i64 0, .slice none 0 0]) ([tyE t]) rfl rfl (by kernel_rfl) (by kernel_rfl) rfl rfl rfl rfl) ?_
    refine JR.runC rfl rfl (r_call (hH) rfl rfl rfl trivial (by kernel_rfl)) rfl ?_ ?_
    · intro h17
      refine JR.done [] (by kernel_rfl) rfl (by kernel_rfl) ?_
      refine J_weak [(1, _), (2, _), (4, _), (17, _), (2002, _)] ⟨rfl, rfl, rfl, rfl, rfl, trivial⟩ ?_
      refine J_condT rfl ?_
      refine J_seq ?_
      refine JR.start ?_
      refine JR.run rfl rfl (r_assign rfl rfl rfl trivial) ?_
      refine JR.done [] (by kernel_rfl) rfl (by kernel_rfl) ?_
      refine J_weak [(1, _), (2, _), (4, _), (2002, _)] ⟨rfl, rfl, rfl, rfl, trivial⟩ ?_
      refine J_ret ?_
      exact ⟨.inl rfl, _, rfl, .refl _, trivial⟩
    · intro h17
      have hl1 := mCnt_le t 0
      replace h17 : mCnt t 0 ≤ 600 := Nat.le_of_not_lt (of_decide_eq_false h17)
      have s1 := mCnt_light t 0 h17
      refine JR.done [] (by kernel_rfl) rfl (by kernel_rfl) ?_
      refine J_weak [(1, _), (2, _), (4, _), (17, _), (2002, _)] ⟨rfl, rfl, rfl, rfl, rfl, trivial⟩ ?_
      refine J_condF rfl ?_
      refine J_skip ?_
      refine J_seq ?_
      refine JR.start ?_
      refine JR.run rfl rfl (r_loadA (m := 3) (us := _) rfl rfl (by kernel_rfl) rfl rfl rfl rfl) ?_
      refine JR.run rfl rfl (r_call (kTextN t (by omega) hr) rfl rfl rfl trivial (by kernel_rfl)) ?_
      refine JR.run rfl rfl (r_move rfl rfl rfl trivial) ?_
      refine JR.run rfl rfl (r_extract rfl rfl rfl rfl rfl) ?_
      refine JR.run rfl rfl (r_extract rfl rfl rfl rfl rfl) ?_
      refine JR.run rfl rfl (r_assign rfl rfl rfl trivial) ?_
      refine JR.run rfl rfl (r_assign rfl rfl rfl trivial) ?_
      refine JR.done [] (by kernel_rfl) rfl (by kernel_rfl) ?_
      refine J_weak [(1, _), (2, _), (4, _), (5, _), (6, _), (2002, _)] ⟨rfl, rfl, rfl, rfl, rfl, rfl, trivial⟩ ?_
      refine J_seq ?_
      refine J_seq ?_
      refine JR.start ?_
      refine JR.run rfl rfl (r_loadA (m := 3) (us := _) rfl rfl (by kernel_rfl) rfl rfl rfl rfl) ?_
      refine JR.run rfl rfl (r_call (kRightB t false (by omega) hr) rfl rfl rfl trivial (by kernel_rfl)) ?_
      refine JR.run rfl rfl (r_not rfl rfl rfl) ?_
      refine JR.done [] (by kernel_rfl) rfl (by kernel_rfl) ?_
      refine J_weak [(1, _), (2, _), (4, _), (5, _), (6, _), (25, _), (2002, _)] ⟨rfl, rfl, rfl, rfl, rfl, rfl, rfl, trivial⟩ ?_
      refine J_condT rfl ?_
      refine J_seq ?_
      refine JR.start ?_
      refine JR.run rfl rfl (r_move rfl rfl rfl trivial) ?_
      refine JR.run rfl rfl (r_eqI rfl rfl rfl rfl) ?_
      refine JR.run rfl rfl (r_move rfl rfl rfl trivial) ?_
      refine JR.run rfl rfl (r_move rfl rfl rfl trivial) ?_
      refine JR.run rfl rfl ((r_eqS rfl rfl rfl rfl).cast (cast_b (b' := true) (by rfl))) ?_
      refine JR.run rfl rfl (r_pickT rfl rfl rfl rfl trivial) ?_
      refine JR.run rfl rfl (r_move rfl rfl rfl trivial) ?_
      refine JR.run rfl rfl (r_call (kWakes) rfl rfl rfl trivial (by kernel_rfl)) ?_
      refine JR.run rfl rfl (r_pickT rfl rfl rfl rfl trivial) ?_
      refine JR.run rfl rfl (r_assign rfl rfl rfl trivial) ?_
      refine JR.done [] (by kernel_rfl) rfl (by kernel_rfl) ?_
      refine J_weak [(1, _), (2, _), (4, _), (5, _), (6, _), (2002, _)] ⟨rfl, rfl, rfl, rfl, rfl, rfl, trivial⟩ ?_
      refine J_ret ?_
      exact ⟨.inl rfl, _, rfl, .refl _, trivial⟩
  | true =>
    refine con_intro rfl rfl (by kernel_rfl) (by kernel_rfl) ?_
    refine J_seq ?_
    refine JR.start ?_
    refine JR.run rfl rfl (r_boxA (x := 2002) rfl rfl rfl rfl) ?_
    refine JR.run rfl rfl (r_assign rfl rfl rfl trivial) ?_
    refine JR.done [] (by kernel_rfl) rfl (by kernel_rfl) ?_
    refine J_weak [(1, _), (2, _), (4, _), (2002, _)] ⟨rfl, rfl, rfl, rfl, trivial⟩ ?_
    refine J_seq ?_
    refine J_seq ?_
    refine JR.start ?_
    refine JR.run rfl rfl (r_loadA (m := 3) (us := _) rfl rfl (by kernel_rfl) rfl rfl rfl rfl) ?_
    refine JR.run rfl rfl (r_buildSlice (e := 24) (sz := 3) (zs := [.int .i64 0, .int .i64 0, .slice none 0 0]) ([tyE t]) rfl rfl (by kernel_rfl) (by kernel_rfl) rfl rfl rfl rfl) ?_
    refine JR.runC rfl rfl (r_call (hH) rfl rfl rfl trivial (by kernel_rfl)) rfl ?_ ?_
    · intro h17
      refine JR.done [] (by kernel_rfl) rfl (by kernel_rfl) ?_
      refine J_weak [(1, _), (2, _), (4, _), (17, _), (2002, _)] ⟨rfl, rfl, rfl, rfl, rfl, trivial⟩ ?_
      refine J_condT rfl ?_
      refine J_seq ?_
      refine JR.start ?_
      refine JR.run rfl rfl (r_assign rfl rfl rfl trivial) ?_
      refine JR.done [] (by kernel_rfl) rfl (by kernel_rfl) ?_
      refine J_weak [(1, _), (2, _), (4, _), (2002, _)] ⟨rfl, rfl, rfl, rfl, trivial⟩ ?_
      refine J_ret ?_
      exact ⟨.inl rfl, _, rfl, .refl _, trivial⟩
    · intro h17
      have hl1 := mCnt_le t 0
      replace h17 : mCnt t 0 ≤ 600 := Nat.le_of_not_lt (of_decide_eq_false h17)
      have s1 := mCnt_light t 0 h17
      refine JR.done [] (by kernel_rfl) rfl (by kernel_rfl) ?_
      refine J_weak [(1, _), (2, _), (4, _), (17, _), (2002, _)] ⟨rfl, rfl, rfl, rfl, rfl, trivial⟩ ?_
      refine J_condF rfl ?_
      refine J_skip ?_
      refine J_seq ?_
      refine JR.start ?_
      refine JR.run rfl rfl (r_loadA (m := 3) (us := _) rfl rfl (by kernel_rfl) rfl rfl rfl rfl) ?_
      refine JR.run rfl rfl (r_call (kTextR t (by omega) hr) rfl rfl rfl trivial (by kernel_rfl)) ?_
      refine JR.run rfl rfl (r_move rfl rfl rfl trivial) ?_
      refine JR.run rfl rfl (r_extract rfl rfl rfl rfl rfl) ?_
      refine JR.run rfl rfl (r_extract rfl rfl rfl rfl rfl) ?_
      refine JR.run rfl rfl (r_assign rfl rfl rfl trivial) ?_
      refine JR.run rfl rfl (r_assign rfl rfl rfl trivial) ?_
      refine JR.done [] (by kernel_rfl) rfl (by kernel_rfl) ?_
      refine J_weak [(1, _), (2, _), (4, _), (5, _), (6, _), (2002, _)] ⟨rfl, rfl, rfl, rfl, rfl, rfl, trivial⟩ ?_
      refine J_seq ?_
      refine J_seq ?_
      refine JR.start ?_
      refine JR.run rfl rfl (r_loadA (m := 3) (us := _) rfl rfl (by kernel_rfl) rfl rfl rfl rfl) ?_
      refine JR.run rfl rfl (r_call (kRightB t true (by omega) hr) rfl rfl rfl trivial (by kernel_rfl)) ?_
      refine JR.run rfl rfl (r_not rfl rfl rfl) ?_
      refine JR.done [] (by kernel_rfl) rfl (by kernel_rfl) ?_
      refine J_weak [(1, _), (2, _), (4, _), (5, _), (6, _), (25, _), (2002, _)] ⟨rfl, rfl, rfl, rfl, rfl, rfl, rfl, trivial⟩ ?_
      refine J_condF rfl ?_
      refine J_skip ?_
      refine J_seq ?_
      refine J_seq ?_
      refine JR.start ?_
      refine JR.run rfl rfl (r_loadA (m := 3) (us := _) rfl rfl (by kernel_rfl) rfl rfl rfl rfl) ?_
      refine JR.runC rfl rfl (r_call (kWithout 6 t.size t (by omega) (Nat.le_refl _)) rfl rfl rfl trivial (by kernel_rfl)) rfl ?_ ?_
      · intro h36
        have hC := closed_right hr h36
        have hT7 := mTxt_len7 hC
        obtain ⟨hm1, hm2, hm3⟩ := moreSc k hk7
        obtain ⟨hml1, hml2⟩ := moreLen k hk7
        have hsl : (mTxt t ++ moreS k).length = (mTxt t).length + (moreS k).length := List.length_append
        obtain ⟨B, hB1, hB2⟩ := sc_scan (sc_txt hC (moreS k) (moreB k) hm2 hm1) (by omega)
        have hBl := mScan_len hB1
        have hBm : (B.map tokD).length = B.length := List.length_map ..
        have hBb : B.length = (bTxt t).length + (moreB k).length := by rw [← List.length_append, ← hB2, List.length_map]
        have hcs := kScanT hB1 (by omega)
        have hc1 := kRead B 0 (by omega)
        have hrd := read_at hC [] B hB2 hm3
        rw [List.nil_append] at hrd
        change mRead B 0 = _ at hrd
        rw [hrd] at hc1
        have hz : (([] : List Tok).length + (bTxt t).length : Nat) = (bTxt t).length := by simp
        refine JR.run rfl rfl (r_not rfl rfl rfl) ?_
        refine JR.done [] (by kernel_rfl) rfl (by kernel_rfl) ?_
        refine J_weak [(1, _), (2, _), (4, _), (5, _), (6, _), (37, _), (2002, _)] ⟨rfl, rfl, rfl, rfl, rfl, rfl, rfl, trivial⟩ ?_
        refine J_condF rfl ?_
        refine J_skip ?_
        refine J_seq ?_
        refine JR.start ?_
        refine JR.run rfl rfl (r_buildSlice (e := 9) (sz := 1) (zs := [str []]) (mores) rfl rfl (by kernel_rfl) (by kernel_rfl) rfl rfl rfl rfl) ?_
        refine JR.run rfl rfl (r_move rfl rfl rfl trivial) ?_
        refine JR.run rfl rfl (r_convI (k' := .u64) rfl rfl rfl (by kernel_rfl) rfl) ?_
        refine JR.run rfl rfl (r_remI rfl rfl rfl rfl (by decide)) ?_
        refine JR.run rfl rfl ((r_convI (k' := .i64) rfl rfl rfl (by kernel_rfl) rfl).cast (cast_i (j := (k : Int)) hk1')) ?_
        refine JR.run rfl rfl (r_indexAddr (e := 9) (sz := 1) rfl rfl (by kernel_rfl) rfl rfl (by omega) (mores_at k hk7)) ?_
        refine JR.run rfl rfl (r_loadEl rfl rfl (by kernel_rfl) rfl rfl) ?_
        refine JR.run rfl rfl (r_assign rfl rfl rfl trivial) ?_
        refine JR.done [] (by kernel_rfl) rfl (by kernel_rfl) ?_
        refine J_weak [(2, _), (4, _), (5, _), (6, _), (7, _), (2002, _)] ⟨rfl, rfl, rfl, rfl, rfl, rfl, trivial⟩ ?_
        refine J_seq ?_
        refine JR.start ?_
        refine JR.run rfl rfl (r_move rfl rfl rfl trivial) ?_
        refine JR.run rfl rfl (r_move rfl rfl rfl trivial) ?_
        refine JR.run rfl rfl (r_catS rfl rfl rfl rfl (by omega)) ?_
        refine JR.run rfl rfl (r_bytesOf rfl rfl (by kernel_rfl) (by kernel_rfl) rfl) ?_
        refine JR.run rfl rfl (r_call (hcs) rfl rfl rfl trivial (by kernel_rfl)) ?_
        refine JR.run rfl rfl (r_move rfl rfl rfl trivial) ?_
        refine JR.run rfl rfl (r_extract rfl rfl rfl rfl rfl) ?_
        refine JR.run rfl rfl (r_extract rfl rfl rfl rfl rfl) ?_
        refine JR.run rfl rfl (r_extract rfl rfl rfl rfl rfl) ?_
        refine JR.run rfl rfl (r_assign rfl rfl rfl trivial) ?_
        refine JR.run rfl rfl (r_assign rfl rfl rfl trivial) ?_
        refine JR.run rfl rfl (r_assign rfl rfl rfl trivial) ?_
        refine JR.done [] (by kernel_rfl) rfl (by kernel_rfl) ?_
        refine J_weak [(2, _), (4, _), (5, _), (6, _), (7, _), (8, _), (10, _), (2002, _)] ⟨rfl, rfl, rfl, rfl, rfl, rfl, rfl, rfl, trivial⟩ ?_
        refine J_seq ?_
        refine JR.start ?_
        refine JR.run rfl rfl (r_move rfl rfl rfl trivial) ?_
        refine JR.run rfl rfl (r_len rfl rfl (by kernel_rfl) rfl) ?_
        refine JR.run rfl rfl (r_assign rfl rfl rfl trivial) ?_
        refine JR.done [] (by kernel_rfl) rfl (by kernel_rfl) ?_
        refine J_weak [(2, _), (4, _), (5, _), (6, _), (7, _), (8, _), (10, _), (11, _), (2002, _)] ⟨rfl, rfl, rfl, rfl, rfl, rfl, rfl, rfl, rfl, trivial⟩ ?_
        refine J_seq ?_
        refine J_seq ?_
        refine JR.start ?_
        refine JR.run rfl rfl (r_move rfl rfl rfl trivial) ?_
        refine JR.runB rfl rfl (r_neS rfl rfl rfl rfl) ?_ ?_
        · intro h67
          replace h67 := nT h67
          rw [moreS_nil hk7] at h67
          rw [if_neg (of_decide_eq_false h67)] at hml2
          refine JR.done [] (by kernel_rfl) rfl (by kernel_rfl) ?_
          refine J_weak [(2, _), (4, _), (5, _), (6, _), (7, _), (8, _), (10, _), (11, _), (67, _), (2002, _)] ⟨rfl, rfl, rfl, rfl, rfl, rfl, rfl, rfl, rfl, rfl, trivial⟩ ?_
          refine J_condT rfl ?_
          refine JR.start ?_
          refine JR.run rfl rfl (r_move rfl rfl rfl trivial) ?_
          refine JR.run rfl rfl (r_subI rfl rfl rfl rfl (by omega)) ?_
          refine JR.run rfl rfl (r_assign rfl rfl rfl trivial) ?_
          refine JR.done [] (by kernel_rfl) rfl (by kernel_rfl) ?_
          refine J_weak [(2, _), (4, _), (5, _), (6, _), (7, _), (8, _), (10, _), (11, _), (2002, _)] ⟨rfl, rfl, rfl, rfl, rfl, rfl, rfl, rfl, rfl, trivial⟩ ?_
          refine J_seq ?_
          refine J_seq ?_
          refine JR.start ?_
          refine JR.run rfl rfl (r_move rfl rfl rfl trivial) ?_
          refine JR.run rfl rfl (r_eqI rfl rfl rfl rfl) ?_
          refine JR.run rfl rfl (r_move rfl rfl rfl trivial) ?_
          refine JR.skip rfl rfl ?_
          refine JR.skip rfl rfl ?_
          refine JR.skip rfl rfl ?_
          refine JR.skip rfl rfl ?_
          refine JR.skip rfl rfl ?_
          refine JR.run rfl rfl (r_pickF rfl rfl rfl rfl trivial) ?_
          refine JR.done [] (by kernel_rfl) rfl (by kernel_rfl) ?_
          refine J_weak [(2, _), (4, _), (6, _), (8, _), (10, _), (11, _), (78, _), (2002, _)] ⟨rfl, rfl, rfl, rfl, rfl, rfl, rfl, rfl, trivial⟩ ?_
          refine J_condF rfl ?_
          refine J_skip ?_
          refine J_seq ?_
          refine JR.start ?_
          refine JR.run rfl rfl (r_move rfl rfl rfl trivial) ?_
          refine JR.run rfl rfl (r_call (hc1) rfl rfl rfl trivial (by kernel_rfl)) ?_
          refine JR.run rfl rfl (r_move rfl rfl rfl trivial) ?_
          refine JR.run rfl rfl (r_extract rfl rfl rfl rfl rfl) ?_
          refine JR.run rfl rfl (r_extract rfl rfl rfl rfl rfl) ?_
          refine JR.run rfl rfl (r_extract rfl rfl rfl rfl rfl) ?_
          refine JR.run rfl rfl (r_alloc (x := 2012) (zs := [.int .i64 0, .int .i64 0, .slice none 0 0]) [.lit (.int .i64 0), .lit (.int .i64 0), .sl 3 []] rfl rfl rfl (by kernel_rfl) ⟨.refl _, .refl _, .nil _, trivial⟩) ?_
          refine JR.run rfl rfl (r_storeA rfl rfl (by kernel_rfl) rfl rfl rfl rfl rfl) ?_
          refine JR.run rfl rfl (r_assign rfl rfl rfl trivial) ?_
          refine JR.run rfl rfl (r_assign rfl rfl rfl trivial) ?_
          refine JR.done [] (by kernel_rfl) rfl (by kernel_rfl) ?_
          refine J_weak [(2, _), (4, _), (6, _), (10, _), (11, _), (12, _), (13, _), (14, _), (2002, _), (2012, _)] ⟨rfl, rfl, rfl, rfl, rfl, rfl, rfl, rfl, rfl, rfl, trivial⟩ ?_
          refine J_seq ?_
          refine JR.start ?_
          refine JR.run rfl rfl (r_move rfl rfl rfl trivial) ?_
          refine JR.run rfl rfl (r_eqI rfl rfl rfl rfl) ?_
          refine JR.run rfl rfl (r_move rfl rfl rfl trivial) ?_
          refine JR.run rfl rfl (r_move rfl rfl rfl trivial) ?_
          refine JR.run rfl rfl (r_eqI rfl rfl rfl rfl) ?_
          refine JR.run rfl rfl (r_pickT rfl rfl rfl rfl trivial) ?_
          refine JR.run rfl rfl (r_move rfl rfl rfl trivial) ?_
          refine JR.run rfl rfl (r_move rfl rfl rfl trivial) ?_
          refine JR.run rfl rfl (r_eqI rfl rfl rfl rfl) ?_
          refine JR.run rfl rfl (r_pickT rfl rfl rfl rfl trivial) ?_
          refine JR.run rfl rfl (r_move rfl rfl rfl trivial) ?_
          refine JR.run rfl rfl (r_move rfl rfl rfl trivial) ?_
          refine JR.run rfl rfl (r_move rfl rfl rfl trivial) ?_
          refine JR.run rfl rfl ((r_eqI rfl rfl rfl rfl).cast (cast_b (b' := true) (by exact decide_eq_true (by rw [hz]; show ((bTxt t).length : Int) = _; omega)))) ?_
          refine JR.run rfl rfl (r_pickT rfl rfl rfl rfl trivial) ?_
          refine JR.run rfl rfl (r_move rfl rfl rfl trivial) ?_
          refine JR.run rfl rfl (r_loadA (m := 3) (us := _) rfl rfl (by kernel_rfl) rfl rfl rfl rfl) ?_
          refine JR.run rfl rfl (r_loadA (m := 3) (us := _) rfl rfl (by kernel_rfl) rfl rfl rfl rfl) ?_
          refine JR.run rfl rfl (r_call (kSameS t (by omega)) rfl rfl rfl trivial (by kernel_rfl)) ?_
          refine JR.run rfl rfl (r_pickT rfl rfl rfl rfl trivial) ?_
          refine JR.run rfl rfl (r_move rfl rfl rfl trivial) ?_
          refine JR.run rfl rfl (r_call (kWakes) rfl rfl rfl trivial (by kernel_rfl)) ?_
          refine JR.run rfl rfl (r_pickT rfl rfl rfl rfl trivial) ?_
          refine JR.run rfl rfl (r_assign rfl rfl rfl trivial) ?_
          refine JR.done [] (by kernel_rfl) rfl (by kernel_rfl) ?_
          refine J_weak [(4, _)] ⟨rfl, trivial⟩ ?_
          refine J_ret ?_
          exact ⟨.inl rfl, _, rfl, .refl _, trivial⟩
        · intro h67
          replace h67 := nF h67
          rw [moreS_nil hk7] at h67
          rw [if_pos (of_decide_eq_true h67)] at hml2
          refine JR.done [] (by kernel_rfl) rfl (by kernel_rfl) ?_
          refine J_weak [(2, _), (4, _), (5, _), (6, _), (7, _), (8, _), (10, _), (11, _), (67, _), (2002, _)] ⟨rfl, rfl, rfl, rfl, rfl, rfl, rfl, rfl, rfl, rfl, trivial⟩ ?_
          refine J_condF rfl ?_
          refine J_skip ?_
          refine J_seq ?_
          refine J_seq ?_
          refine JR.start ?_
          refine JR.run rfl rfl (r_move rfl rfl rfl trivial) ?_
          refine JR.run rfl rfl (r_eqI rfl rfl rfl rfl) ?_
          refine JR.run rfl rfl (r_move rfl rfl rfl trivial) ?_
          refine JR.skip rfl rfl ?_
          refine JR.skip rfl rfl ?_
          refine JR.skip rfl rfl ?_
          refine JR.skip rfl rfl ?_
          refine JR.skip rfl rfl ?_
          refine JR.run rfl rfl (r_pickF rfl rfl rfl rfl trivial) ?_
          refine JR.done [] (by kernel_rfl) rfl (by kernel_rfl) ?_
          refine J_weak [(2, _), (4, _), (6, _), (8, _), (10, _), (11, _), (78, _), (2002, _)] ⟨rfl, rfl, rfl, rfl, rfl, rfl, rfl, rfl, trivial⟩ ?_
          refine J_condF rfl ?_
          refine J_skip ?_
          refine J_seq ?_
          refine JR.start ?_
          refine JR.run rfl rfl (r_move rfl rfl rfl trivial) ?_
          refine JR.run rfl rfl (r_call (hc1) rfl rfl rfl trivial (by kernel_rfl)) ?_
          refine JR.run rfl rfl (r_move rfl rfl rfl trivial) ?_
          refine JR.run rfl rfl (r_extract rfl rfl rfl rfl rfl) ?_
          refine JR.run rfl rfl (r_extract rfl rfl rfl rfl rfl) ?_
          refine JR.run rfl rfl (r_extract rfl rfl rfl rfl rfl) ?_
          refine JR.run rfl rfl (r_alloc (x := 2012) (zs := [.int .i64 0, .int .i64 0, .slice none 0 0]) [.lit (.int .i64 0), .lit (.int .i64 0), .sl 3 []] rfl rfl rfl (by kernel_rfl) ⟨.refl _, .refl _, .nil _, trivial⟩) ?_
          refine JR.run rfl rfl (r_storeA rfl rfl (by kernel_rfl) rfl rfl rfl rfl rfl) ?_
          refine JR.run rfl rfl (r_assign rfl rfl rfl trivial) ?_
          refine JR.run rfl rfl (r_assign rfl rfl rfl trivial) ?_
          refine JR.done [] (by kernel_rfl) rfl (by kernel_rfl) ?_
          refine J_weak [(2, _), (4, _), (6, _), (10, _), (11, _), (12, _), (13, _), (14, _), (2002, _), (2012, _)] ⟨rfl, rfl, rfl, rfl, rfl, rfl, rfl, rfl, rfl, rfl, trivial⟩ ?_
          refine J_seq ?_
          refine JR.start ?_
          refine JR.run rfl rfl (r_move rfl rfl rfl trivial) ?_
          refine JR.run rfl rfl (r_eqI rfl rfl rfl rfl) ?_
          refine JR.run rfl rfl (r_move rfl rfl rfl trivial) ?_
          refine JR.run rfl rfl (r_move rfl rfl rfl trivial) ?_
          refine JR.run rfl rfl (r_eqI rfl rfl rfl rfl) ?_
          refine JR.run rfl rfl (r_pickT rfl rfl rfl rfl trivial) ?_
          refine JR.run rfl rfl (r_move rfl rfl rfl trivial) ?_
          refine JR.run rfl rfl (r_move rfl rfl rfl trivial) ?_
          refine JR.run rfl rfl (r_eqI rfl rfl rfl rfl) ?_
          refine JR.run rfl rfl (r_pickT rfl rfl rfl rfl trivial) ?_
          refine JR.run rfl rfl (r_move rfl rfl rfl trivial) ?_
          refine JR.run rfl rfl (r_move rfl rfl rfl trivial) ?_
          refine JR.run rfl rfl (r_move rfl rfl rfl trivial) ?_
          refine JR.run rfl rfl ((r_eqI rfl rfl rfl rfl).cast (cast_b (b' := true) (by exact decide_eq_true (by rw [hz]; show ((bTxt t).length : Int) = _; omega)))) ?_
          refine JR.run rfl rfl (r_pickT rfl rfl rfl rfl trivial) ?_
          refine JR.run rfl rfl (r_move rfl rfl rfl trivial) ?_
          refine JR.run rfl rfl (r_loadA (m := 3) (us := _) rfl rfl (by kernel_rfl) rfl rfl rfl rfl) ?_
          refine JR.run rfl rfl (r_loadA (m := 3) (us := _) rfl rfl (by kernel_rfl) rfl rfl rfl rfl) ?_
          refine JR.run rfl rfl (r_call (kSameS t (by omega)) rfl rfl rfl trivial (by kernel_rfl)) ?_
          refine JR.run rfl rfl (r_pickT rfl rfl rfl rfl trivial) ?_
          refine JR.run rfl rfl (r_move rfl rfl rfl trivial) ?_
          refine JR.run rfl rfl (r_call (kWakes) rfl rfl rfl trivial (by kernel_rfl)) ?_
          refine JR.run rfl rfl (r_pickT rfl rfl rfl rfl trivial) ?_
          refine JR.run rfl rfl (r_assign rfl rfl rfl trivial) ?_
          refine JR.done [] (by kernel_rfl) rfl (by kernel_rfl) ?_
          refine J_weak [(4, _)] ⟨rfl, trivial⟩ ?_
          refine J_ret ?_
          exact ⟨.inl rfl, _, rfl, .refl _, trivial⟩
      · intro h36
        have hps := mTxt_pos (right_ty t.size t (Nat.le_refl _) hr)
        refine JR.run rfl rfl (r_not rfl rfl rfl) ?_
        refine JR.done [] (by kernel_rfl) rfl (by kernel_rfl) ?_
        refine J_weak [(1, _), (2, _), (4, _), (5, _), (6, _), (37, _), (2002, _)] ⟨rfl, rfl, rfl, rfl, rfl, rfl, rfl, trivial⟩ ?_
        refine J_condT rfl ?_
        refine J_seq ?_
        refine JR.start ?_
        refine JR.run rfl rfl (r_move rfl rfl rfl trivial) ?_
        refine JR.run rfl rfl (r_eqI rfl rfl rfl rfl) ?_
        refine JR.run rfl rfl (r_move rfl rfl rfl trivial) ?_
        refine JR.run rfl rfl (r_move rfl rfl rfl trivial) ?_
        refine JR.run rfl rfl (r_lenS rfl rfl (by kernel_rfl) rfl) ?_
        refine JR.run rfl rfl ((r_gtI rfl rfl rfl rfl).cast (cast_b (b' := true) (by exact decide_eq_true (by omega)))) ?_
        refine JR.run rfl rfl (r_pickT rfl rfl rfl rfl trivial) ?_
        refine JR.run rfl rfl (r_move rfl rfl rfl trivial) ?_
        refine JR.run rfl rfl (r_call (kWakes) rfl rfl rfl trivial (by kernel_rfl)) ?_
        refine JR.run rfl rfl (r_pickT rfl rfl rfl rfl trivial) ?_
        refine JR.run rfl rfl (r_assign rfl rfl rfl trivial) ?_
        refine JR.done [] (by kernel_rfl) rfl (by kernel_rfl) ?_
        refine J_weak [(1, _), (2, _), (4, _), (5, _), (6, _), (2002, _)] ⟨rfl, rfl, rfl, rfl, rfl, rfl, trivial⟩ ?_
        refine J_ret ?_
        exact ⟨.inl rfl, _, rfl, .refl _, trivial⟩


end Go.Proofs.YtoadmjnaakbljaaDoor
