/- The walk of the law TellTypes. -/
import Derived.Test.YtccdnmjijakofaaDoorRk
import Derived.Test.YtccdnmjijakofaaDoorTw
import Derived.Test.YtccdnmjijakofaaDoorNt5
import Derived.Test.YtccdnmjijakofaaDoorPR2
namespace Go.Proofs.YtccdnmjijakofaaDoor
open Go Go.RowKit
set_option maxRecDepth 100000
set_option maxHeartbeats 1000000
set_option linter.unusedVariables false
set_option linter.unusedSimpArgs false

theorem kRSame : ∀ (m : Nat) (t b : Ty), m ≤ 1000000000 → t.size ≤ m → Con Tryd.prog 15 [.agg (tyE t), .agg (tyE b)] [] (.c (.lit (.bool (mSame t b)))) []
  | 0, t, b, _, h => absurd t.size_pos (by omega)
  | m + 1, t, b, hm, h => by
    have hk := t.kids_lt
    have hl := tysD_len (t.kids)
    have hlb := tysD_len (b.kids)
    refine con_intro rfl rfl (by kernel_rfl) (by kernel_rfl) ?_
    refine js ?_
    refine u rfl rfl (r_boxA (x := 2002) rfl rfl rfl rfl) ?_
    refine u rfl rfl (r_boxA (x := 2003) rfl rfl rfl rfl) ?_
    refine u rfl rfl asg ?_
    refine jd ?_
    refine w5 2 3 4 2002 2003 ?_
    refine J_seq ?_
    refine js ?_
    refine u rfl rfl (fA 0 1) ?_
    refine u rfl rfl ld ?_
    refine u rfl rfl (fA 0 1) ?_
    refine u rfl rfl ld ?_
    refine JR.runB rfl rfl (r_neI rfl rfl rfl rfl) ?_ ?_
    · intro h10
      replace h10 := of_decide_eq_false (nT h10)
      refine u rfl rfl mv ?_
      refine sk ?_
      refine sk ?_
      refine sk ?_
      refine sk ?_
      refine sk ?_
      refine u rfl rfl pT ?_
      refine u rfl rfl mv ?_
      refine sk ?_
      refine sk ?_
      refine sk ?_
      refine sk ?_
      refine sk ?_
      refine sk ?_
      refine sk ?_
      refine u rfl rfl pT ?_
      refine jd ?_
      refine w6 2 3 4 26 2002 2003 ?_
      refine J_condT rfl ?_
      refine js ?_
      refine u rfl rfl asg ?_
      refine jd ?_
      refine w5 2 3 4 2002 2003 ?_
      refine J_ret ?_
      refine ⟨.inl rfl, _, rfl, .ofB (Bool.eq_false_iff.2 fun e => ?_), trivial⟩
      rw [mSame_eq, Bool.and_eq_true, Bool.and_eq_true] at e
      have e1 := of_decide_eq_true e.1.1
      have e2 := of_decide_eq_true e.1.2
      have := mSames_len _ _ e.2
      omega
    · intro h10
      replace h10 := of_decide_eq_true (nF h10)
      refine u rfl rfl mv ?_
      refine u rfl rfl (fA 1 1) ?_
      refine u rfl rfl ld ?_
      refine u rfl rfl (fA 1 1) ?_
      refine u rfl rfl ld ?_
      refine JR.runB rfl rfl (r_neI rfl rfl rfl rfl) ?_ ?_
      · intro h16
        replace h16 := of_decide_eq_false (nT h16)
        refine u rfl rfl pF ?_
        refine u rfl rfl mv ?_
        refine sk ?_
        refine sk ?_
        refine sk ?_
        refine sk ?_
        refine sk ?_
        refine sk ?_
        refine sk ?_
        refine u rfl rfl pT ?_
        refine jd ?_
        refine w6 2 3 4 26 2002 2003 ?_
        refine J_condT rfl ?_
        refine js ?_
        refine u rfl rfl asg ?_
        refine jd ?_
        refine w5 2 3 4 2002 2003 ?_
        refine J_ret ?_
        refine ⟨.inl rfl, _, rfl, .ofB (Bool.eq_false_iff.2 fun e => ?_), trivial⟩
        rw [mSame_eq, Bool.and_eq_true, Bool.and_eq_true] at e
        have e1 := of_decide_eq_true e.1.1
        have e2 := of_decide_eq_true e.1.2
        have := mSames_len _ _ e.2
        omega
      · intro h16
        replace h16 := of_decide_eq_true (nF h16)
        refine u rfl rfl pF ?_
        refine u rfl rfl mv ?_
        refine u rfl rfl (fA 2 1) ?_
        refine u rfl rfl ld ?_
        refine u rfl rfl ln0 ?_
        refine u rfl rfl (fA 2 1) ?_
        refine u rfl rfl ld ?_
        refine u rfl rfl ln0 ?_
        refine JR.runB rfl rfl (r_neI rfl rfl rfl rfl) ?_ ?_
        · intro h25
          replace h25 := of_decide_eq_false (nT h25)
          refine u rfl rfl pF ?_
          refine jd ?_
          refine w6 2 3 4 26 2002 2003 ?_
          refine J_condT rfl ?_
          refine js ?_
          refine u rfl rfl asg ?_
          refine jd ?_
          refine w5 2 3 4 2002 2003 ?_
          refine J_ret ?_
          refine ⟨.inl rfl, _, rfl, .ofB (Bool.eq_false_iff.2 fun e => ?_), trivial⟩
          rw [mSame_eq, Bool.and_eq_true, Bool.and_eq_true] at e
          have e1 := of_decide_eq_true e.1.1
          have e2 := of_decide_eq_true e.1.2
          have := mSames_len _ _ e.2
          omega
        · intro h25
          replace h25 := of_decide_eq_true (nF h25)
          refine u rfl rfl pF ?_
          refine jd ?_
          refine w6 2 3 4 26 2002 2003 ?_
          refine J_condF rfl ?_
          refine J_skip ?_
          refine J_seq ?_
          refine js ?_
          refine u rfl rfl asg ?_
          refine jd ?_
          refine w6 2 3 4 5 2002 2003 ?_
          refine J_block ?_
          refine J_loopF (α := { i : Nat // i ≤ t.kids.length ∧ mSames t.kids b.kids = mSames (t.kids.drop i) (b.kids.drop i) }) (fun p => [(5, .c (.lit (.int .i64 (p.1 : Int))))]) [(2, _), (3, _), (4, _), (2002, _), (2003, _)] (fun p => t.kids.length - p.1) ⟨0, Nat.zero_le _, rfl⟩ ⟨rfl, rfl, rfl, rfl, rfl, rfl, trivial⟩ ?_
          rintro ⟨i, hi, hI⟩
          dsimp only
          refine J_seq ?_
          refine js ?_
          refine u rfl rfl mv ?_
          refine u rfl rfl (fA 2 1) ?_
          refine u rfl rfl ld ?_
          refine u rfl rfl ln0 ?_
          refine JR.runB rfl rfl (r_ltI rfl rfl rfl rfl) ?_ ?_
          · intro h31
            replace h31 := of_decide_eq_true h31
            obtain ⟨x, hx⟩ := get_some (l := t.kids) (i := i) (by omega)
            have hxs := Ty.kid_lt' hx
            obtain ⟨y, hy⟩ := get_some (l := b.kids) (i := i) (by omega)
            refine jd ?_
            refine w11 2 3 4 5 27 28 29 30 31 2002 2003 ?_
            refine J_condT rfl ?_
            refine J_skip ?_
            refine J_seq ?_
            refine J_block ?_
            refine js ?_
            refine u rfl rfl (fA 2 1) ?_
            refine u rfl rfl ld ?_
            refine u rfl rfl mv ?_
            refine u rfl rfl (r_indexAddr (e := 41) (sz := 3) rfl rfl (by kernel_rfl) rfl rfl (by omega) (tysD_at hx)) ?_
            refine u rfl rfl (eA 3) ?_
            refine u rfl rfl (fA 2 1) ?_
            refine u rfl rfl ld ?_
            refine u rfl rfl mv ?_
            refine u rfl rfl (r_indexAddr (e := 41) (sz := 3) rfl rfl (by kernel_rfl) rfl rfl (by omega) (tysD_at hy)) ?_
            refine u rfl rfl (eA 3) ?_
            refine JR.runC rfl rfl (cl (kRSame m x y (by omega) (by omega))) rfl ?_ ?_
            · intro h44
              refine u rfl rfl nt ?_
              refine jD [0, 1, 0, 7, 15, 0, 32, 0, 224, 480, 1023, 2047] ?_
              refine J_weak [(2, _), (3, _), (4, _), (5, _), (27, _), (28, _), (29, _), (30, _), (31, _), (34, _), (35, _), (36, _), (37, _), (38, _), (39, _), (40, _), (41, _), (42, _), (43, _), (44, _), (45, _), (2002, _), (2003, _)] ⟨rfl, rfl, rfl, rfl, rfl, rfl, rfl, rfl, rfl, rfl, rfl, rfl, rfl, rfl, rfl, rfl, rfl, rfl, rfl, rfl, rfl, rfl, rfl, trivial⟩ ?_
              refine J_condF rfl ?_
              refine J_skip ?_
              refine JR.start ?_
              refine u rfl rfl mv ?_
              refine u rfl rfl (r_addI rfl rfl rfl rfl (by omega)) ?_
              refine u rfl rfl asg ?_
              refine jd ?_
              refine ⟨⟨i + 1, by omega, by rw [hI, drop_get hx, drop_get hy, mSames, h44, Bool.true_and]⟩, by simp only; omega, rfl, rfl, rfl, rfl, rfl, rfl, trivial⟩
            · intro h44
              refine u rfl rfl nt ?_
              refine jD [0, 1, 0, 7, 15, 0, 32, 0, 224, 480, 1023, 2047] ?_
              refine J_weak [(2, _), (3, _), (4, _), (5, _), (27, _), (28, _), (29, _), (30, _), (31, _), (34, _), (35, _), (36, _), (37, _), (38, _), (39, _), (40, _), (41, _), (42, _), (43, _), (44, _), (45, _), (2002, _), (2003, _)] ⟨rfl, rfl, rfl, rfl, rfl, rfl, rfl, rfl, rfl, rfl, rfl, rfl, rfl, rfl, rfl, rfl, rfl, rfl, rfl, rfl, rfl, rfl, rfl, trivial⟩ ?_
              refine J_condT rfl ?_
              refine js ?_
              refine u rfl rfl asg ?_
              refine jd ?_
              refine J_weak [(2, _), (3, _), (4, _), (5, _), (27, _), (28, _), (29, _), (30, _), (31, _), (34, _), (35, _), (36, _), (37, _), (38, _), (39, _), (40, _), (41, _), (42, _), (43, _), (44, _), (45, _), (2002, _), (2003, _)] ⟨rfl, rfl, rfl, rfl, rfl, rfl, rfl, rfl, rfl, rfl, rfl, rfl, rfl, rfl, rfl, rfl, rfl, rfl, rfl, rfl, rfl, rfl, rfl, trivial⟩ ?_
              refine J_ret ?_
              refine ⟨.inl rfl, _, rfl, .ofB ?_, trivial⟩
              have e1 : mSames t.kids b.kids = false := by rw [hI, drop_get hx, drop_get hy, mSames, h44, Bool.false_and]
              rw [mSame_eq, e1, Bool.and_false]
          · intro h31
            replace h31 := of_decide_eq_false h31
            refine jd ?_
            refine w11 2 3 4 5 27 28 29 30 31 2002 2003 ?_
            refine J_condF rfl ?_
            refine J_exit ?_
            refine js ?_
            refine u rfl rfl asg ?_
            refine jd ?_
            refine w1 4 ?_
            refine J_ret ?_
            refine ⟨.inl rfl, _, rfl, .ofB ?_, trivial⟩
            rw [List.drop_eq_nil_of_le (by omega), List.drop_eq_nil_of_le (by omega), mSames] at hI
            rw [mSame_eq, hI]
            simp_all

theorem mTxt_pos {t : Ty} (h : RightTy t) : 0 < (mTxt t).length := by
  rcases right_split h with hl | ⟨x, q, hc⟩
  · exact List.length_pos_iff.2 hl.wordy.2
  · rw [hc.txt, List.length_append, List.length_cons]; omega
theorem kScanT {s : List UInt8} {B : List Tok} (h : mScan s = .ok B) (hl : s.length ≤ 140737488351232) : Con Tryd.prog 18 [.c (.sl 1 (bcells s))] [] (.tup [.c (toksD B), .c (.lit (.int .i64 0)), .c (.lit (.int .i64 0))]) [] := by
  have c := lexScan_con s hl
  rw [h] at c
  exact c
theorem lTellTypes (t w : Ty) : Con Tryd.prog 5 [.agg (tyE t), .agg (tyE w)] [] (.c (.lit (.bool true))) [] := by
  have hS := kSmall [t, w] (by simp)
  refine con_intro rfl rfl (by kernel_rfl) (by kernel_rfl) ?_
  refine js ?_
  refine u rfl rfl (r_boxA (x := 2002) rfl rfl rfl rfl) ?_
  refine u rfl rfl (r_boxA (x := 2003) rfl rfl rfl rfl) ?_
  refine u rfl rfl asg ?_
  refine jd ?_
  refine w5 2 3 4 2002 2003 ?_
  refine J_seq ?_
  refine js ?_
  refine u rfl rfl (lA 3) ?_
  refine u rfl rfl (lA 3) ?_
  refine u rfl rfl (r_buildSlice (e := 41) (sz := 3) (zs := zt) (tysD [t, w]) rfl rfl (by kernel_rfl) (by kernel_rfl) rfl rfl (by simp only [tysD, tyD_eq]; rfl) (by simp only [tysD, tyD_eq]; rfl)) ?_
  refine JR.runC rfl rfl (cl (hS)) rfl ?_ ?_
  · intro h15
    have hsm : tySmall t = true ∧ tySmall w = true := by simpa using h15
    have hs1 := small_size hsm.1
    have hs2 := small_size hsm.2
    have cs1 := canon_size t
    have cs2 := canon_size w
    refine u rfl rfl nt ?_
    refine u rfl rfl mv ?_
    refine u rfl rfl (lA 3) ?_
    refine JR.runC rfl rfl (cl (kRight t.size t (by omega) (Nat.le_refl _))) rfl ?_ ?_
    · intro h19
      refine u rfl rfl nt ?_
      refine u rfl rfl pF ?_
      refine u rfl rfl mv ?_
      refine u rfl rfl (lA 3) ?_
      refine JR.runC rfl rfl (cl (kRight w.size w (by omega) (Nat.le_refl _))) rfl ?_ ?_
      · intro h24
        have ct := kTtype t (by omega)
        have cw := kTtype w (by omega)
        rw [tyT_right h19 (by omega)] at ct
        rw [tyT_right h24 (by omega)] at cw
        refine u rfl rfl nt ?_
        refine u rfl rfl pF ?_
        refine jd ?_
        refine w6 2 3 4 26 2002 2003 ?_
        refine J_condF rfl ?_
        refine J_skip ?_
        refine js ?_
        refine u rfl rfl (lA 3) ?_
        refine u rfl rfl (cl (ct)) ?_
        refine u rfl rfl asg ?_
        refine jd ?_
        refine w6 2 3 4 5 2002 2003 ?_
        refine J_seq ?_
        refine js ?_
        refine u rfl rfl mv ?_
        refine u rfl rfl (lA 3) ?_
        refine u rfl rfl (cl (cw)) ?_
        refine JR.runB rfl rfl (r_eqS rfl rfl rfl rfl) ?_ ?_
        · intro h32
          refine u rfl rfl (lA 3) ?_
          refine u rfl rfl (cl (kRCanon t h19 (by omega))) ?_
          refine u rfl rfl (lA 3) ?_
          refine u rfl rfl (cl (kRCanon w h24 (by omega))) ?_
          refine JR.runC rfl rfl (cl (kRSame (canon t).size (canon t) (canon w) (by omega) (Nat.le_refl _))) rfl ?_ ?_
          · intro h37
            refine u rfl rfl (r_neB rfl rfl (by kernel_rfl) rfl rfl) ?_
            refine u rfl rfl mv ?_
            refine u rfl rfl mv ?_
            refine u rfl rfl (r_lenS rfl rfl (by kernel_rfl) rfl) ?_
            refine JR.runB rfl rfl (r_eqI rfl rfl rfl rfl) ?_ ?_
            · intro h42
              replace h42 := of_decide_eq_true h42
              refine u rfl rfl pF ?_
              refine jD [0, 0, 2, 7, 0, 22, 0, 118, 246, 511, 1023, 2047, 4095, 8191, 16383] ?_
              refine w5 2 4 5 43 2002 ?_
              refine J_condT rfl ?_
              refine js ?_
              refine u rfl rfl asg ?_
              refine jd ?_
              refine w4 2 4 5 2002 ?_
              refine J_ret ?_
              exfalso
              have := mTxt_pos (right_ty _ _ (Nat.le_refl _) (canon_right h19 (by omega)))
              omega
            · intro h42
              replace h42 := of_decide_eq_false h42
              refine u rfl rfl pF ?_
              refine jD [0, 0, 2, 7, 0, 22, 0, 118, 246, 511, 1023, 2047, 4095, 8191, 16383] ?_
              refine w5 2 4 5 43 2002 ?_
              refine J_condF rfl ?_
              refine J_skip ?_
              refine J_seq ?_
              refine js ?_
              refine u rfl rfl (lA 3) ?_
              refine JR.runC rfl rfl (cl (kWithout 6 t.size t (by omega) (Nat.le_refl _))) rfl ?_ ?_
              · intro h45
                have hC := closed_right h19 h45
                have hct := canon_closed h19 h45
                have hT7 := mTxt_len7 hC
                obtain ⟨B, hB1, hB2⟩ := txt_scan hC (by omega)
                have hBl := mScan_len hB1
                have hBm : (B.map tokD).length = B.length := List.length_map ..
                have hBb : B.length = (bTxt t).length := by rw [← hB2, List.length_map]
                have hcs := kScanT hB1 (by omega)
                have hc1 := kRead B 0 (by omega)
                have hrd := read_at hC [] B (rb := []) (by rw [hB2, List.append_nil]) nogo_nil
                rw [List.nil_append] at hrd
                change mRead B 0 = _ at hrd
                rw [hrd] at hc1
                have hz : (([] : List Tok).length + (bTxt t).length : Nat) = (bTxt t).length := by simp
                rw [show mTxt t = mTxt (canon t) by rw [hct]] at hcs
                refine u rfl rfl nt ?_
                refine jd ?_
                refine w5 2 4 5 46 2002 ?_
                refine J_condF rfl ?_
                refine J_skip ?_
                refine js ?_
                refine u rfl rfl mv ?_
                refine u rfl rfl (r_bytesOf rfl rfl (by kernel_rfl) (by kernel_rfl) rfl) ?_
                refine u rfl rfl (cl (hcs)) ?_
                refine u rfl rfl mv ?_
                refine u rfl rfl xt ?_
                refine u rfl rfl xt ?_
                refine u rfl rfl xt ?_
                refine u rfl rfl asg ?_
                refine u rfl rfl asg ?_
                refine u rfl rfl asg ?_
                refine jd ?_
                refine w5 2 4 6 8 2002 ?_
                refine js ?_
                refine u rfl rfl mv ?_
                refine u rfl rfl (cl (hc1)) ?_
                refine u rfl rfl mv ?_
                refine u rfl rfl xt ?_
                refine u rfl rfl xt ?_
                refine u rfl rfl xt ?_
                refine u rfl rfl (r_alloc (x := 2009) (zs := zt) dt rfl rfl rfl (by kernel_rfl) kt) ?_
                refine u rfl rfl sA ?_
                refine u rfl rfl asg ?_
                refine u rfl rfl asg ?_
                refine jd ?_
                refine w9 2 4 6 8 9 10 11 2002 2009 ?_
                refine js ?_
                refine u rfl rfl mv ?_
                refine u rfl rfl (r_eqI rfl rfl rfl rfl) ?_
                refine u rfl rfl mv ?_
                refine u rfl rfl mv ?_
                refine u rfl rfl (r_eqI rfl rfl rfl rfl) ?_
                refine u rfl rfl pT ?_
                refine u rfl rfl mv ?_
                refine u rfl rfl mv ?_
                refine u rfl rfl mv ?_
                refine u rfl rfl ln0 ?_
                refine u rfl rfl ((r_eqI rfl rfl rfl rfl).cast (cast_b (b' := true) (by exact decide_eq_true (by rw [hz]; show ((bTxt t).length : Int) = _; omega)))) ?_
                refine u rfl rfl pT ?_
                refine u rfl rfl mv ?_
                refine u rfl rfl (lA 3) ?_
                refine u rfl rfl (lA 3) ?_
                refine u rfl rfl (cl (kSameS t (by omega))) ?_
                refine u rfl rfl pT ?_
                refine u rfl rfl mv ?_
                refine u rfl rfl (cl (kWakes27)) ?_
                refine u rfl rfl pT ?_
                refine u rfl rfl asg ?_
                refine jd ?_
                refine w1 4 ?_
                refine J_ret ?_
                exact ⟨.inl rfl, _, rfl, .refl _, trivial⟩
              · intro h45
                refine u rfl rfl nt ?_
                refine jd ?_
                refine w5 2 4 5 46 2002 ?_
                refine J_condT rfl ?_
                refine js ?_
                refine u rfl rfl (cl (kWakes27)) ?_
                refine u rfl rfl asg ?_
                refine jd ?_
                refine w4 2 4 5 2002 ?_
                refine J_ret ?_
                exact ⟨.inl rfl, _, rfl, .refl _, trivial⟩
          · intro h37
            refine u rfl rfl (r_neB rfl rfl (by kernel_rfl) rfl rfl) ?_
            refine u rfl rfl mv ?_
            refine sk ?_
            refine sk ?_
            refine sk ?_
            refine u rfl rfl pT ?_
            refine jD [0, 0, 2, 7, 0, 22, 0, 118, 246, 511, 1023, 2047, 4095, 8191, 16383] ?_
            refine w5 2 4 5 43 2002 ?_
            refine J_condT rfl ?_
            refine js ?_
            refine u rfl rfl asg ?_
            refine jd ?_
            refine w4 2 4 5 2002 ?_
            refine J_ret ?_
            exfalso
            have := note_unlike (canon_right h19 (by omega)) (canon_right h24 (by omega))
            rw [h37] at this
            rw [this] at h32
            cases h32
        · intro h32
          refine u rfl rfl (lA 3) ?_
          refine u rfl rfl (cl (kRCanon t h19 (by omega))) ?_
          refine u rfl rfl (lA 3) ?_
          refine u rfl rfl (cl (kRCanon w h24 (by omega))) ?_
          refine JR.runC rfl rfl (cl (kRSame (canon t).size (canon t) (canon w) (by omega) (Nat.le_refl _))) rfl ?_ ?_
          · intro h37
            refine u rfl rfl (r_neB rfl rfl (by kernel_rfl) rfl rfl) ?_
            refine u rfl rfl mv ?_
            refine sk ?_
            refine sk ?_
            refine sk ?_
            refine u rfl rfl pT ?_
            refine jD [0, 0, 2, 7, 0, 22, 0, 118, 246, 511, 1023, 2047, 4095, 8191, 16383] ?_
            refine w5 2 4 5 43 2002 ?_
            refine J_condT rfl ?_
            refine js ?_
            refine u rfl rfl asg ?_
            refine jd ?_
            refine w4 2 4 5 2002 ?_
            refine J_ret ?_
            exfalso
            have := note_unlike (canon_right h19 (by omega)) (canon_right h24 (by omega))
            rw [h37] at this
            rw [this] at h32
            cases h32
          · intro h37
            refine u rfl rfl (r_neB rfl rfl (by kernel_rfl) rfl rfl) ?_
            refine u rfl rfl mv ?_
            refine u rfl rfl mv ?_
            refine u rfl rfl (r_lenS rfl rfl (by kernel_rfl) rfl) ?_
            refine JR.runB rfl rfl (r_eqI rfl rfl rfl rfl) ?_ ?_
            · intro h42
              replace h42 := of_decide_eq_true h42
              refine u rfl rfl pF ?_
              refine jD [0, 0, 2, 7, 0, 22, 0, 118, 246, 511, 1023, 2047, 4095, 8191, 16383] ?_
              refine w5 2 4 5 43 2002 ?_
              refine J_condT rfl ?_
              refine js ?_
              refine u rfl rfl asg ?_
              refine jd ?_
              refine w4 2 4 5 2002 ?_
              refine J_ret ?_
              exfalso
              have := mTxt_pos (right_ty _ _ (Nat.le_refl _) (canon_right h19 (by omega)))
              omega
            · intro h42
              replace h42 := of_decide_eq_false h42
              refine u rfl rfl pF ?_
              refine jD [0, 0, 2, 7, 0, 22, 0, 118, 246, 511, 1023, 2047, 4095, 8191, 16383] ?_
              refine w5 2 4 5 43 2002 ?_
              refine J_condF rfl ?_
              refine J_skip ?_
              refine J_seq ?_
              refine js ?_
              refine u rfl rfl (lA 3) ?_
              refine JR.runC rfl rfl (cl (kWithout 6 t.size t (by omega) (Nat.le_refl _))) rfl ?_ ?_
              · intro h45
                have hC := closed_right h19 h45
                have hct := canon_closed h19 h45
                have hT7 := mTxt_len7 hC
                obtain ⟨B, hB1, hB2⟩ := txt_scan hC (by omega)
                have hBl := mScan_len hB1
                have hBm : (B.map tokD).length = B.length := List.length_map ..
                have hBb : B.length = (bTxt t).length := by rw [← hB2, List.length_map]
                have hcs := kScanT hB1 (by omega)
                have hc1 := kRead B 0 (by omega)
                have hrd := read_at hC [] B (rb := []) (by rw [hB2, List.append_nil]) nogo_nil
                rw [List.nil_append] at hrd
                change mRead B 0 = _ at hrd
                rw [hrd] at hc1
                have hz : (([] : List Tok).length + (bTxt t).length : Nat) = (bTxt t).length := by simp
                rw [show mTxt t = mTxt (canon t) by rw [hct]] at hcs
                refine u rfl rfl nt ?_
                refine jd ?_
                refine w5 2 4 5 46 2002 ?_
                refine J_condF rfl ?_
                refine J_skip ?_
                refine js ?_
                refine u rfl rfl mv ?_
                refine u rfl rfl (r_bytesOf rfl rfl (by kernel_rfl) (by kernel_rfl) rfl) ?_
                refine u rfl rfl (cl (hcs)) ?_
                refine u rfl rfl mv ?_
                refine u rfl rfl xt ?_
                refine u rfl rfl xt ?_
                refine u rfl rfl xt ?_
                refine u rfl rfl asg ?_
                refine u rfl rfl asg ?_
                refine u rfl rfl asg ?_
                refine jd ?_
                refine w5 2 4 6 8 2002 ?_
                refine js ?_
                refine u rfl rfl mv ?_
                refine u rfl rfl (cl (hc1)) ?_
                refine u rfl rfl mv ?_
                refine u rfl rfl xt ?_
                refine u rfl rfl xt ?_
                refine u rfl rfl xt ?_
                refine u rfl rfl (r_alloc (x := 2009) (zs := zt) dt rfl rfl rfl (by kernel_rfl) kt) ?_
                refine u rfl rfl sA ?_
                refine u rfl rfl asg ?_
                refine u rfl rfl asg ?_
                refine jd ?_
                refine w9 2 4 6 8 9 10 11 2002 2009 ?_
                refine js ?_
                refine u rfl rfl mv ?_
                refine u rfl rfl (r_eqI rfl rfl rfl rfl) ?_
                refine u rfl rfl mv ?_
                refine u rfl rfl mv ?_
                refine u rfl rfl (r_eqI rfl rfl rfl rfl) ?_
                refine u rfl rfl pT ?_
                refine u rfl rfl mv ?_
                refine u rfl rfl mv ?_
                refine u rfl rfl mv ?_
                refine u rfl rfl ln0 ?_
                refine u rfl rfl ((r_eqI rfl rfl rfl rfl).cast (cast_b (b' := true) (by exact decide_eq_true (by rw [hz]; show ((bTxt t).length : Int) = _; omega)))) ?_
                refine u rfl rfl pT ?_
                refine u rfl rfl mv ?_
                refine u rfl rfl (lA 3) ?_
                refine u rfl rfl (lA 3) ?_
                refine u rfl rfl (cl (kSameS t (by omega))) ?_
                refine u rfl rfl pT ?_
                refine u rfl rfl mv ?_
                refine u rfl rfl (cl (kWakes27)) ?_
                refine u rfl rfl pT ?_
                refine u rfl rfl asg ?_
                refine jd ?_
                refine w1 4 ?_
                refine J_ret ?_
                exact ⟨.inl rfl, _, rfl, .refl _, trivial⟩
              · intro h45
                refine u rfl rfl nt ?_
                refine jd ?_
                refine w5 2 4 5 46 2002 ?_
                refine J_condT rfl ?_
                refine js ?_
                refine u rfl rfl (cl (kWakes27)) ?_
                refine u rfl rfl asg ?_
                refine jd ?_
                refine w4 2 4 5 2002 ?_
                refine J_ret ?_
                exact ⟨.inl rfl, _, rfl, .refl _, trivial⟩
      · intro h24
        refine u rfl rfl nt ?_
        refine u rfl rfl pF ?_
        refine jd ?_
        refine w6 2 3 4 26 2002 2003 ?_
        refine J_condT rfl ?_
        refine js ?_
        refine u rfl rfl asg ?_
        refine jd ?_
        refine w5 2 3 4 2002 2003 ?_
        refine J_ret ?_
        exact ⟨.inl rfl, _, rfl, .refl _, trivial⟩
    · intro h19
      refine u rfl rfl nt ?_
      refine u rfl rfl pF ?_
      refine u rfl rfl mv ?_
      refine sk ?_
      refine sk ?_
      refine sk ?_
      refine u rfl rfl pT ?_
      refine jd ?_
      refine w6 2 3 4 26 2002 2003 ?_
      refine J_condT rfl ?_
      refine js ?_
      refine u rfl rfl asg ?_
      refine jd ?_
      refine w5 2 3 4 2002 2003 ?_
      refine J_ret ?_
      exact ⟨.inl rfl, _, rfl, .refl _, trivial⟩
  · intro h15
    refine u rfl rfl nt ?_
    refine u rfl rfl mv ?_
    refine sk ?_
    refine sk ?_
    refine sk ?_
    refine u rfl rfl pT ?_
    refine u rfl rfl mv ?_
    refine sk ?_
    refine sk ?_
    refine sk ?_
    refine u rfl rfl pT ?_
    refine jd ?_
    refine w6 2 3 4 26 2002 2003 ?_
    refine J_condT rfl ?_
    refine js ?_
    refine u rfl rfl asg ?_
    refine jd ?_
    refine w5 2 3 4 2002 2003 ?_
    refine J_ret ?_
    exact ⟨.inl rfl, _, rfl, .refl _, trivial⟩

end Go.Proofs.YtccdnmjijakofaaDoor
