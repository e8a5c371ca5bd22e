/- The walk of the law TellOutcome. -/
import Derived.Test.YtccdnmjijakofaaGreatDoorNn
namespace Go.Proofs.YtccdnmjijakofaaGreatDoor
open Go Go.RowKit
set_option maxRecDepth 100000
set_option maxHeartbeats 1000000
set_option linter.unusedVariables false
set_option linter.unusedSimpArgs false

theorem lTellOutcome (ok at0 ba bb y bl br : Int) (nm : List UInt8) (t : Ty) (l : List Lb) (k : Int) (rv : Va) (n : Int) (g : Bool) (a b st : Int) (hat : I64 at0) (hba : I64 ba) (hbb : I64 bb) (hnm : nm.length ≤ 9223372036854775807) (hl : ∀ x, x ∈ l → x.I) (hrI : rv.I) (hrL : rv.L) (hn : I64 n) (ha : I64 a) (hb : I64 b) :
    Con Tryz.prog 4 [.agg [.lit (.int .i64 ok), .lit (.int .i64 at0), .lit (.int .i64 ba), .lit (.int .i64 bb), .lit (.int .i64 y), .lit (.int .i64 bl), .lit (.int .i64 br), .lit (str nm), .lit (.int .i64 t.kind), .lit (.int .i64 t.num), .sl 3 (tysD t.kids), .sl 8 (lbR l), .lit (.int .i64 k), .lit (.int .i64 rv.kind), .lit (.int .i64 rv.num), .lit (str rv.str), .lit (.int .i64 rv.coe.kind), .lit (.int .i64 rv.coe.head), .lit (.int .i64 rv.coe.lab), .lit (.bool rv.coe.neg), .sl 5 (cosD rv.coe.kids), .sl 9 (vasD rv.kids), .lit (.int .i64 n), .lit (.bool g), .lit (.int .i64 a), .lit (.int .i64 b), .lit (.int .i64 st)]] [] (.c (.lit (.bool true))) [] := by
  have hS := kSmall [t] (by simp)
  have hH := kVaHeavy [rv] (by simp) (fun x hx => by simp only [List.mem_cons, List.not_mem_nil, or_false] at hx; subst hx; assumption)
  refine con_intro rfl rfl (by kernel_rfl) (by kernel_rfl) ?_
  refine js ?_
  refine u rfl rfl (r_boxA (x := 2001) rfl rfl rfl rfl) ?_
  refine u rfl rfl asg ?_
  refine jd ?_
  refine w3 1 2 2001 ?_
  refine J_seq ?_
  refine js ?_
  refine u rfl rfl (fA 8 3) ?_
  refine u rfl rfl (lA 3) ?_
  refine u rfl rfl (r_buildSlice (e := 24) (sz := 3) (zs := zt) (tysD [t]) rfl rfl (by kernel_rfl) (by kernel_rfl) rfl rfl (by simp only [tysD, tyD_eq]; rfl) (by simp only [tysD, tyD_eq]; rfl)) ?_
  refine JR.runC rfl rfl (cl (hS)) rfl ?_ ?_
  · intro h11
    have hsm : tySmall t = true := by simpa using h11
    have hs1 := small_size hsm
    refine u rfl rfl nt ?_
    refine u rfl rfl mv ?_
    refine u rfl rfl (fA 12 15) ?_
    refine u rfl rfl (fA 1 9) ?_
    refine u rfl rfl (lA 9) ?_
    refine u rfl rfl (r_buildSlice (e := 30) (sz := 9) (zs := [.int .i64 0, .int .i64 0, str [], .int .i64 0, .int .i64 0, .int .i64 0, .bool false, .slice none 0 0, .slice none 0 0]) (vasD [rv]) rfl rfl (by kernel_rfl) (by kernel_rfl) rfl rfl (by simp only [vasD, vaD_eq]; rfl) (by simp only [vasD, vaD_eq]; rfl)) ?_
    refine JR.runC rfl rfl (cl (hH)) rfl ?_ ?_
    · intro h18
      refine u rfl rfl pF ?_
      refine u rfl rfl mv ?_
      refine sk ?_
      refine sk ?_
      refine sk ?_
      refine u rfl rfl pT ?_
      refine u rfl rfl mv ?_
      refine sk ?_
      refine sk ?_
      refine sk ?_
      refine sk ?_
      refine sk ?_
      refine u rfl rfl pT ?_
      refine jd ?_
      refine w4 1 2 31 2001 ?_
      refine J_condT rfl ?_
      refine js ?_
      refine u rfl rfl asg ?_
      refine jd ?_
      refine w3 1 2 2001 ?_
      refine J_ret ?_
      exact ⟨.inl rfl, _, rfl, .refl _, trivial⟩
    · intro h18
      obtain ⟨hsz, hlg⟩ := not_heavy h18
      have hr1 := hlg rv (by simp)
      simp only [Va.sizes] at hsz
      refine u rfl rfl pF ?_
      refine u rfl rfl mv ?_
      refine u rfl rfl (fA 11 1) ?_
      refine u rfl rfl ld ?_
      refine JR.runC rfl rfl (cl (kLbHeavy l)) rfl ?_ ?_
      · intro h23
        refine u rfl rfl pF ?_
        refine u rfl rfl mv ?_
        refine sk ?_
        refine sk ?_
        refine sk ?_
        refine sk ?_
        refine sk ?_
        refine u rfl rfl pT ?_
        refine jd ?_
        refine w4 1 2 31 2001 ?_
        refine J_condT rfl ?_
        refine js ?_
        refine u rfl rfl asg ?_
        refine jd ?_
        refine w3 1 2 2001 ?_
        refine J_ret ?_
        exact ⟨.inl rfl, _, rfl, .refl _, trivial⟩
      · intro h23
        have hlo := lb_ok hl h23
        refine u rfl rfl pF ?_
        refine u rfl rfl mv ?_
        refine u rfl rfl (fA 2 6) ?_
        refine u rfl rfl (fA 5 1) ?_
        refine u rfl rfl ld ?_
        refine u rfl rfl (r_lenS rfl rfl (by kernel_rfl) rfl) ?_
        refine JR.runB rfl rfl (r_gtI rfl rfl rfl rfl) ?_ ?_
        · intro h30
          replace h30 := of_decide_eq_true h30
          refine u rfl rfl pF ?_
          refine jd ?_
          refine w4 1 2 31 2001 ?_
          refine J_condT rfl ?_
          refine js ?_
          refine u rfl rfl asg ?_
          refine jd ?_
          refine w3 1 2 2001 ?_
          refine J_ret ?_
          exact ⟨.inl rfl, _, rfl, .refl _, trivial⟩
        · intro h30
          replace h30 := of_decide_eq_false h30
          have co := kToutcome ok at0 ba bb y bl br nm t k rv n g a b st l hrI hr1 (by omega) hn ha hb hlo hat hba hbb (by omega) (by omega)
          have cx := kXoutcome ok at0 ba bb y bl br nm t k rv n g a b st l hrI hr1 (by omega) hn ha hb hlo hat hba hbb (by omega) (by omega)
          have q1 := mNum_20 at0
          have q2 := bdT_len ba bb y bl br nm
          have q3 := tyT_len t
          have q4 := rsT_len (k := k) (n := n) (a := a) (b := b) (g := g) hrI (show rv.size ≤ 1000 by omega) hlo
          have hsl := ocT_len (k := ok) (a := at0) (show (bdT ba bb y bl br nm).length ≤ 2000 by omega) q4 hs1
          have hlines : nlc nm = 0 → (nlc (ocT ok at0 (bdT ba bb y bl br nm) t (rsT k rv n g a b l)) : Int) = wN ok := fun h => ocT_lines (bdT_nn (nlc_zero.2 h)) (rsT_nn hrI)
          have hpos := ocT_pos (k := ok) (a := at0) (bd := bdT ba bb y bl br nm) (rs := rsT k rv n g a b l) (t := t)
          generalize ocT ok at0 (bdT ba bb y bl br nm) t (rsT k rv n g a b l) = s at co cx hsl hlines hpos
          refine u rfl rfl pF ?_
          refine jd ?_
          refine w4 1 2 31 2001 ?_
          refine J_condF rfl ?_
          refine J_skip ?_
          refine js ?_
          refine u rfl rfl (lA 27) ?_
          refine u rfl rfl (cl (co)) ?_
          refine u rfl rfl asg ?_
          refine jd ?_
          refine w4 1 2 3 2001 ?_
          refine js ?_
          refine u rfl rfl asg ?_
          refine jd ?_
          refine w5 1 2 3 4 2001 ?_
          refine J_seq ?_
          refine js ?_
          refine u rfl rfl asg ?_
          refine jd ?_
          refine w6 1 2 3 4 5 2001 ?_
          refine J_block ?_
          refine J_loopF (α := { p : Nat × Nat // p.1 ≤ s.length ∧ p.2 ≤ p.1 ∧ nlc s = p.2 + nlc (s.drop p.1) }) (fun p => [(5, .c (.lit (.int .i64 (p.1.1 : Int)))), (4, .c (.lit (.int .i64 (p.1.2 : Int))))]) [(1, _), (2, _), (3, _), (2001, _)] (fun p => s.length - p.1.1) ⟨(0, 0), Nat.zero_le _, Nat.le_refl _, by simp⟩ ⟨rfl, rfl, rfl, rfl, rfl, rfl, trivial⟩ ?_
          rintro ⟨⟨i, q⟩, hi, hq, hI⟩
          dsimp only at hi hq hI ⊢
          refine J_seq ?_
          refine js ?_
          refine u rfl rfl mv ?_
          refine u rfl rfl mv ?_
          refine u rfl rfl (r_lenS rfl rfl (by kernel_rfl) rfl) ?_
          refine JR.runB rfl rfl (r_ltI rfl rfl rfl rfl) ?_ ?_
          · intro h37
            replace h37 := of_decide_eq_true h37
            obtain ⟨c, hc⟩ := get_some (l := s) (i := i) (by omega)
            refine jd ?_
            refine w10 1 2 3 4 5 34 35 36 37 2001 ?_
            refine J_condT rfl ?_
            refine J_skip ?_
            refine J_seq ?_
            refine J_block ?_
            refine js ?_
            refine u rfl rfl mv ?_
            refine u rfl rfl mv ?_
            refine u rfl rfl (r_strAt (b := c) rfl rfl (by kernel_rfl) rfl rfl (by omega) (by simpa using hc)) ?_
            refine JR.runB rfl rfl (r_eqI rfl rfl rfl rfl) ?_ ?_
            · intro h43
              replace h43 := of_decide_eq_true h43
              refine jd ?_
              refine w14 1 2 3 4 5 34 35 36 37 40 41 42 43 2001 ?_
              refine J_condT rfl ?_
              refine JR.start ?_
              refine u rfl rfl mv ?_
              refine u rfl rfl (r_addI rfl rfl rfl rfl (by omega)) ?_
              refine u rfl rfl asg ?_
              refine jd ?_
              refine w16 1 2 3 4 5 34 35 36 37 40 41 42 43 44 45 2001 ?_
              refine JR.start ?_
              refine u rfl rfl mv ?_
              refine u rfl rfl (r_addI rfl rfl rfl rfl (by omega)) ?_
              refine u rfl rfl asg ?_
              refine jd ?_
              refine ⟨⟨(i + 1, q + 1), by simp only; omega, by simp only; omega, by simp only; rw [hI, nlc_drop hc, if_pos (is10 h43)]; omega⟩, by simp only; omega, rfl, rfl, rfl, rfl, rfl, rfl, trivial⟩
            · intro h43
              replace h43 := of_decide_eq_false h43
              refine jd ?_
              refine w14 1 2 3 4 5 34 35 36 37 40 41 42 43 2001 ?_
              refine J_condF rfl ?_
              refine J_skip ?_
              refine JR.start ?_
              refine u rfl rfl mv ?_
              refine u rfl rfl (r_addI rfl rfl rfl rfl (by omega)) ?_
              refine u rfl rfl asg ?_
              refine jd ?_
              refine ⟨⟨(i + 1, q), by simp only; omega, by simp only; omega, by simp only; rw [hI, nlc_drop hc, if_neg (not10 h43)]; omega⟩, by simp only; omega, rfl, rfl, rfl, rfl, rfl, rfl, trivial⟩
          · intro h37
            replace h37 := of_decide_eq_false h37
            have hqs : nlc s = q := by rw [hI, List.drop_eq_nil_of_le (by omega)]; rfl
            refine jd ?_
            refine w10 1 2 3 4 5 34 35 36 37 2001 ?_
            refine J_condF rfl ?_
            refine J_exit ?_
            refine js ?_
            refine u rfl rfl asg ?_
            refine jd ?_
            refine w6 1 2 3 4 6 2001 ?_
            refine J_seq ?_
            refine js ?_
            refine u rfl rfl (fA 0 1) ?_
            refine u rfl rfl ld ?_
            refine JR.runB rfl rfl (r_geI rfl rfl rfl rfl) ?_ ?_
            · intro h48
              replace h48 := of_decide_eq_true h48
              refine u rfl rfl mv ?_
              refine u rfl rfl (fA 0 1) ?_
              refine u rfl rfl ld ?_
              refine JR.runB rfl rfl (r_leI rfl rfl rfl rfl) ?_ ?_
              · intro h52
                replace h52 := of_decide_eq_true h52
                refine u rfl rfl pT ?_
                refine jd ?_
                refine w7 1 2 3 4 6 53 2001 ?_
                refine J_condT rfl ?_
                refine JR.start ?_
                refine u rfl rfl asg ?_
                refine jd ?_
                refine w6 1 2 3 4 6 2001 ?_
                refine J_cutF (α := { z : Int // z = wN ok }) (fun p => [(6, .c (.lit (.int .i64 p.1)))]) [(1, _), (2, _), (3, _), (4, _), (2001, _)] ⟨rfl, rfl, rfl, rfl, rfl, trivial⟩ ?_ ?_
                · skip
                  refine js ?_
                  refine u rfl rfl (fA 0 1) ?_
                  refine u rfl rfl ld ?_
                  refine JR.runB rfl rfl (r_eqI rfl rfl rfl rfl) ?_ ?_
                  · intro h56
                    replace h56 := of_decide_eq_true h56
                    refine jd ?_
                    refine w7 1 2 3 4 6 56 2001 ?_
                    refine J_condT rfl ?_
                    refine JR.start ?_
                    refine u rfl rfl asg ?_
                    refine jd ?_
                    exact cut_in ⟨2, by first | (simp_all [wN]; done) | (unfold wN; split <;> (try split) <;> omega)⟩ ⟨rfl, rfl, rfl, rfl, rfl, rfl, trivial⟩
                  · intro h56
                    replace h56 := of_decide_eq_false h56
                    refine jd ?_
                    refine w7 1 2 3 4 6 56 2001 ?_
                    refine J_condF rfl ?_
                    refine J_skip ?_
                    exact cut_in ⟨1, by first | (simp_all [wN]; done) | (unfold wN; split <;> (try split) <;> omega)⟩ ⟨rfl, rfl, rfl, rfl, rfl, rfl, trivial⟩
                · rintro ⟨_, rfl⟩
                  dsimp only
                  refine J_seq ?_
                  refine js ?_
                  refine u rfl rfl asg ?_
                  refine jd ?_
                  refine w7 1 2 3 4 6 7 2001 ?_
                  refine J_block ?_
                  refine J_loopF (α := { p : Nat × Int // p.1 ≤ nm.length ∧ ((p.2 = (q : Int) ∧ nlc nm = nlc (nm.drop p.1)) ∨ p.2 = wN ok) }) (fun p => [(7, .c (.lit (.int .i64 (p.1.1 : Int)))), (4, .c (.lit (.int .i64 p.1.2)))]) [(1, _), (2, _), (3, _), (6, _), (2001, _)] (fun p => nm.length - p.1.1) ⟨(0, (q : Int)), Nat.zero_le _, .inl ⟨rfl, rfl⟩⟩ ⟨rfl, rfl, rfl, rfl, rfl, rfl, rfl, trivial⟩ ?_
                  rintro ⟨⟨j, q2⟩, hj, hJ⟩
                  dsimp only at hj hJ ⊢
                  refine J_seq ?_
                  refine js ?_
                  refine u rfl rfl mv ?_
                  refine u rfl rfl (fA 2 6) ?_
                  refine u rfl rfl (fA 5 1) ?_
                  refine u rfl rfl ld ?_
                  refine u rfl rfl (r_lenS rfl rfl (by kernel_rfl) rfl) ?_
                  refine JR.runB rfl rfl (r_ltI rfl rfl rfl rfl) ?_ ?_
                  · intro h62
                    replace h62 := of_decide_eq_true h62
                    obtain ⟨c2, hc2⟩ := get_some (l := nm) (i := j) (by omega)
                    refine jd ?_
                    refine w13 1 2 3 4 6 7 57 58 59 60 61 62 2001 ?_
                    refine J_condT rfl ?_
                    refine J_skip ?_
                    refine J_seq ?_
                    refine J_block ?_
                    refine js ?_
                    refine u rfl rfl (fA 2 6) ?_
                    refine u rfl rfl (fA 5 1) ?_
                    refine u rfl rfl ld ?_
                    refine u rfl rfl mv ?_
                    refine u rfl rfl (r_strAt (b := c2) rfl rfl (by kernel_rfl) rfl rfl (by omega) (by simpa using hc2)) ?_
                    refine JR.runB rfl rfl (r_eqI rfl rfl rfl rfl) ?_ ?_
                    · intro h70
                      replace h70 := of_decide_eq_true h70
                      refine jd ?_
                      refine J_weak [(1, _), (2, _), (3, _), (4, _), (6, _), (7, _), (57, _), (58, _), (59, _), (60, _), (61, _), (62, _), (65, _), (66, _), (67, _), (68, _), (69, _), (70, _), (2001, _)] ⟨rfl, rfl, rfl, rfl, rfl, rfl, rfl, rfl, rfl, rfl, rfl, rfl, rfl, rfl, rfl, rfl, rfl, rfl, rfl, trivial⟩ ?_
                      refine J_condT rfl ?_
                      refine JR.start ?_
                      refine u rfl rfl mv ?_
                      refine u rfl rfl asg ?_
                      refine jd ?_
                      refine J_weak [(1, _), (2, _), (3, _), (4, _), (6, _), (7, _), (57, _), (58, _), (59, _), (60, _), (61, _), (62, _), (65, _), (66, _), (67, _), (68, _), (69, _), (70, _), (71, _), (2001, _)] ⟨rfl, rfl, rfl, rfl, rfl, rfl, rfl, rfl, rfl, rfl, rfl, rfl, rfl, rfl, rfl, rfl, rfl, rfl, rfl, rfl, trivial⟩ ?_
                      refine JR.start ?_
                      refine u rfl rfl mv ?_
                      refine u rfl rfl (r_addI rfl rfl rfl rfl (by omega)) ?_
                      refine u rfl rfl asg ?_
                      refine jd ?_
                      refine ⟨⟨(j + 1, wN ok), by simp only; omega, .inr rfl⟩, by simp only; omega, rfl, rfl, rfl, rfl, rfl, rfl, rfl, trivial⟩
                    · intro h70
                      replace h70 := of_decide_eq_false h70
                      refine jd ?_
                      refine J_weak [(1, _), (2, _), (3, _), (4, _), (6, _), (7, _), (57, _), (58, _), (59, _), (60, _), (61, _), (62, _), (65, _), (66, _), (67, _), (68, _), (69, _), (70, _), (2001, _)] ⟨rfl, rfl, rfl, rfl, rfl, rfl, rfl, rfl, rfl, rfl, rfl, rfl, rfl, rfl, rfl, rfl, rfl, rfl, rfl, trivial⟩ ?_
                      refine J_condF rfl ?_
                      refine J_skip ?_
                      refine JR.start ?_
                      refine u rfl rfl mv ?_
                      refine u rfl rfl (r_addI rfl rfl rfl rfl (by omega)) ?_
                      refine u rfl rfl asg ?_
                      refine jd ?_
                      refine ⟨⟨(j + 1, q2), by simp only; omega, step_lines hJ hc2 h70⟩, by simp only; omega, rfl, rfl, rfl, rfl, rfl, rfl, rfl, trivial⟩
                  · intro h62
                    replace h62 := of_decide_eq_false h62
                    have hfin := fin_lines hJ (by omega) hqs hlines
                    refine jd ?_
                    refine w13 1 2 3 4 6 7 57 58 59 60 61 62 2001 ?_
                    refine J_condF rfl ?_
                    refine J_exit ?_
                    refine js ?_
                    refine u rfl rfl mv ?_
                    refine u rfl rfl (lA 27) ?_
                    refine u rfl rfl (cl (cx)) ?_
                    refine u rfl rfl ((r_eqS rfl rfl rfl rfl).cast (cast_b (b' := true) (by exact beq_self' _))) ?_
                    refine u rfl rfl mv ?_
                    refine u rfl rfl mv ?_
                    refine u rfl rfl mv ?_
                    refine u rfl rfl ((r_eqI rfl rfl rfl rfl).cast (cast_b (b' := true) (by exact decide_eq_true hfin))) ?_
                    refine u rfl rfl pT ?_
                    refine u rfl rfl mv ?_
                    refine u rfl rfl mv ?_
                    refine u rfl rfl (r_lenS rfl rfl (by kernel_rfl) rfl) ?_
                    refine JR.runB rfl rfl (r_gtI rfl rfl rfl rfl) ?_ ?_
                    · intro h84
                      replace h84 := of_decide_eq_true h84
                      refine u rfl rfl mv ?_
                      refine JR.runB rfl rfl (r_gtI rfl rfl rfl rfl) ?_ ?_
                      · intro h86
                        replace h86 := of_decide_eq_true h86
                        refine u rfl rfl (r_eqB rfl rfl (by kernel_rfl) rfl rfl) ?_
                        refine u rfl rfl pT ?_
                        refine u rfl rfl mv ?_
                        refine u rfl rfl (cl (kWakes27)) ?_
                        refine u rfl rfl pT ?_
                        refine u rfl rfl asg ?_
                        refine jd ?_
                        refine w1 2 ?_
                        refine J_ret ?_
                        exact ⟨.inl rfl, _, rfl, .refl _, trivial⟩
                      · intro h86
                        replace h86 := of_decide_eq_false h86
                        refine u rfl rfl (r_eqB rfl rfl (by kernel_rfl) rfl rfl) ?_
                        refine u rfl rfl pT ?_
                        refine u rfl rfl mv ?_
                        refine sk ?_
                        refine u rfl rfl pF ?_
                        refine u rfl rfl asg ?_
                        refine jd ?_
                        refine w1 2 ?_
                        refine J_ret ?_
                        exfalso
                        omega
                    · intro h84
                      replace h84 := of_decide_eq_false h84
                      refine u rfl rfl mv ?_
                      refine JR.runB rfl rfl (r_gtI rfl rfl rfl rfl) ?_ ?_
                      · intro h86
                        replace h86 := of_decide_eq_true h86
                        refine u rfl rfl (r_eqB rfl rfl (by kernel_rfl) rfl rfl) ?_
                        refine u rfl rfl pT ?_
                        refine u rfl rfl mv ?_
                        refine sk ?_
                        refine u rfl rfl pF ?_
                        refine u rfl rfl asg ?_
                        refine jd ?_
                        refine w1 2 ?_
                        refine J_ret ?_
                        exfalso
                        omega
                      · intro h86
                        replace h86 := of_decide_eq_false h86
                        refine u rfl rfl (r_eqB rfl rfl (by kernel_rfl) rfl rfl) ?_
                        refine u rfl rfl pT ?_
                        refine u rfl rfl mv ?_
                        refine u rfl rfl (cl (kWakes27)) ?_
                        refine u rfl rfl pT ?_
                        refine u rfl rfl asg ?_
                        refine jd ?_
                        refine w1 2 ?_
                        refine J_ret ?_
                        exact ⟨.inl rfl, _, rfl, .refl _, trivial⟩
              · intro h52
                replace h52 := of_decide_eq_false h52
                refine u rfl rfl pT ?_
                refine jd ?_
                refine w7 1 2 3 4 6 53 2001 ?_
                refine J_condF rfl ?_
                refine J_skip ?_
                refine J_cutF (α := { z : Int // z = wN ok }) (fun p => [(6, .c (.lit (.int .i64 p.1)))]) [(1, _), (2, _), (3, _), (4, _), (2001, _)] ⟨rfl, rfl, rfl, rfl, rfl, trivial⟩ ?_ ?_
                · skip
                  refine js ?_
                  refine u rfl rfl (fA 0 1) ?_
                  refine u rfl rfl ld ?_
                  refine JR.runB rfl rfl (r_eqI rfl rfl rfl rfl) ?_ ?_
                  · intro h56
                    replace h56 := of_decide_eq_true h56
                    refine jd ?_
                    refine w7 1 2 3 4 6 56 2001 ?_
                    refine J_condT rfl ?_
                    refine JR.start ?_
                    refine u rfl rfl asg ?_
                    refine jd ?_
                    exact cut_in ⟨2, by first | (simp_all [wN]; done) | (unfold wN; split <;> (try split) <;> omega)⟩ ⟨rfl, rfl, rfl, rfl, rfl, rfl, trivial⟩
                  · intro h56
                    replace h56 := of_decide_eq_false h56
                    refine jd ?_
                    refine w7 1 2 3 4 6 56 2001 ?_
                    refine J_condF rfl ?_
                    refine J_skip ?_
                    exact cut_in ⟨0, by first | (simp_all [wN]; done) | (unfold wN; split <;> (try split) <;> omega)⟩ ⟨rfl, rfl, rfl, rfl, rfl, rfl, trivial⟩
                · rintro ⟨_, rfl⟩
                  dsimp only
                  refine J_seq ?_
                  refine js ?_
                  refine u rfl rfl asg ?_
                  refine jd ?_
                  refine w7 1 2 3 4 6 7 2001 ?_
                  refine J_block ?_
                  refine J_loopF (α := { p : Nat × Int // p.1 ≤ nm.length ∧ ((p.2 = (q : Int) ∧ nlc nm = nlc (nm.drop p.1)) ∨ p.2 = wN ok) }) (fun p => [(7, .c (.lit (.int .i64 (p.1.1 : Int)))), (4, .c (.lit (.int .i64 p.1.2)))]) [(1, _), (2, _), (3, _), (6, _), (2001, _)] (fun p => nm.length - p.1.1) ⟨(0, (q : Int)), Nat.zero_le _, .inl ⟨rfl, rfl⟩⟩ ⟨rfl, rfl, rfl, rfl, rfl, rfl, rfl, trivial⟩ ?_
                  rintro ⟨⟨j, q2⟩, hj, hJ⟩
                  dsimp only at hj hJ ⊢
                  refine J_seq ?_
                  refine js ?_
                  refine u rfl rfl mv ?_
                  refine u rfl rfl (fA 2 6) ?_
                  refine u rfl rfl (fA 5 1) ?_
                  refine u rfl rfl ld ?_
                  refine u rfl rfl (r_lenS rfl rfl (by kernel_rfl) rfl) ?_
                  refine JR.runB rfl rfl (r_ltI rfl rfl rfl rfl) ?_ ?_
                  · intro h62
                    replace h62 := of_decide_eq_true h62
                    obtain ⟨c2, hc2⟩ := get_some (l := nm) (i := j) (by omega)
                    refine jd ?_
                    refine w13 1 2 3 4 6 7 57 58 59 60 61 62 2001 ?_
                    refine J_condT rfl ?_
                    refine J_skip ?_
                    refine J_seq ?_
                    refine J_block ?_
                    refine js ?_
                    refine u rfl rfl (fA 2 6) ?_
                    refine u rfl rfl (fA 5 1) ?_
                    refine u rfl rfl ld ?_
                    refine u rfl rfl mv ?_
                    refine u rfl rfl (r_strAt (b := c2) rfl rfl (by kernel_rfl) rfl rfl (by omega) (by simpa using hc2)) ?_
                    refine JR.runB rfl rfl (r_eqI rfl rfl rfl rfl) ?_ ?_
                    · intro h70
                      replace h70 := of_decide_eq_true h70
                      refine jd ?_
                      refine J_weak [(1, _), (2, _), (3, _), (4, _), (6, _), (7, _), (57, _), (58, _), (59, _), (60, _), (61, _), (62, _), (65, _), (66, _), (67, _), (68, _), (69, _), (70, _), (2001, _)] ⟨rfl, rfl, rfl, rfl, rfl, rfl, rfl, rfl, rfl, rfl, rfl, rfl, rfl, rfl, rfl, rfl, rfl, rfl, rfl, trivial⟩ ?_
                      refine J_condT rfl ?_
                      refine JR.start ?_
                      refine u rfl rfl mv ?_
                      refine u rfl rfl asg ?_
                      refine jd ?_
                      refine J_weak [(1, _), (2, _), (3, _), (4, _), (6, _), (7, _), (57, _), (58, _), (59, _), (60, _), (61, _), (62, _), (65, _), (66, _), (67, _), (68, _), (69, _), (70, _), (71, _), (2001, _)] ⟨rfl, rfl, rfl, rfl, rfl, rfl, rfl, rfl, rfl, rfl, rfl, rfl, rfl, rfl, rfl, rfl, rfl, rfl, rfl, rfl, trivial⟩ ?_
                      refine JR.start ?_
                      refine u rfl rfl mv ?_
                      refine u rfl rfl (r_addI rfl rfl rfl rfl (by omega)) ?_
                      refine u rfl rfl asg ?_
                      refine jd ?_
                      refine ⟨⟨(j + 1, wN ok), by simp only; omega, .inr rfl⟩, by simp only; omega, rfl, rfl, rfl, rfl, rfl, rfl, rfl, trivial⟩
                    · intro h70
                      replace h70 := of_decide_eq_false h70
                      refine jd ?_
                      refine J_weak [(1, _), (2, _), (3, _), (4, _), (6, _), (7, _), (57, _), (58, _), (59, _), (60, _), (61, _), (62, _), (65, _), (66, _), (67, _), (68, _), (69, _), (70, _), (2001, _)] ⟨rfl, rfl, rfl, rfl, rfl, rfl, rfl, rfl, rfl, rfl, rfl, rfl, rfl, rfl, rfl, rfl, rfl, rfl, rfl, trivial⟩ ?_
                      refine J_condF rfl ?_
                      refine J_skip ?_
                      refine JR.start ?_
                      refine u rfl rfl mv ?_
                      refine u rfl rfl (r_addI rfl rfl rfl rfl (by omega)) ?_
                      refine u rfl rfl asg ?_
                      refine jd ?_
                      refine ⟨⟨(j + 1, q2), by simp only; omega, step_lines hJ hc2 h70⟩, by simp only; omega, rfl, rfl, rfl, rfl, rfl, rfl, rfl, trivial⟩
                  · intro h62
                    replace h62 := of_decide_eq_false h62
                    have hfin := fin_lines hJ (by omega) hqs hlines
                    refine jd ?_
                    refine w13 1 2 3 4 6 7 57 58 59 60 61 62 2001 ?_
                    refine J_condF rfl ?_
                    refine J_exit ?_
                    refine js ?_
                    refine u rfl rfl mv ?_
                    refine u rfl rfl (lA 27) ?_
                    refine u rfl rfl (cl (cx)) ?_
                    refine u rfl rfl ((r_eqS rfl rfl rfl rfl).cast (cast_b (b' := true) (by exact beq_self' _))) ?_
                    refine u rfl rfl mv ?_
                    refine u rfl rfl mv ?_
                    refine u rfl rfl mv ?_
                    refine u rfl rfl ((r_eqI rfl rfl rfl rfl).cast (cast_b (b' := true) (by exact decide_eq_true hfin))) ?_
                    refine u rfl rfl pT ?_
                    refine u rfl rfl mv ?_
                    refine u rfl rfl mv ?_
                    refine u rfl rfl (r_lenS rfl rfl (by kernel_rfl) rfl) ?_
                    refine JR.runB rfl rfl (r_gtI rfl rfl rfl rfl) ?_ ?_
                    · intro h84
                      replace h84 := of_decide_eq_true h84
                      refine u rfl rfl mv ?_
                      refine JR.runB rfl rfl (r_gtI rfl rfl rfl rfl) ?_ ?_
                      · intro h86
                        replace h86 := of_decide_eq_true h86
                        refine u rfl rfl (r_eqB rfl rfl (by kernel_rfl) rfl rfl) ?_
                        refine u rfl rfl pT ?_
                        refine u rfl rfl mv ?_
                        refine u rfl rfl (cl (kWakes27)) ?_
                        refine u rfl rfl pT ?_
                        refine u rfl rfl asg ?_
                        refine jd ?_
                        refine w1 2 ?_
                        refine J_ret ?_
                        exact ⟨.inl rfl, _, rfl, .refl _, trivial⟩
                      · intro h86
                        replace h86 := of_decide_eq_false h86
                        refine u rfl rfl (r_eqB rfl rfl (by kernel_rfl) rfl rfl) ?_
                        refine u rfl rfl pT ?_
                        refine u rfl rfl mv ?_
                        refine sk ?_
                        refine u rfl rfl pF ?_
                        refine u rfl rfl asg ?_
                        refine jd ?_
                        refine w1 2 ?_
                        refine J_ret ?_
                        exfalso
                        omega
                    · intro h84
                      replace h84 := of_decide_eq_false h84
                      refine u rfl rfl mv ?_
                      refine JR.runB rfl rfl (r_gtI rfl rfl rfl rfl) ?_ ?_
                      · intro h86
                        replace h86 := of_decide_eq_true h86
                        refine u rfl rfl (r_eqB rfl rfl (by kernel_rfl) rfl rfl) ?_
                        refine u rfl rfl pT ?_
                        refine u rfl rfl mv ?_
                        refine sk ?_
                        refine u rfl rfl pF ?_
                        refine u rfl rfl asg ?_
                        refine jd ?_
                        refine w1 2 ?_
                        refine J_ret ?_
                        exfalso
                        omega
                      · intro h86
                        replace h86 := of_decide_eq_false h86
                        refine u rfl rfl (r_eqB rfl rfl (by kernel_rfl) rfl rfl) ?_
                        refine u rfl rfl pT ?_
                        refine u rfl rfl mv ?_
                        refine u rfl rfl (cl (kWakes27)) ?_
                        refine u rfl rfl pT ?_
                        refine u rfl rfl asg ?_
                        refine jd ?_
                        refine w1 2 ?_
                        refine J_ret ?_
                        exact ⟨.inl rfl, _, rfl, .refl _, trivial⟩
            · intro h48
              replace h48 := of_decide_eq_false h48
              refine u rfl rfl mv ?_
              refine sk ?_
              refine sk ?_
              refine sk ?_
              refine u rfl rfl pF ?_
              refine jd ?_
              refine w7 1 2 3 4 6 53 2001 ?_
              refine J_condF rfl ?_
              refine J_skip ?_
              refine J_cutF (α := { z : Int // z = wN ok }) (fun p => [(6, .c (.lit (.int .i64 p.1)))]) [(1, _), (2, _), (3, _), (4, _), (2001, _)] ⟨rfl, rfl, rfl, rfl, rfl, trivial⟩ ?_ ?_
              · skip
                refine js ?_
                refine u rfl rfl (fA 0 1) ?_
                refine u rfl rfl ld ?_
                refine JR.runB rfl rfl (r_eqI rfl rfl rfl rfl) ?_ ?_
                · intro h56
                  replace h56 := of_decide_eq_true h56
                  refine jd ?_
                  refine w7 1 2 3 4 6 56 2001 ?_
                  refine J_condT rfl ?_
                  refine JR.start ?_
                  refine u rfl rfl asg ?_
                  refine jd ?_
                  exact cut_in ⟨2, by first | (simp_all [wN]; done) | (unfold wN; split <;> (try split) <;> omega)⟩ ⟨rfl, rfl, rfl, rfl, rfl, rfl, trivial⟩
                · intro h56
                  replace h56 := of_decide_eq_false h56
                  refine jd ?_
                  refine w7 1 2 3 4 6 56 2001 ?_
                  refine J_condF rfl ?_
                  refine J_skip ?_
                  exact cut_in ⟨0, by first | (simp_all [wN]; done) | (unfold wN; split <;> (try split) <;> omega)⟩ ⟨rfl, rfl, rfl, rfl, rfl, rfl, trivial⟩
              · rintro ⟨_, rfl⟩
                dsimp only
                refine J_seq ?_
                refine js ?_
                refine u rfl rfl asg ?_
                refine jd ?_
                refine w7 1 2 3 4 6 7 2001 ?_
                refine J_block ?_
                refine J_loopF (α := { p : Nat × Int // p.1 ≤ nm.length ∧ ((p.2 = (q : Int) ∧ nlc nm = nlc (nm.drop p.1)) ∨ p.2 = wN ok) }) (fun p => [(7, .c (.lit (.int .i64 (p.1.1 : Int)))), (4, .c (.lit (.int .i64 p.1.2)))]) [(1, _), (2, _), (3, _), (6, _), (2001, _)] (fun p => nm.length - p.1.1) ⟨(0, (q : Int)), Nat.zero_le _, .inl ⟨rfl, rfl⟩⟩ ⟨rfl, rfl, rfl, rfl, rfl, rfl, rfl, trivial⟩ ?_
                rintro ⟨⟨j, q2⟩, hj, hJ⟩
                dsimp only at hj hJ ⊢
                refine J_seq ?_
                refine js ?_
                refine u rfl rfl mv ?_
                refine u rfl rfl (fA 2 6) ?_
                refine u rfl rfl (fA 5 1) ?_
                refine u rfl rfl ld ?_
                refine u rfl rfl (r_lenS rfl rfl (by kernel_rfl) rfl) ?_
                refine JR.runB rfl rfl (r_ltI rfl rfl rfl rfl) ?_ ?_
                · intro h62
                  replace h62 := of_decide_eq_true h62
                  obtain ⟨c2, hc2⟩ := get_some (l := nm) (i := j) (by omega)
                  refine jd ?_
                  refine w13 1 2 3 4 6 7 57 58 59 60 61 62 2001 ?_
                  refine J_condT rfl ?_
                  refine J_skip ?_
                  refine J_seq ?_
                  refine J_block ?_
                  refine js ?_
                  refine u rfl rfl (fA 2 6) ?_
                  refine u rfl rfl (fA 5 1) ?_
                  refine u rfl rfl ld ?_
                  refine u rfl rfl mv ?_
                  refine u rfl rfl (r_strAt (b := c2) rfl rfl (by kernel_rfl) rfl rfl (by omega) (by simpa using hc2)) ?_
                  refine JR.runB rfl rfl (r_eqI rfl rfl rfl rfl) ?_ ?_
                  · intro h70
                    replace h70 := of_decide_eq_true h70
                    refine jd ?_
                    refine J_weak [(1, _), (2, _), (3, _), (4, _), (6, _), (7, _), (57, _), (58, _), (59, _), (60, _), (61, _), (62, _), (65, _), (66, _), (67, _), (68, _), (69, _), (70, _), (2001, _)] ⟨rfl, rfl, rfl, rfl, rfl, rfl, rfl, rfl, rfl, rfl, rfl, rfl, rfl, rfl, rfl, rfl, rfl, rfl, rfl, trivial⟩ ?_
                    refine J_condT rfl ?_
                    refine JR.start ?_
                    refine u rfl rfl mv ?_
                    refine u rfl rfl asg ?_
                    refine jd ?_
                    refine J_weak [(1, _), (2, _), (3, _), (4, _), (6, _), (7, _), (57, _), (58, _), (59, _), (60, _), (61, _), (62, _), (65, _), (66, _), (67, _), (68, _), (69, _), (70, _), (71, _), (2001, _)] ⟨rfl, rfl, rfl, rfl, rfl, rfl, rfl, rfl, rfl, rfl, rfl, rfl, rfl, rfl, rfl, rfl, rfl, rfl, rfl, rfl, trivial⟩ ?_
                    refine JR.start ?_
                    refine u rfl rfl mv ?_
                    refine u rfl rfl (r_addI rfl rfl rfl rfl (by omega)) ?_
                    refine u rfl rfl asg ?_
                    refine jd ?_
                    refine ⟨⟨(j + 1, wN ok), by simp only; omega, .inr rfl⟩, by simp only; omega, rfl, rfl, rfl, rfl, rfl, rfl, rfl, trivial⟩
                  · intro h70
                    replace h70 := of_decide_eq_false h70
                    refine jd ?_
                    refine J_weak [(1, _), (2, _), (3, _), (4, _), (6, _), (7, _), (57, _), (58, _), (59, _), (60, _), (61, _), (62, _), (65, _), (66, _), (67, _), (68, _), (69, _), (70, _), (2001, _)] ⟨rfl, rfl, rfl, rfl, rfl, rfl, rfl, rfl, rfl, rfl, rfl, rfl, rfl, rfl, rfl, rfl, rfl, rfl, rfl, trivial⟩ ?_
                    refine J_condF rfl ?_
                    refine J_skip ?_
                    refine JR.start ?_
                    refine u rfl rfl mv ?_
                    refine u rfl rfl (r_addI rfl rfl rfl rfl (by omega)) ?_
                    refine u rfl rfl asg ?_
                    refine jd ?_
                    refine ⟨⟨(j + 1, q2), by simp only; omega, step_lines hJ hc2 h70⟩, by simp only; omega, rfl, rfl, rfl, rfl, rfl, rfl, rfl, trivial⟩
                · intro h62
                  replace h62 := of_decide_eq_false h62
                  have hfin := fin_lines hJ (by omega) hqs hlines
                  refine jd ?_
                  refine w13 1 2 3 4 6 7 57 58 59 60 61 62 2001 ?_
                  refine J_condF rfl ?_
                  refine J_exit ?_
                  refine js ?_
                  refine u rfl rfl mv ?_
                  refine u rfl rfl (lA 27) ?_
                  refine u rfl rfl (cl (cx)) ?_
                  refine u rfl rfl ((r_eqS rfl rfl rfl rfl).cast (cast_b (b' := true) (by exact beq_self' _))) ?_
                  refine u rfl rfl mv ?_
                  refine u rfl rfl mv ?_
                  refine u rfl rfl mv ?_
                  refine u rfl rfl ((r_eqI rfl rfl rfl rfl).cast (cast_b (b' := true) (by exact decide_eq_true hfin))) ?_
                  refine u rfl rfl pT ?_
                  refine u rfl rfl mv ?_
                  refine u rfl rfl mv ?_
                  refine u rfl rfl (r_lenS rfl rfl (by kernel_rfl) rfl) ?_
                  refine JR.runB rfl rfl (r_gtI rfl rfl rfl rfl) ?_ ?_
                  · intro h84
                    replace h84 := of_decide_eq_true h84
                    refine u rfl rfl mv ?_
                    refine JR.runB rfl rfl (r_gtI rfl rfl rfl rfl) ?_ ?_
                    · intro h86
                      replace h86 := of_decide_eq_true h86
                      refine u rfl rfl (r_eqB rfl rfl (by kernel_rfl) rfl rfl) ?_
                      refine u rfl rfl pT ?_
                      refine u rfl rfl mv ?_
                      refine u rfl rfl (cl (kWakes27)) ?_
                      refine u rfl rfl pT ?_
                      refine u rfl rfl asg ?_
                      refine jd ?_
                      refine w1 2 ?_
                      refine J_ret ?_
                      exact ⟨.inl rfl, _, rfl, .refl _, trivial⟩
                    · intro h86
                      replace h86 := of_decide_eq_false h86
                      refine u rfl rfl (r_eqB rfl rfl (by kernel_rfl) rfl rfl) ?_
                      refine u rfl rfl pT ?_
                      refine u rfl rfl mv ?_
                      refine sk ?_
                      refine u rfl rfl pF ?_
                      refine u rfl rfl asg ?_
                      refine jd ?_
                      refine w1 2 ?_
                      refine J_ret ?_
                      exfalso
                      omega
                  · intro h84
                    replace h84 := of_decide_eq_false h84
                    refine u rfl rfl mv ?_
                    refine JR.runB rfl rfl (r_gtI rfl rfl rfl rfl) ?_ ?_
                    · intro h86
                      replace h86 := of_decide_eq_true h86
                      refine u rfl rfl (r_eqB rfl rfl (by kernel_rfl) rfl rfl) ?_
                      refine u rfl rfl pT ?_
                      refine u rfl rfl mv ?_
                      refine sk ?_
                      refine u rfl rfl pF ?_
                      refine u rfl rfl asg ?_
                      refine jd ?_
                      refine w1 2 ?_
                      refine J_ret ?_
                      exfalso
                      omega
                    · intro h86
                      replace h86 := of_decide_eq_false h86
                      refine u rfl rfl (r_eqB rfl rfl (by kernel_rfl) rfl rfl) ?_
                      refine u rfl rfl pT ?_
                      refine u rfl rfl mv ?_
                      refine u rfl rfl (cl (kWakes27)) ?_
                      refine u rfl rfl pT ?_
                      refine u rfl rfl asg ?_
                      refine jd ?_
                      refine w1 2 ?_
                      refine J_ret ?_
                      exact ⟨.inl rfl, _, rfl, .refl _, trivial⟩
  · intro h11
    refine u rfl rfl nt ?_
    refine u rfl rfl mv ?_
    refine sk ?_
    refine sk ?_
    refine sk ?_
    refine sk ?_
    refine sk ?_
    refine u rfl rfl pT ?_
    refine u rfl rfl mv ?_
    refine sk ?_
    refine sk ?_
    refine sk ?_
    refine u rfl rfl pT ?_
    refine u rfl rfl mv ?_
    refine sk ?_
    refine sk ?_
    refine sk ?_
    refine sk ?_
    refine sk ?_
    refine u rfl rfl pT ?_
    refine jd ?_
    refine w4 1 2 31 2001 ?_
    refine J_condT rfl ?_
    refine js ?_
    refine u rfl rfl asg ?_
    refine jd ?_
    refine w3 1 2 2001 ?_
    refine J_ret ?_
    exact ⟨.inl rfl, _, rfl, .refl _, trivial⟩

end Go.Proofs.YtccdnmjijakofaaGreatDoor
