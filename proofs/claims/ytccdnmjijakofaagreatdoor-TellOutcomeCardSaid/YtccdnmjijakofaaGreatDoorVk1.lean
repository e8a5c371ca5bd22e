/- Coercions: which are right, the same, heavy: the program's and the page's. -/
import Derived.Test.YtccdnmjijakofaaGreatDoorVm
import Derived.Test.YtccdnmjijakofaaGreatDoorShZ
import Derived.Test.YtccdnmjijakofaaGreatDoorSh22
import Derived.Test.YtccdnmjijakofaaGreatDoorNt1
namespace Go.Proofs.YtccdnmjijakofaaGreatDoor
open Go Go.RowKit
set_option maxRecDepth 100000
set_option maxHeartbeats 1000000
set_option linter.unusedVariables false
set_option linter.unusedSimpArgs false

theorem ck1 {k h l : Int} {g : Bool} {ks : List Co} : (Co.mk k h l g ks).kind = k := rfl
theorem ck2 {k h l : Int} {g : Bool} {ks : List Co} : (Co.mk k h l g ks).head = h := rfl
theorem ck3 {k h l : Int} {g : Bool} {ks : List Co} : (Co.mk k h l g ks).lab = l := rfl
theorem ck4 {k h l : Int} {g : Bool} {ks : List Co} : (Co.mk k h l g ks).neg = g := rfl
theorem ck5 {k h l : Int} {g : Bool} {ks : List Co} : (Co.mk k h l g ks).kids = ks := rfl
theorem kLabel (k : Int) : Con Tryz.prog 98 [.c (.lit (.int .i64 k))] [] (.c (.lit (.bool (mLab k)))) [] := by
  refine con_intro rfl rfl (by kernel_rfl) (by kernel_rfl) ?_
  refine js ?_
  refine u rfl rfl asg ?_
  refine jd ?_
  refine w2 0 2 ?_
  refine js ?_
  refine u rfl rfl mv ?_
  refine JR.runB rfl rfl (r_geI rfl rfl rfl rfl) ?_ ?_
  · intro h4
    replace h4 := of_decide_eq_true h4
    refine u rfl rfl mv ?_
    refine u rfl rfl mv ?_
    refine JR.runB rfl rfl (r_leI rfl rfl rfl rfl) ?_ ?_
    · intro h7
      replace h7 := of_decide_eq_true h7
      refine u rfl rfl pT ?_
      refine u rfl rfl asg ?_
      refine jd ?_
      refine w1 2 ?_
      refine J_ret ?_
      refine ⟨.inl rfl, _, rfl, .ofB ?_, trivial⟩
      first | (simp_all [mLab]; done) | (simp [mLab]; omega) | (simp_all [mLab]; omega)
    · intro h7
      replace h7 := of_decide_eq_false h7
      refine u rfl rfl pT ?_
      refine u rfl rfl asg ?_
      refine jd ?_
      refine w1 2 ?_
      refine J_ret ?_
      refine ⟨.inl rfl, _, rfl, .ofB ?_, trivial⟩
      first | (simp_all [mLab]; done) | (simp [mLab]; omega) | (simp_all [mLab]; omega)
  · intro h4
    replace h4 := of_decide_eq_false h4
    refine u rfl rfl mv ?_
    refine sk ?_
    refine sk ?_
    refine u rfl rfl pF ?_
    refine u rfl rfl asg ?_
    refine jd ?_
    refine w1 2 ?_
    refine J_ret ?_
    refine ⟨.inl rfl, _, rfl, .ofB ?_, trivial⟩
    first | (simp_all [mLab]; done) | (simp [mLab]; omega) | (simp_all [mLab]; omega)

theorem kIsHead (k : Int) : Con Tryz.prog 99 [.c (.lit (.int .i64 k))] [] (.c (.lit (.bool (mHead k)))) [] := by
  refine con_intro rfl rfl (by kernel_rfl) (by kernel_rfl) ?_
  refine js ?_
  refine u rfl rfl asg ?_
  refine jd ?_
  refine w2 0 2 ?_
  refine J_seq ?_
  refine js ?_
  refine u rfl rfl mv ?_
  refine jd ?_
  refine w2 2 3 ?_
  refine J_block ?_
  refine J_seq ?_
  refine js ?_
  refine JR.runB rfl rfl (r_eqI rfl rfl rfl rfl) ?_ ?_
  · intro h5
    replace h5 := of_decide_eq_true h5
    refine u rfl rfl asg ?_
    refine jd ?_
    refine w3 2 3 4 ?_
    refine J_condT rfl ?_
    refine J_skip ?_
    refine J_condT rfl ?_
    refine js ?_
    refine u rfl rfl asg ?_
    refine jd ?_
    refine w1 2 ?_
    refine J_ret ?_
    refine ⟨.inl rfl, _, rfl, .ofB ?_, trivial⟩
    simp_all [mHead]
  · intro h5
    replace h5 := of_decide_eq_false h5
    refine u rfl rfl asg ?_
    refine jd ?_
    refine w3 2 3 4 ?_
    refine J_condF rfl ?_
    refine js ?_
    refine JR.runB rfl rfl (r_eqI rfl rfl rfl rfl) ?_ ?_
    · intro h6
      replace h6 := of_decide_eq_true h6
      refine u rfl rfl asg ?_
      refine jd ?_
      refine w3 2 3 4 ?_
      refine J_condT rfl ?_
      refine J_skip ?_
      refine J_condT rfl ?_
      refine js ?_
      refine u rfl rfl asg ?_
      refine jd ?_
      refine w1 2 ?_
      refine J_ret ?_
      refine ⟨.inl rfl, _, rfl, .ofB ?_, trivial⟩
      simp_all [mHead]
    · intro h6
      replace h6 := of_decide_eq_false h6
      refine u rfl rfl asg ?_
      refine jd ?_
      refine w3 2 3 4 ?_
      refine J_condF rfl ?_
      refine js ?_
      refine JR.runB rfl rfl (r_eqI rfl rfl rfl rfl) ?_ ?_
      · intro h7
        replace h7 := of_decide_eq_true h7
        refine u rfl rfl asg ?_
        refine jd ?_
        refine w3 2 3 4 ?_
        refine J_condT rfl ?_
        refine J_skip ?_
        refine J_condT rfl ?_
        refine js ?_
        refine u rfl rfl asg ?_
        refine jd ?_
        refine w1 2 ?_
        refine J_ret ?_
        refine ⟨.inl rfl, _, rfl, .ofB ?_, trivial⟩
        simp_all [mHead]
      · intro h7
        replace h7 := of_decide_eq_false h7
        refine u rfl rfl asg ?_
        refine jd ?_
        refine w3 2 3 4 ?_
        refine J_condF rfl ?_
        refine js ?_
        refine JR.runB rfl rfl (r_eqI rfl rfl rfl rfl) ?_ ?_
        · intro h8
          replace h8 := of_decide_eq_true h8
          refine u rfl rfl asg ?_
          refine jd ?_
          refine w3 2 3 4 ?_
          refine J_condT rfl ?_
          refine J_skip ?_
          refine J_condT rfl ?_
          refine js ?_
          refine u rfl rfl asg ?_
          refine jd ?_
          refine w1 2 ?_
          refine J_ret ?_
          refine ⟨.inl rfl, _, rfl, .ofB ?_, trivial⟩
          simp_all [mHead]
        · intro h8
          replace h8 := of_decide_eq_false h8
          refine u rfl rfl asg ?_
          refine jd ?_
          refine w3 2 3 4 ?_
          refine J_condF rfl ?_
          refine js ?_
          refine JR.runB rfl rfl (r_eqI rfl rfl rfl rfl) ?_ ?_
          · intro h9
            replace h9 := of_decide_eq_true h9
            refine u rfl rfl asg ?_
            refine jd ?_
            refine w3 2 3 4 ?_
            refine J_condT rfl ?_
            refine J_skip ?_
            refine J_condT rfl ?_
            refine js ?_
            refine u rfl rfl asg ?_
            refine jd ?_
            refine w1 2 ?_
            refine J_ret ?_
            refine ⟨.inl rfl, _, rfl, .ofB ?_, trivial⟩
            simp_all [mHead]
          · intro h9
            replace h9 := of_decide_eq_false h9
            refine u rfl rfl asg ?_
            refine jd ?_
            refine w3 2 3 4 ?_
            refine J_condF rfl ?_
            refine js ?_
            refine JR.runB rfl rfl (r_eqI rfl rfl rfl rfl) ?_ ?_
            · intro h10
              replace h10 := of_decide_eq_true h10
              refine u rfl rfl asg ?_
              refine jd ?_
              refine w3 2 3 4 ?_
              refine J_condT rfl ?_
              refine J_skip ?_
              refine J_condT rfl ?_
              refine js ?_
              refine u rfl rfl asg ?_
              refine jd ?_
              refine w1 2 ?_
              refine J_ret ?_
              refine ⟨.inl rfl, _, rfl, .ofB ?_, trivial⟩
              simp_all [mHead]
            · intro h10
              replace h10 := of_decide_eq_false h10
              refine u rfl rfl asg ?_
              refine jd ?_
              refine w3 2 3 4 ?_
              refine J_condF rfl ?_
              refine JR.start ?_
              refine JR.runB rfl rfl (r_eqI rfl rfl rfl rfl) ?_ ?_
              · intro h11
                replace h11 := of_decide_eq_true h11
                refine u rfl rfl asg ?_
                refine jd ?_
                refine w2 2 4 ?_
                refine J_condT rfl ?_
                refine js ?_
                refine u rfl rfl asg ?_
                refine jd ?_
                refine w1 2 ?_
                refine J_ret ?_
                refine ⟨.inl rfl, _, rfl, .ofB ?_, trivial⟩
                simp_all [mHead]
              · intro h11
                replace h11 := of_decide_eq_false h11
                refine u rfl rfl asg ?_
                refine jd ?_
                refine w2 2 4 ?_
                refine J_condF rfl ?_
                refine J_skip ?_
                refine js ?_
                refine u rfl rfl asg ?_
                refine jd ?_
                refine w1 2 ?_
                refine J_ret ?_
                refine ⟨.inl rfl, _, rfl, .ofB ?_, trivial⟩
                simp_all [mHead]

theorem kFormer (k : Int) : Con Tryz.prog 104 [.c (.lit (.int .i64 k))] [] (.c (.lit (.int .i64 (mForm k)))) [] := by
  refine con_intro rfl rfl (by kernel_rfl) (by kernel_rfl) ?_
  refine js ?_
  refine u rfl rfl asg ?_
  refine jd ?_
  refine w2 0 2 ?_
  refine J_seq ?_
  refine js ?_
  refine u rfl rfl mv ?_
  refine jd ?_
  refine w2 2 3 ?_
  refine J_block ?_
  refine js ?_
  refine JR.runB rfl rfl (r_eqI rfl rfl rfl rfl) ?_ ?_
  · intro h5
    replace h5 := of_decide_eq_true h5
    refine u rfl rfl asg ?_
    refine jd ?_
    refine w3 2 3 4 ?_
    refine J_condT rfl ?_
    refine js ?_
    refine u rfl rfl asg ?_
    refine jd ?_
    refine w1 2 ?_
    refine J_ret ?_
    refine ⟨.inl rfl, _, rfl, .ofI ?_, trivial⟩
    simp_all [mForm]
  · intro h5
    replace h5 := of_decide_eq_false h5
    refine u rfl rfl asg ?_
    refine jd ?_
    refine w3 2 3 4 ?_
    refine J_condF rfl ?_
    refine js ?_
    refine JR.runB rfl rfl (r_eqI rfl rfl rfl rfl) ?_ ?_
    · intro h7
      replace h7 := of_decide_eq_true h7
      refine u rfl rfl asg ?_
      refine jd ?_
      refine w3 2 3 6 ?_
      refine J_condT rfl ?_
      refine js ?_
      refine u rfl rfl asg ?_
      refine jd ?_
      refine w1 2 ?_
      refine J_ret ?_
      refine ⟨.inl rfl, _, rfl, .ofI ?_, trivial⟩
      simp_all [mForm]
    · intro h7
      replace h7 := of_decide_eq_false h7
      refine u rfl rfl asg ?_
      refine jd ?_
      refine w3 2 3 6 ?_
      refine J_condF rfl ?_
      refine js ?_
      refine JR.runB rfl rfl (r_eqI rfl rfl rfl rfl) ?_ ?_
      · intro h9
        replace h9 := of_decide_eq_true h9
        refine u rfl rfl asg ?_
        refine jd ?_
        refine w2 2 8 ?_
        refine J_condT rfl ?_
        refine js ?_
        refine u rfl rfl asg ?_
        refine jd ?_
        refine w1 2 ?_
        refine J_ret ?_
        refine ⟨.inl rfl, _, rfl, .ofI ?_, trivial⟩
        simp_all [mForm]
      · intro h9
        replace h9 := of_decide_eq_false h9
        refine u rfl rfl asg ?_
        refine jd ?_
        refine w2 2 8 ?_
        refine J_condF rfl ?_
        refine J_skip ?_
        refine js ?_
        refine u rfl rfl asg ?_
        refine jd ?_
        refine w1 2 ?_
        refine J_ret ?_
        refine ⟨.inl rfl, _, rfl, .ofI ?_, trivial⟩
        simp_all [mForm]

theorem kRFormer (k : Int) : Con Tryz.prog 82 [.c (.lit (.int .i64 k))] [] (.c (.lit (.int .i64 (mForm k)))) [] := by
  refine con_intro rfl rfl (by kernel_rfl) (by kernel_rfl) ?_
  refine js ?_
  refine u rfl rfl asg ?_
  refine jd ?_
  refine w2 0 2 ?_
  refine J_seq ?_
  refine js ?_
  refine u rfl rfl mv ?_
  refine jd ?_
  refine w2 2 3 ?_
  refine J_block ?_
  refine js ?_
  refine JR.runB rfl rfl (r_eqI rfl rfl rfl rfl) ?_ ?_
  · intro h5
    replace h5 := of_decide_eq_true h5
    refine u rfl rfl asg ?_
    refine jd ?_
    refine w3 2 3 4 ?_
    refine J_condT rfl ?_
    refine js ?_
    refine u rfl rfl asg ?_
    refine jd ?_
    refine w1 2 ?_
    refine J_ret ?_
    refine ⟨.inl rfl, _, rfl, .ofI ?_, trivial⟩
    simp_all [mForm]
  · intro h5
    replace h5 := of_decide_eq_false h5
    refine u rfl rfl asg ?_
    refine jd ?_
    refine w3 2 3 4 ?_
    refine J_condF rfl ?_
    refine js ?_
    refine JR.runB rfl rfl (r_eqI rfl rfl rfl rfl) ?_ ?_
    · intro h7
      replace h7 := of_decide_eq_true h7
      refine u rfl rfl asg ?_
      refine jd ?_
      refine w3 2 3 6 ?_
      refine J_condT rfl ?_
      refine js ?_
      refine u rfl rfl asg ?_
      refine jd ?_
      refine w1 2 ?_
      refine J_ret ?_
      refine ⟨.inl rfl, _, rfl, .ofI ?_, trivial⟩
      simp_all [mForm]
    · intro h7
      replace h7 := of_decide_eq_false h7
      refine u rfl rfl asg ?_
      refine jd ?_
      refine w3 2 3 6 ?_
      refine J_condF rfl ?_
      refine js ?_
      refine JR.runB rfl rfl (r_eqI rfl rfl rfl rfl) ?_ ?_
      · intro h9
        replace h9 := of_decide_eq_true h9
        refine u rfl rfl asg ?_
        refine jd ?_
        refine w2 2 8 ?_
        refine J_condT rfl ?_
        refine js ?_
        refine u rfl rfl asg ?_
        refine jd ?_
        refine w1 2 ?_
        refine J_ret ?_
        refine ⟨.inl rfl, _, rfl, .ofI ?_, trivial⟩
        simp_all [mForm]
      · intro h9
        replace h9 := of_decide_eq_false h9
        refine u rfl rfl asg ?_
        refine jd ?_
        refine w2 2 8 ?_
        refine J_condF rfl ?_
        refine J_skip ?_
        refine js ?_
        refine u rfl rfl asg ?_
        refine jd ?_
        refine w1 2 ?_
        refine J_ret ?_
        refine ⟨.inl rfl, _, rfl, .ofI ?_, trivial⟩
        simp_all [mForm]

theorem mKids_head {k : Int} (h : 0 ≤ mKids k) (h5 : k ≠ 5) (h6 : k ≠ 6) : mHead k = true := by
  unfold mKids at h
  repeat' split at h
  all_goals first | (subst_vars; rfl) | omega | contradiction
theorem mKids_not {k : Int} (h : mHead k = true) : 0 ≤ mKids k := by
  simp only [mHead, Bool.or_eq_true, decide_eq_true_eq] at h
  rcases h with (((((rfl | rfl) | rfl) | rfl) | rfl) | rfl) | rfl <;> decide
theorem kRHead (k : Int) : Con Tryz.prog 90 [.c (.lit (.int .i64 k))] [] (.c (.lit (.bool (mHead k)))) [] := by
  refine con_intro rfl rfl (by kernel_rfl) (by kernel_rfl) ?_
  refine js ?_
  refine u rfl rfl asg ?_
  refine jd ?_
  refine w2 0 2 ?_
  refine js ?_
  refine u rfl rfl mv ?_
  refine u rfl rfl (cl (kKids k)) ?_
  refine JR.runB rfl rfl (r_geI rfl rfl rfl rfl) ?_ ?_
  · intro h5
    replace h5 := of_decide_eq_true h5
    refine u rfl rfl mv ?_
    refine u rfl rfl mv ?_
    refine JR.runB rfl rfl (r_neI rfl rfl rfl rfl) ?_ ?_
    · intro h8
      replace h8 := of_decide_eq_false (nT h8)
      refine u rfl rfl pT ?_
      refine u rfl rfl mv ?_
      refine u rfl rfl mv ?_
      refine JR.runB rfl rfl (r_neI rfl rfl rfl rfl) ?_ ?_
      · intro h12
        replace h12 := of_decide_eq_false (nT h12)
        refine u rfl rfl pT ?_
        refine u rfl rfl asg ?_
        refine jd ?_
        refine w1 2 ?_
        refine J_ret ?_
        refine ⟨.inl rfl, _, rfl, .ofB ?_, trivial⟩
        first | exact (mKids_head (by omega) (by simp_all) (by simp_all)) | exact (mKids_head (by omega) (by simp_all) (by simp_all)).symm | (subst_vars; rfl) | (rw [Bool.eq_false_iff]; intro e; have := mKids_not e; omega) | (symm; rw [Bool.eq_false_iff]; intro e; have := mKids_not e; omega)
      · intro h12
        replace h12 := of_decide_eq_true (nF h12)
        refine u rfl rfl pT ?_
        refine u rfl rfl asg ?_
        refine jd ?_
        refine w1 2 ?_
        refine J_ret ?_
        refine ⟨.inl rfl, _, rfl, .ofB ?_, trivial⟩
        first | exact (mKids_head (by omega) (by simp_all) (by simp_all)) | exact (mKids_head (by omega) (by simp_all) (by simp_all)).symm | (subst_vars; rfl) | (rw [Bool.eq_false_iff]; intro e; have := mKids_not e; omega) | (symm; rw [Bool.eq_false_iff]; intro e; have := mKids_not e; omega)
    · intro h8
      replace h8 := of_decide_eq_true (nF h8)
      refine u rfl rfl pT ?_
      refine u rfl rfl mv ?_
      refine sk ?_
      refine sk ?_
      refine u rfl rfl pF ?_
      refine u rfl rfl asg ?_
      refine jd ?_
      refine w1 2 ?_
      refine J_ret ?_
      refine ⟨.inl rfl, _, rfl, .ofB ?_, trivial⟩
      first | exact (mKids_head (by omega) (by simp_all) (by simp_all)) | exact (mKids_head (by omega) (by simp_all) (by simp_all)).symm | (subst_vars; rfl) | (rw [Bool.eq_false_iff]; intro e; have := mKids_not e; omega) | (symm; rw [Bool.eq_false_iff]; intro e; have := mKids_not e; omega)
  · intro h5
    replace h5 := of_decide_eq_false h5
    refine u rfl rfl mv ?_
    refine sk ?_
    refine sk ?_
    refine u rfl rfl pF ?_
    refine u rfl rfl mv ?_
    refine sk ?_
    refine sk ?_
    refine u rfl rfl pF ?_
    refine u rfl rfl asg ?_
    refine jd ?_
    refine w1 2 ?_
    refine J_ret ?_
    refine ⟨.inl rfl, _, rfl, .ofB ?_, trivial⟩
    first | exact (mKids_head (by omega) (by simp_all) (by simp_all)) | exact (mKids_head (by omega) (by simp_all) (by simp_all)).symm | (subst_vars; rfl) | (rw [Bool.eq_false_iff]; intro e; have := mKids_not e; omega) | (symm; rw [Bool.eq_false_iff]; intro e; have := mKids_not e; omega)

theorem kNone : ∀ (c : Co), c.size ≤ 1000000000 → Con Tryz.prog 68 [.agg (coX c)] [] (.c (.lit (.bool (cNone c)))) [] := by
    rintro ⟨k, h, l, g, ks⟩ hs
    have hlt : ks.length ≤ 1000000000 := by have := (Co.mk k h l g ks).kids_lt; simp only [Co.kids] at this; omega
    have hl := cosD_len ks
    show Con Tryz.prog 68 [.agg [.lit (.int .i64 k), .lit (.int .i64 h), .lit (.int .i64 l), .lit (.bool g), .sl 5 (cosD ks)]] [] _ []
    refine con_intro rfl rfl (by kernel_rfl) (by kernel_rfl) ?_
    refine js ?_
    refine u rfl rfl (r_boxA (x := 2001) rfl rfl rfl rfl) ?_
    refine u rfl rfl asg ?_
    refine jd ?_
    refine w3 1 2 2001 ?_
    refine js ?_
    refine u rfl rfl (fA 0 1) ?_
    refine u rfl rfl ld ?_
    refine JR.runB rfl rfl (r_eqI rfl rfl rfl rfl) ?_ ?_
    · intro h5
      replace h5 := of_decide_eq_true h5
      refine u rfl rfl mv ?_
      refine u rfl rfl (fA 1 1) ?_
      refine u rfl rfl ld ?_
      refine JR.runB rfl rfl (r_eqI rfl rfl rfl rfl) ?_ ?_
      · intro h9
        replace h9 := of_decide_eq_true h9
        refine u rfl rfl pT ?_
        refine u rfl rfl mv ?_
        refine u rfl rfl (fA 2 1) ?_
        refine u rfl rfl ld ?_
        refine JR.runB rfl rfl (r_eqI rfl rfl rfl rfl) ?_ ?_
        · intro h14
          replace h14 := of_decide_eq_true h14
          refine u rfl rfl pT ?_
          refine u rfl rfl mv ?_
          refine u rfl rfl (fA 3 1) ?_
          refine u rfl rfl ld ?_
          refine u rfl rfl nt ?_
          refine u rfl rfl pT ?_
          refine u rfl rfl mv ?_
          cases g
          · skip
            refine u rfl rfl (fA 4 1) ?_
            refine u rfl rfl ld ?_
            refine u rfl rfl ln0 ?_
            refine JR.runB rfl rfl (r_eqI rfl rfl rfl rfl) ?_ ?_
            · intro h25
              replace h25 := of_decide_eq_true h25
              refine u rfl rfl pT ?_
              refine u rfl rfl asg ?_
              refine jd ?_
              refine w1 2 ?_
              refine J_ret ?_
              refine ⟨.inl rfl, _, rfl, .ofB ?_, trivial⟩
              simp_all [cNone, ck1, ck2, ck3, ck4, ck5, cosD_len]
            · intro h25
              replace h25 := of_decide_eq_false h25
              refine u rfl rfl pT ?_
              refine u rfl rfl asg ?_
              refine jd ?_
              refine w1 2 ?_
              refine J_ret ?_
              refine ⟨.inl rfl, _, rfl, .ofB ?_, trivial⟩
              simp_all [cNone, ck1, ck2, ck3, ck4, ck5, cosD_len]
          · skip
            refine sk ?_
            refine sk ?_
            refine sk ?_
            refine sk ?_
            refine u rfl rfl pF ?_
            refine u rfl rfl asg ?_
            refine jd ?_
            refine w1 2 ?_
            refine J_ret ?_
            refine ⟨.inl rfl, _, rfl, .ofB ?_, trivial⟩
            simp_all [cNone, ck1, ck2, ck3, ck4, ck5, cosD_len]
        · intro h14
          replace h14 := of_decide_eq_false h14
          refine u rfl rfl pT ?_
          refine u rfl rfl mv ?_
          refine sk ?_
          refine sk ?_
          refine sk ?_
          refine u rfl rfl pF ?_
          refine u rfl rfl mv ?_
          refine sk ?_
          refine sk ?_
          refine sk ?_
          refine sk ?_
          refine u rfl rfl pF ?_
          refine u rfl rfl asg ?_
          refine jd ?_
          refine w1 2 ?_
          refine J_ret ?_
          refine ⟨.inl rfl, _, rfl, .ofB ?_, trivial⟩
          simp_all [cNone, ck1, ck2, ck3, ck4, ck5, cosD_len]
      · intro h9
        replace h9 := of_decide_eq_false h9
        refine u rfl rfl pT ?_
        refine u rfl rfl mv ?_
        refine sk ?_
        refine sk ?_
        refine sk ?_
        refine u rfl rfl pF ?_
        refine u rfl rfl mv ?_
        refine sk ?_
        refine sk ?_
        refine sk ?_
        refine u rfl rfl pF ?_
        refine u rfl rfl mv ?_
        refine sk ?_
        refine sk ?_
        refine sk ?_
        refine sk ?_
        refine u rfl rfl pF ?_
        refine u rfl rfl asg ?_
        refine jd ?_
        refine w1 2 ?_
        refine J_ret ?_
        refine ⟨.inl rfl, _, rfl, .ofB ?_, trivial⟩
        simp_all [cNone, ck1, ck2, ck3, ck4, ck5, cosD_len]
    · intro h5
      replace h5 := of_decide_eq_false h5
      refine u rfl rfl mv ?_
      refine sk ?_
      refine sk ?_
      refine sk ?_
      refine u rfl rfl pF ?_
      refine u rfl rfl mv ?_
      refine sk ?_
      refine sk ?_
      refine sk ?_
      refine u rfl rfl pF ?_
      refine u rfl rfl mv ?_
      refine sk ?_
      refine sk ?_
      refine sk ?_
      refine u rfl rfl pF ?_
      refine u rfl rfl mv ?_
      refine sk ?_
      refine sk ?_
      refine sk ?_
      refine sk ?_
      refine u rfl rfl pF ?_
      refine u rfl rfl asg ?_
      refine jd ?_
      refine w1 2 ?_
      refine J_ret ?_
      refine ⟨.inl rfl, _, rfl, .ofB ?_, trivial⟩
      simp_all [cNone, ck1, ck2, ck3, ck4, ck5, cosD_len]

theorem kRNone : ∀ (c : Co), c.size ≤ 1000000000 → Con Tryz.prog 74 [.agg (coX c)] [] (.c (.lit (.bool (cNone c)))) [] := by
    rintro ⟨k, h, l, g, ks⟩ hs
    have hlt : ks.length ≤ 1000000000 := by have := (Co.mk k h l g ks).kids_lt; simp only [Co.kids] at this; omega
    have hl := cosD_len ks
    show Con Tryz.prog 74 [.agg [.lit (.int .i64 k), .lit (.int .i64 h), .lit (.int .i64 l), .lit (.bool g), .sl 5 (cosD ks)]] [] _ []
    refine con_intro rfl rfl (by kernel_rfl) (by kernel_rfl) ?_
    refine js ?_
    refine u rfl rfl (r_boxA (x := 2001) rfl rfl rfl rfl) ?_
    refine u rfl rfl asg ?_
    refine jd ?_
    refine w3 1 2 2001 ?_
    refine js ?_
    refine u rfl rfl (fA 0 1) ?_
    refine u rfl rfl ld ?_
    refine JR.runB rfl rfl (r_eqI rfl rfl rfl rfl) ?_ ?_
    · intro h5
      replace h5 := of_decide_eq_true h5
      refine u rfl rfl mv ?_
      refine u rfl rfl (fA 1 1) ?_
      refine u rfl rfl ld ?_
      refine JR.runB rfl rfl (r_eqI rfl rfl rfl rfl) ?_ ?_
      · intro h9
        replace h9 := of_decide_eq_true h9
        refine u rfl rfl pT ?_
        refine u rfl rfl mv ?_
        refine u rfl rfl (fA 2 1) ?_
        refine u rfl rfl ld ?_
        refine JR.runB rfl rfl (r_eqI rfl rfl rfl rfl) ?_ ?_
        · intro h14
          replace h14 := of_decide_eq_true h14
          refine u rfl rfl pT ?_
          refine u rfl rfl mv ?_
          refine u rfl rfl (fA 3 1) ?_
          refine u rfl rfl ld ?_
          refine u rfl rfl nt ?_
          refine u rfl rfl pT ?_
          refine u rfl rfl mv ?_
          cases g
          · skip
            refine u rfl rfl (fA 4 1) ?_
            refine u rfl rfl ld ?_
            refine u rfl rfl ln0 ?_
            refine JR.runB rfl rfl (r_eqI rfl rfl rfl rfl) ?_ ?_
            · intro h25
              replace h25 := of_decide_eq_true h25
              refine u rfl rfl pT ?_
              refine u rfl rfl asg ?_
              refine jd ?_
              refine w1 2 ?_
              refine J_ret ?_
              refine ⟨.inl rfl, _, rfl, .ofB ?_, trivial⟩
              simp_all [cNone, ck1, ck2, ck3, ck4, ck5, cosD_len]
            · intro h25
              replace h25 := of_decide_eq_false h25
              refine u rfl rfl pT ?_
              refine u rfl rfl asg ?_
              refine jd ?_
              refine w1 2 ?_
              refine J_ret ?_
              refine ⟨.inl rfl, _, rfl, .ofB ?_, trivial⟩
              simp_all [cNone, ck1, ck2, ck3, ck4, ck5, cosD_len]
          · skip
            refine sk ?_
            refine sk ?_
            refine sk ?_
            refine sk ?_
            refine u rfl rfl pF ?_
            refine u rfl rfl asg ?_
            refine jd ?_
            refine w1 2 ?_
            refine J_ret ?_
            refine ⟨.inl rfl, _, rfl, .ofB ?_, trivial⟩
            simp_all [cNone, ck1, ck2, ck3, ck4, ck5, cosD_len]
        · intro h14
          replace h14 := of_decide_eq_false h14
          refine u rfl rfl pT ?_
          refine u rfl rfl mv ?_
          refine sk ?_
          refine sk ?_
          refine sk ?_
          refine u rfl rfl pF ?_
          refine u rfl rfl mv ?_
          refine sk ?_
          refine sk ?_
          refine sk ?_
          refine sk ?_
          refine u rfl rfl pF ?_
          refine u rfl rfl asg ?_
          refine jd ?_
          refine w1 2 ?_
          refine J_ret ?_
          refine ⟨.inl rfl, _, rfl, .ofB ?_, trivial⟩
          simp_all [cNone, ck1, ck2, ck3, ck4, ck5, cosD_len]
      · intro h9
        replace h9 := of_decide_eq_false h9
        refine u rfl rfl pT ?_
        refine u rfl rfl mv ?_
        refine sk ?_
        refine sk ?_
        refine sk ?_
        refine u rfl rfl pF ?_
        refine u rfl rfl mv ?_
        refine sk ?_
        refine sk ?_
        refine sk ?_
        refine u rfl rfl pF ?_
        refine u rfl rfl mv ?_
        refine sk ?_
        refine sk ?_
        refine sk ?_
        refine sk ?_
        refine u rfl rfl pF ?_
        refine u rfl rfl asg ?_
        refine jd ?_
        refine w1 2 ?_
        refine J_ret ?_
        refine ⟨.inl rfl, _, rfl, .ofB ?_, trivial⟩
        simp_all [cNone, ck1, ck2, ck3, ck4, ck5, cosD_len]
    · intro h5
      replace h5 := of_decide_eq_false h5
      refine u rfl rfl mv ?_
      refine sk ?_
      refine sk ?_
      refine sk ?_
      refine u rfl rfl pF ?_
      refine u rfl rfl mv ?_
      refine sk ?_
      refine sk ?_
      refine sk ?_
      refine u rfl rfl pF ?_
      refine u rfl rfl mv ?_
      refine sk ?_
      refine sk ?_
      refine sk ?_
      refine u rfl rfl pF ?_
      refine u rfl rfl mv ?_
      refine sk ?_
      refine sk ?_
      refine sk ?_
      refine sk ?_
      refine u rfl rfl pF ?_
      refine u rfl rfl asg ?_
      refine jd ?_
      refine w1 2 ?_
      refine J_ret ?_
      refine ⟨.inl rfl, _, rfl, .ofB ?_, trivial⟩
      simp_all [cNone, ck1, ck2, ck3, ck4, ck5, cosD_len]

theorem kWithin {q : Co → Bool} (c : Co) (hd : Int) (hc : Con Tryz.prog 92 [.agg (coX c)] [] (.c (.lit (.bool (q c)))) []) : Con Tryz.prog 100 [.agg (coX c), .c (.lit (.int .i64 hd))] [] (.c (.lit (.bool (coW q c hd)))) [] := by
  refine con_intro rfl rfl (by kernel_rfl) (by kernel_rfl) ?_
  refine js ?_
  refine u rfl rfl (r_boxA (x := 2002) rfl rfl rfl rfl) ?_
  refine u rfl rfl asg ?_
  refine jd ?_
  refine w4 1 2 4 2002 ?_
  refine js ?_
  refine u rfl rfl (fA 0 1) ?_
  refine u rfl rfl ld ?_
  refine JR.runB rfl rfl (r_eqI rfl rfl rfl rfl) ?_ ?_
  · intro h7
    replace h7 := of_decide_eq_true h7
    refine u rfl rfl mv ?_
    refine sk ?_
    refine sk ?_
    refine sk ?_
    refine sk ?_
    refine sk ?_
    refine u rfl rfl pT ?_
    refine u rfl rfl mv ?_
    refine u rfl rfl (lA 5) ?_
    refine JR.runC rfl rfl (cl (hc)) rfl ?_ ?_
    · intro h17
      refine u rfl rfl pT ?_
      refine u rfl rfl asg ?_
      refine jd ?_
      refine w1 4 ?_
      refine J_ret ?_
      refine ⟨.inl rfl, _, rfl, .ofB ?_, trivial⟩
      simp_all [coW]
    · intro h17
      refine u rfl rfl pT ?_
      refine u rfl rfl asg ?_
      refine jd ?_
      refine w1 4 ?_
      refine J_ret ?_
      refine ⟨.inl rfl, _, rfl, .ofB ?_, trivial⟩
      simp_all [coW]
  · intro h7
    replace h7 := of_decide_eq_false h7
    refine u rfl rfl mv ?_
    refine u rfl rfl (fA 0 1) ?_
    refine u rfl rfl ld ?_
    refine u rfl rfl (cl (kFormer c.kind)) ?_
    refine u rfl rfl mv ?_
    refine JR.runB rfl rfl (r_eqI rfl rfl rfl rfl) ?_ ?_
    · intro h13
      replace h13 := of_decide_eq_true h13
      refine u rfl rfl pF ?_
      refine u rfl rfl mv ?_
      refine u rfl rfl (lA 5) ?_
      refine JR.runC rfl rfl (cl (hc)) rfl ?_ ?_
      · intro h17
        refine u rfl rfl pT ?_
        refine u rfl rfl asg ?_
        refine jd ?_
        refine w1 4 ?_
        refine J_ret ?_
        refine ⟨.inl rfl, _, rfl, .ofB ?_, trivial⟩
        simp_all [coW]
      · intro h17
        refine u rfl rfl pT ?_
        refine u rfl rfl asg ?_
        refine jd ?_
        refine w1 4 ?_
        refine J_ret ?_
        refine ⟨.inl rfl, _, rfl, .ofB ?_, trivial⟩
        simp_all [coW]
    · intro h13
      replace h13 := of_decide_eq_false h13
      refine u rfl rfl pF ?_
      refine u rfl rfl mv ?_
      refine sk ?_
      refine sk ?_
      refine u rfl rfl pF ?_
      refine u rfl rfl asg ?_
      refine jd ?_
      refine w1 4 ?_
      refine J_ret ?_
      refine ⟨.inl rfl, _, rfl, .ofB ?_, trivial⟩
      simp_all [coW]

theorem kPlain {q : Co → Bool} (c : Co) (hd : Int) (hc : Con Tryz.prog 80 [.agg (coX c)] [] (.c (.lit (.bool (q c)))) []) : Con Tryz.prog 91 [.agg (coX c), .c (.lit (.int .i64 hd))] [] (.c (.lit (.bool (coW q c hd)))) [] := by
  refine con_intro rfl rfl (by kernel_rfl) (by kernel_rfl) ?_
  refine js ?_
  refine u rfl rfl (r_boxA (x := 2002) rfl rfl rfl rfl) ?_
  refine u rfl rfl asg ?_
  refine jd ?_
  refine w4 1 2 4 2002 ?_
  refine js ?_
  refine u rfl rfl (fA 0 1) ?_
  refine u rfl rfl ld ?_
  refine JR.runB rfl rfl (r_eqI rfl rfl rfl rfl) ?_ ?_
  · intro h7
    replace h7 := of_decide_eq_true h7
    refine u rfl rfl mv ?_
    refine sk ?_
    refine sk ?_
    refine sk ?_
    refine sk ?_
    refine sk ?_
    refine u rfl rfl pT ?_
    refine u rfl rfl mv ?_
    refine u rfl rfl (lA 5) ?_
    refine JR.runC rfl rfl (cl (hc)) rfl ?_ ?_
    · intro h17
      refine u rfl rfl pT ?_
      refine u rfl rfl asg ?_
      refine jd ?_
      refine w1 4 ?_
      refine J_ret ?_
      refine ⟨.inl rfl, _, rfl, .ofB ?_, trivial⟩
      simp_all [coW]
    · intro h17
      refine u rfl rfl pT ?_
      refine u rfl rfl asg ?_
      refine jd ?_
      refine w1 4 ?_
      refine J_ret ?_
      refine ⟨.inl rfl, _, rfl, .ofB ?_, trivial⟩
      simp_all [coW]
  · intro h7
    replace h7 := of_decide_eq_false h7
    refine u rfl rfl mv ?_
    refine u rfl rfl (fA 0 1) ?_
    refine u rfl rfl ld ?_
    refine u rfl rfl (cl (kRFormer c.kind)) ?_
    refine u rfl rfl mv ?_
    refine JR.runB rfl rfl (r_eqI rfl rfl rfl rfl) ?_ ?_
    · intro h13
      replace h13 := of_decide_eq_true h13
      refine u rfl rfl pF ?_
      refine u rfl rfl mv ?_
      refine u rfl rfl (lA 5) ?_
      refine JR.runC rfl rfl (cl (hc)) rfl ?_ ?_
      · intro h17
        refine u rfl rfl pT ?_
        refine u rfl rfl asg ?_
        refine jd ?_
        refine w1 4 ?_
        refine J_ret ?_
        refine ⟨.inl rfl, _, rfl, .ofB ?_, trivial⟩
        simp_all [coW]
      · intro h17
        refine u rfl rfl pT ?_
        refine u rfl rfl asg ?_
        refine jd ?_
        refine w1 4 ?_
        refine J_ret ?_
        refine ⟨.inl rfl, _, rfl, .ofB ?_, trivial⟩
        simp_all [coW]
    · intro h13
      replace h13 := of_decide_eq_false h13
      refine u rfl rfl pF ?_
      refine u rfl rfl mv ?_
      refine sk ?_
      refine sk ?_
      refine u rfl rfl pF ?_
      refine u rfl rfl asg ?_
      refine jd ?_
      refine w1 4 ?_
      refine J_ret ?_
      refine ⟨.inl rfl, _, rfl, .ofB ?_, trivial⟩
      simp_all [coW]

theorem allId_step {l : List Co} {i : Nat} {x : Co} (hx : l[i]? = some x) (p : Co → Bool) : (l.drop i).all p = (p x && (l.drop (i + 1)).all p) := by rw [drop_get hx, List.all_cons]
theorem kFormed {q : Co → Bool} : ∀ (c : Co), c.size ≤ 1000000000 → (∀ x, x ∈ c.kids → Con Tryz.prog 92 [.agg (coX x)] [] (.c (.lit (.bool (q x)))) []) → Con Tryz.prog 101 [.agg (coX c)] [] (.c (.lit (.bool (coF q c)))) [] := by
    rintro ⟨k, h, l, g, ks⟩ hs hC
    have hlt : ks.length ≤ 1000000000 := by have := (Co.mk k h l g ks).kids_lt; simp only [Co.kids] at this; omega
    have hl := cosD_len ks
    replace hC : ∀ x, x ∈ ks → Con Tryz.prog 92 [.agg (coX x)] [] (.c (.lit (.bool (q x)))) [] := hC
    show Con Tryz.prog 101 [.agg [.lit (.int .i64 k), .lit (.int .i64 h), .lit (.int .i64 l), .lit (.bool g), .sl 5 (cosD ks)]] [] _ []
    refine con_intro rfl rfl (by kernel_rfl) (by kernel_rfl) ?_
    refine js ?_
    refine u rfl rfl (r_boxA (x := 2001) rfl rfl rfl rfl) ?_
    refine u rfl rfl asg ?_
    refine jd ?_
    refine w3 1 2 2001 ?_
    refine js ?_
    refine u rfl rfl asg ?_
    refine jd ?_
    refine w4 1 2 3 2001 ?_
    refine J_seq ?_
    refine js ?_
    refine u rfl rfl (fA 0 1) ?_
    refine u rfl rfl ld ?_
    refine JR.runB rfl rfl (r_eqI rfl rfl rfl rfl) ?_ ?_
    · intro h9
      replace h9 := of_decide_eq_true h9
      refine jd ?_
      refine w5 1 2 3 9 2001 ?_
      refine J_condT rfl ?_
      refine JR.start ?_
      refine u rfl rfl asg ?_
      refine jd ?_
      refine w4 1 2 3 2001 ?_
      refine J_seq ?_
      refine js ?_
      refine u rfl rfl (fA 4 1) ?_
      refine u rfl rfl ld ?_
      refine u rfl rfl ln0 ?_
      refine u rfl rfl mv ?_
      refine JR.runB rfl rfl (r_neI rfl rfl rfl rfl) ?_ ?_
      · intro h14
        replace h14 := of_decide_eq_false (nT h14)
        refine u rfl rfl mv ?_
        refine sk ?_
        refine sk ?_
        refine sk ?_
        refine u rfl rfl pT ?_
        refine u rfl rfl mv ?_
        refine sk ?_
        refine sk ?_
        refine sk ?_
        refine u rfl rfl pT ?_
        refine u rfl rfl mv ?_
        refine sk ?_
        refine sk ?_
        refine u rfl rfl pT ?_
        refine jd ?_
        refine w5 1 2 3 28 2001 ?_
        refine J_condT rfl ?_
        refine js ?_
        refine u rfl rfl asg ?_
        refine jd ?_
        refine w4 1 2 3 2001 ?_
        refine J_ret ?_
        refine ⟨.inl rfl, _, rfl, .ofB ?_, trivial⟩
        simp_all [coF, ck1, ck2, ck3, ck4, ck5, cosD_len]
      · intro h14
        replace h14 := of_decide_eq_true (nF h14)
        refine u rfl rfl mv ?_
        refine u rfl rfl (fA 1 1) ?_
        refine u rfl rfl ld ?_
        refine JR.runB rfl rfl (r_neI rfl rfl rfl rfl) ?_ ?_
        · intro h18
          replace h18 := of_decide_eq_false (nT h18)
          refine u rfl rfl pF ?_
          refine u rfl rfl mv ?_
          refine sk ?_
          refine sk ?_
          refine sk ?_
          refine u rfl rfl pT ?_
          refine u rfl rfl mv ?_
          refine sk ?_
          refine sk ?_
          refine u rfl rfl pT ?_
          refine jd ?_
          refine w5 1 2 3 28 2001 ?_
          refine J_condT rfl ?_
          refine js ?_
          refine u rfl rfl asg ?_
          refine jd ?_
          refine w4 1 2 3 2001 ?_
          refine J_ret ?_
          refine ⟨.inl rfl, _, rfl, .ofB ?_, trivial⟩
          simp_all [coF, ck1, ck2, ck3, ck4, ck5, cosD_len]
        · intro h18
          replace h18 := of_decide_eq_true (nF h18)
          refine u rfl rfl pF ?_
          refine u rfl rfl mv ?_
          refine u rfl rfl (fA 2 1) ?_
          refine u rfl rfl ld ?_
          refine JR.runB rfl rfl (r_neI rfl rfl rfl rfl) ?_ ?_
          · intro h23
            replace h23 := of_decide_eq_false (nT h23)
            refine u rfl rfl pF ?_
            refine u rfl rfl mv ?_
            refine sk ?_
            refine sk ?_
            refine u rfl rfl pT ?_
            refine jd ?_
            refine w5 1 2 3 28 2001 ?_
            refine J_condT rfl ?_
            refine js ?_
            refine u rfl rfl asg ?_
            refine jd ?_
            refine w4 1 2 3 2001 ?_
            refine J_ret ?_
            refine ⟨.inl rfl, _, rfl, .ofB ?_, trivial⟩
            simp_all [coF, ck1, ck2, ck3, ck4, ck5, cosD_len]
          · intro h23
            replace h23 := of_decide_eq_true (nF h23)
            refine u rfl rfl pF ?_
            refine u rfl rfl mv ?_
            refine u rfl rfl (fA 3 1) ?_
            refine u rfl rfl ld ?_
            refine u rfl rfl pF ?_
            refine jd ?_
            refine w5 1 2 3 28 2001 ?_
            cases g
            · skip
              refine J_condF rfl ?_
              refine J_skip ?_
              refine js ?_
              refine u rfl rfl asg ?_
              refine jd ?_
              refine w5 1 2 3 4 2001 ?_
              refine J_seq ?_
              refine js ?_
              refine u rfl rfl (fA 4 1) ?_
              refine u rfl rfl ld ?_
              refine u rfl rfl ln0 ?_
              refine u rfl rfl mv ?_
              refine jd ?_
              refine w6 2 3 4 30 31 32 ?_
              refine J_block ?_
              refine J_loopF (α := { p : Nat × Nat // p.1 ≤ ks.length ∧ p.2 ≤ p.1 ∧ ks.all q = (ks.drop p.1).all q ∧ (ks.all fun k => decide (k.kind = 1)) = (decide (p.2 = p.1) && (ks.drop p.1).all fun k => decide (k.kind = 1)) }) (fun p => [(32, .c (.lit (.int .i64 (p.1.1 : Int)))), (4, .c (.lit (.int .i64 (p.1.2 : Int))))]) [(2, _), (3, _), (30, _), (31, _)] (fun p => ks.length - p.1.1) ⟨(0, 0), Nat.zero_le _, Nat.le_refl _, rfl, by simp⟩ ⟨rfl, rfl, rfl, rfl, rfl, rfl, trivial⟩ ?_
              rintro ⟨⟨i, n⟩, hi, hn, hI, hJ⟩
              dsimp only at hi hn hI hJ ⊢
              refine js ?_
              refine JR.runB rfl rfl (r_ltI rfl rfl rfl rfl) ?_ ?_
              · intro h33
                replace h33 := of_decide_eq_true h33
                obtain ⟨x, hx⟩ := get_some (l := ks) (i := i) (by omega)
                refine jd ?_
                refine w7 2 3 4 30 31 32 33 ?_
                refine J_seq ?_
                refine J_condT rfl ?_
                refine J_skip ?_
                refine J_seq ?_
                refine J_block ?_
                refine js ?_
                refine u rfl rfl (r_indexAddr (e := 27) (sz := 5) rfl rfl (by kernel_rfl) rfl rfl (by omega) (cosD_at hx)) ?_
                refine u rfl rfl (eA 5) ?_
                refine u rfl rfl (r_alloc (x := 2006) (zs := [.int .i64 0, .int .i64 0, .int .i64 0, .bool false, .slice none 0 0]) [.lit (.int .i64 0), .lit (.int .i64 0), .lit (.int .i64 0), .lit (.bool false), .sl 5 []] rfl rfl rfl (by kernel_rfl) ⟨.refl _, .refl _, .refl _, .refl _, .nil _, trivial⟩) ?_
                refine u rfl rfl sA ?_
                refine jd ?_
                refine w11 2 3 4 6 30 31 32 33 34 35 2006 ?_
                refine J_seq ?_
                refine js ?_
                refine u rfl rfl (lA 5) ?_
                refine JR.runC rfl rfl (cl (hC x (List.mem_of_getElem? hx))) rfl ?_ ?_
                · intro h37
                  refine u rfl rfl nt ?_
                  refine jd ?_
                  refine w14 2 3 4 6 30 31 32 33 34 35 36 37 38 2006 ?_
                  refine J_condF rfl ?_
                  refine J_skip ?_
                  refine js ?_
                  refine u rfl rfl (fA 0 1) ?_
                  refine u rfl rfl ld ?_
                  refine JR.runB rfl rfl (r_eqI rfl rfl rfl rfl) ?_ ?_
                  · intro h41
                    replace h41 := of_decide_eq_true h41
                    refine jd ?_
                    refine w17 2 3 4 6 30 31 32 33 34 35 36 37 38 39 40 41 2006 ?_
                    refine J_condT rfl ?_
                    refine JR.start ?_
                    refine u rfl rfl mv ?_
                    refine u rfl rfl (r_addI rfl rfl rfl rfl (by omega)) ?_
                    refine u rfl rfl asg ?_
                    refine jd ?_
                    refine J_weak [(2, _), (3, _), (4, _), (6, _), (30, _), (31, _), (32, _), (33, _), (34, _), (35, _), (36, _), (37, _), (38, _), (39, _), (40, _), (41, _), (42, _), (43, _), (2006, _)] ⟨rfl, rfl, rfl, rfl, rfl, rfl, rfl, rfl, rfl, rfl, rfl, rfl, rfl, rfl, rfl, rfl, rfl, rfl, rfl, trivial⟩ ?_
                    refine JR.start ?_
                    refine u rfl rfl (r_addI rfl rfl rfl rfl (by omega)) ?_
                    refine u rfl rfl mv ?_
                    refine jd ?_
                    refine ⟨⟨(i + 1, n + 1), by simp only; omega, by simp only; omega, by rw [hI, allId_step hx q, h37, Bool.true_and], by rw [hJ, allId_step hx fun k => decide (k.kind = 1)]; simp only [h41, decide_true, decide_false, Bool.true_and, Bool.false_and, Bool.and_false]; simp; try omega⟩, by simp only; omega, rfl, rfl, rfl, rfl, rfl, rfl, trivial⟩
                  · intro h41
                    replace h41 := of_decide_eq_false h41
                    refine jd ?_
                    refine w17 2 3 4 6 30 31 32 33 34 35 36 37 38 39 40 41 2006 ?_
                    refine J_condF rfl ?_
                    refine J_skip ?_
                    refine JR.start ?_
                    refine u rfl rfl (r_addI rfl rfl rfl rfl (by omega)) ?_
                    refine u rfl rfl mv ?_
                    refine jd ?_
                    refine ⟨⟨(i + 1, n), by simp only; omega, by simp only; omega, by rw [hI, allId_step hx q, h37, Bool.true_and], by rw [hJ, allId_step hx fun k => decide (k.kind = 1)]; simp only [h41, decide_true, decide_false, Bool.true_and, Bool.false_and, Bool.and_false]; simp; try omega⟩, by simp only; omega, rfl, rfl, rfl, rfl, rfl, rfl, trivial⟩
                · intro h37
                  refine u rfl rfl nt ?_
                  refine jd ?_
                  refine w14 2 3 4 6 30 31 32 33 34 35 36 37 38 2006 ?_
                  refine J_condT rfl ?_
                  refine js ?_
                  refine u rfl rfl asg ?_
                  refine jd ?_
                  refine w14 2 3 4 6 30 31 32 33 34 35 36 37 38 2006 ?_
                  refine J_ret ?_
                  refine ⟨.inl rfl, _, rfl, .ofB ?_, trivial⟩
                  have e1 := allId_step hx q
                  rw [h37, Bool.false_and] at e1
                  have e2 : ks.all q = false := by rw [hI, e1]
                  simp [coF, Co.kids, e2]
              · intro h33
                replace h33 := of_decide_eq_false h33
                refine jd ?_
                refine w7 2 3 4 30 31 32 33 ?_
                refine J_seq ?_
                refine J_condF rfl ?_
                refine J_exit ?_
                refine js ?_
                refine u rfl rfl mv ?_
                refine u rfl rfl mv ?_
                refine JR.runB rfl rfl (r_ltI rfl rfl rfl rfl) ?_ ?_
                · intro h47
                  replace h47 := of_decide_eq_true h47
                  refine u rfl rfl asg ?_
                  refine jd ?_
                  refine w1 2 ?_
                  refine J_ret ?_
                  refine ⟨.inl rfl, _, rfl, .ofB ?_, trivial⟩
                  rw [List.drop_eq_nil_of_le (by omega)] at hI hJ
                  simp only [List.all_nil, Bool.and_true] at hI hJ
                  have hii : i = ks.length := by omega
                  simp_all [coF, ck1, ck2, ck3, ck4, ck5, cosD_len]
                  first | omega | (split <;> omega) | (simp_all; omega)
                · intro h47
                  replace h47 := of_decide_eq_false h47
                  refine u rfl rfl asg ?_
                  refine jd ?_
                  refine w1 2 ?_
                  refine J_ret ?_
                  refine ⟨.inl rfl, _, rfl, .ofB ?_, trivial⟩
                  rw [List.drop_eq_nil_of_le (by omega)] at hI hJ
                  simp only [List.all_nil, Bool.and_true] at hI hJ
                  have hii : i = ks.length := by omega
                  simp_all [coF, ck1, ck2, ck3, ck4, ck5, cosD_len]
                  first | omega | (split <;> omega) | (simp_all; omega)
            · skip
              refine J_condT rfl ?_
              refine js ?_
              refine u rfl rfl asg ?_
              refine jd ?_
              refine w4 1 2 3 2001 ?_
              refine J_ret ?_
              refine ⟨.inl rfl, _, rfl, .ofB ?_, trivial⟩
              simp_all [coF, ck1, ck2, ck3, ck4, ck5, cosD_len]
    · intro h9
      replace h9 := of_decide_eq_false h9
      refine jd ?_
      refine w5 1 2 3 9 2001 ?_
      refine J_condF rfl ?_
      refine J_skip ?_
      refine J_seq ?_
      refine js ?_
      refine u rfl rfl (fA 4 1) ?_
      refine u rfl rfl ld ?_
      refine u rfl rfl ln0 ?_
      refine u rfl rfl mv ?_
      refine JR.runB rfl rfl (r_neI rfl rfl rfl rfl) ?_ ?_
      · intro h14
        replace h14 := of_decide_eq_false (nT h14)
        refine u rfl rfl mv ?_
        refine sk ?_
        refine sk ?_
        refine sk ?_
        refine u rfl rfl pT ?_
        refine u rfl rfl mv ?_
        refine sk ?_
        refine sk ?_
        refine sk ?_
        refine u rfl rfl pT ?_
        refine u rfl rfl mv ?_
        refine sk ?_
        refine sk ?_
        refine u rfl rfl pT ?_
        refine jd ?_
        refine w5 1 2 3 28 2001 ?_
        refine J_condT rfl ?_
        refine js ?_
        refine u rfl rfl asg ?_
        refine jd ?_
        refine w4 1 2 3 2001 ?_
        refine J_ret ?_
        refine ⟨.inl rfl, _, rfl, .ofB ?_, trivial⟩
        simp_all [coF, ck1, ck2, ck3, ck4, ck5, cosD_len]
      · intro h14
        replace h14 := of_decide_eq_true (nF h14)
        refine u rfl rfl mv ?_
        refine u rfl rfl (fA 1 1) ?_
        refine u rfl rfl ld ?_
        refine JR.runB rfl rfl (r_neI rfl rfl rfl rfl) ?_ ?_
        · intro h18
          replace h18 := of_decide_eq_false (nT h18)
          refine u rfl rfl pF ?_
          refine u rfl rfl mv ?_
          refine sk ?_
          refine sk ?_
          refine sk ?_
          refine u rfl rfl pT ?_
          refine u rfl rfl mv ?_
          refine sk ?_
          refine sk ?_
          refine u rfl rfl pT ?_
          refine jd ?_
          refine w5 1 2 3 28 2001 ?_
          refine J_condT rfl ?_
          refine js ?_
          refine u rfl rfl asg ?_
          refine jd ?_
          refine w4 1 2 3 2001 ?_
          refine J_ret ?_
          refine ⟨.inl rfl, _, rfl, .ofB ?_, trivial⟩
          simp_all [coF, ck1, ck2, ck3, ck4, ck5, cosD_len]
        · intro h18
          replace h18 := of_decide_eq_true (nF h18)
          refine u rfl rfl pF ?_
          refine u rfl rfl mv ?_
          refine u rfl rfl (fA 2 1) ?_
          refine u rfl rfl ld ?_
          refine JR.runB rfl rfl (r_neI rfl rfl rfl rfl) ?_ ?_
          · intro h23
            replace h23 := of_decide_eq_false (nT h23)
            refine u rfl rfl pF ?_
            refine u rfl rfl mv ?_
            refine sk ?_
            refine sk ?_
            refine u rfl rfl pT ?_
            refine jd ?_
            refine w5 1 2 3 28 2001 ?_
            refine J_condT rfl ?_
            refine js ?_
            refine u rfl rfl asg ?_
            refine jd ?_
            refine w4 1 2 3 2001 ?_
            refine J_ret ?_
            refine ⟨.inl rfl, _, rfl, .ofB ?_, trivial⟩
            simp_all [coF, ck1, ck2, ck3, ck4, ck5, cosD_len]
          · intro h23
            replace h23 := of_decide_eq_true (nF h23)
            refine u rfl rfl pF ?_
            refine u rfl rfl mv ?_
            refine u rfl rfl (fA 3 1) ?_
            refine u rfl rfl ld ?_
            refine u rfl rfl pF ?_
            refine jd ?_
            refine w5 1 2 3 28 2001 ?_
            cases g
            · skip
              refine J_condF rfl ?_
              refine J_skip ?_
              refine js ?_
              refine u rfl rfl asg ?_
              refine jd ?_
              refine w5 1 2 3 4 2001 ?_
              refine J_seq ?_
              refine js ?_
              refine u rfl rfl (fA 4 1) ?_
              refine u rfl rfl ld ?_
              refine u rfl rfl ln0 ?_
              refine u rfl rfl mv ?_
              refine jd ?_
              refine w6 2 3 4 30 31 32 ?_
              refine J_block ?_
              refine J_loopF (α := { p : Nat × Nat // p.1 ≤ ks.length ∧ p.2 ≤ p.1 ∧ ks.all q = (ks.drop p.1).all q ∧ (ks.all fun k => decide (k.kind = 1)) = (decide (p.2 = p.1) && (ks.drop p.1).all fun k => decide (k.kind = 1)) }) (fun p => [(32, .c (.lit (.int .i64 (p.1.1 : Int)))), (4, .c (.lit (.int .i64 (p.1.2 : Int))))]) [(2, _), (3, _), (30, _), (31, _)] (fun p => ks.length - p.1.1) ⟨(0, 0), Nat.zero_le _, Nat.le_refl _, rfl, by simp⟩ ⟨rfl, rfl, rfl, rfl, rfl, rfl, trivial⟩ ?_
              rintro ⟨⟨i, n⟩, hi, hn, hI, hJ⟩
              dsimp only at hi hn hI hJ ⊢
              refine js ?_
              refine JR.runB rfl rfl (r_ltI rfl rfl rfl rfl) ?_ ?_
              · intro h33
                replace h33 := of_decide_eq_true h33
                obtain ⟨x, hx⟩ := get_some (l := ks) (i := i) (by omega)
                refine jd ?_
                refine w7 2 3 4 30 31 32 33 ?_
                refine J_seq ?_
                refine J_condT rfl ?_
                refine J_skip ?_
                refine J_seq ?_
                refine J_block ?_
                refine js ?_
                refine u rfl rfl (r_indexAddr (e := 27) (sz := 5) rfl rfl (by kernel_rfl) rfl rfl (by omega) (cosD_at hx)) ?_
                refine u rfl rfl (eA 5) ?_
                refine u rfl rfl (r_alloc (x := 2006) (zs := [.int .i64 0, .int .i64 0, .int .i64 0, .bool false, .slice none 0 0]) [.lit (.int .i64 0), .lit (.int .i64 0), .lit (.int .i64 0), .lit (.bool false), .sl 5 []] rfl rfl rfl (by kernel_rfl) ⟨.refl _, .refl _, .refl _, .refl _, .nil _, trivial⟩) ?_
                refine u rfl rfl sA ?_
                refine jd ?_
                refine w11 2 3 4 6 30 31 32 33 34 35 2006 ?_
                refine J_seq ?_
                refine js ?_
                refine u rfl rfl (lA 5) ?_
                refine JR.runC rfl rfl (cl (hC x (List.mem_of_getElem? hx))) rfl ?_ ?_
                · intro h37
                  refine u rfl rfl nt ?_
                  refine jd ?_
                  refine w14 2 3 4 6 30 31 32 33 34 35 36 37 38 2006 ?_
                  refine J_condF rfl ?_
                  refine J_skip ?_
                  refine js ?_
                  refine u rfl rfl (fA 0 1) ?_
                  refine u rfl rfl ld ?_
                  refine JR.runB rfl rfl (r_eqI rfl rfl rfl rfl) ?_ ?_
                  · intro h41
                    replace h41 := of_decide_eq_true h41
                    refine jd ?_
                    refine w17 2 3 4 6 30 31 32 33 34 35 36 37 38 39 40 41 2006 ?_
                    refine J_condT rfl ?_
                    refine JR.start ?_
                    refine u rfl rfl mv ?_
                    refine u rfl rfl (r_addI rfl rfl rfl rfl (by omega)) ?_
                    refine u rfl rfl asg ?_
                    refine jd ?_
                    refine J_weak [(2, _), (3, _), (4, _), (6, _), (30, _), (31, _), (32, _), (33, _), (34, _), (35, _), (36, _), (37, _), (38, _), (39, _), (40, _), (41, _), (42, _), (43, _), (2006, _)] ⟨rfl, rfl, rfl, rfl, rfl, rfl, rfl, rfl, rfl, rfl, rfl, rfl, rfl, rfl, rfl, rfl, rfl, rfl, rfl, trivial⟩ ?_
                    refine JR.start ?_
                    refine u rfl rfl (r_addI rfl rfl rfl rfl (by omega)) ?_
                    refine u rfl rfl mv ?_
                    refine jd ?_
                    refine ⟨⟨(i + 1, n + 1), by simp only; omega, by simp only; omega, by rw [hI, allId_step hx q, h37, Bool.true_and], by rw [hJ, allId_step hx fun k => decide (k.kind = 1)]; simp only [h41, decide_true, decide_false, Bool.true_and, Bool.false_and, Bool.and_false]; simp; try omega⟩, by simp only; omega, rfl, rfl, rfl, rfl, rfl, rfl, trivial⟩
                  · intro h41
                    replace h41 := of_decide_eq_false h41
                    refine jd ?_
                    refine w17 2 3 4 6 30 31 32 33 34 35 36 37 38 39 40 41 2006 ?_
                    refine J_condF rfl ?_
                    refine J_skip ?_
                    refine JR.start ?_
                    refine u rfl rfl (r_addI rfl rfl rfl rfl (by omega)) ?_
                    refine u rfl rfl mv ?_
                    refine jd ?_
                    refine ⟨⟨(i + 1, n), by simp only; omega, by simp only; omega, by rw [hI, allId_step hx q, h37, Bool.true_and], by rw [hJ, allId_step hx fun k => decide (k.kind = 1)]; simp only [h41, decide_true, decide_false, Bool.true_and, Bool.false_and, Bool.and_false]; simp; try omega⟩, by simp only; omega, rfl, rfl, rfl, rfl, rfl, rfl, trivial⟩
                · intro h37
                  refine u rfl rfl nt ?_
                  refine jd ?_
                  refine w14 2 3 4 6 30 31 32 33 34 35 36 37 38 2006 ?_
                  refine J_condT rfl ?_
                  refine js ?_
                  refine u rfl rfl asg ?_
                  refine jd ?_
                  refine w14 2 3 4 6 30 31 32 33 34 35 36 37 38 2006 ?_
                  refine J_ret ?_
                  refine ⟨.inl rfl, _, rfl, .ofB ?_, trivial⟩
                  have e1 := allId_step hx q
                  rw [h37, Bool.false_and] at e1
                  have e2 : ks.all q = false := by rw [hI, e1]
                  simp [coF, Co.kids, e2]
              · intro h33
                replace h33 := of_decide_eq_false h33
                refine jd ?_
                refine w7 2 3 4 30 31 32 33 ?_
                refine J_seq ?_
                refine J_condF rfl ?_
                refine J_exit ?_
                refine js ?_
                refine u rfl rfl mv ?_
                refine u rfl rfl mv ?_
                refine JR.runB rfl rfl (r_ltI rfl rfl rfl rfl) ?_ ?_
                · intro h47
                  replace h47 := of_decide_eq_true h47
                  refine u rfl rfl asg ?_
                  refine jd ?_
                  refine w1 2 ?_
                  refine J_ret ?_
                  refine ⟨.inl rfl, _, rfl, .ofB ?_, trivial⟩
                  rw [List.drop_eq_nil_of_le (by omega)] at hI hJ
                  simp only [List.all_nil, Bool.and_true] at hI hJ
                  have hii : i = ks.length := by omega
                  simp_all [coF, ck1, ck2, ck3, ck4, ck5, cosD_len]
                  first | omega | (split <;> omega) | (simp_all; omega)
                · intro h47
                  replace h47 := of_decide_eq_false h47
                  refine u rfl rfl asg ?_
                  refine jd ?_
                  refine w1 2 ?_
                  refine J_ret ?_
                  refine ⟨.inl rfl, _, rfl, .ofB ?_, trivial⟩
                  rw [List.drop_eq_nil_of_le (by omega)] at hI hJ
                  simp only [List.all_nil, Bool.and_true] at hI hJ
                  have hii : i = ks.length := by omega
                  simp_all [coF, ck1, ck2, ck3, ck4, ck5, cosD_len]
                  first | omega | (split <;> omega) | (simp_all; omega)
            · skip
              refine J_condT rfl ?_
              refine js ?_
              refine u rfl rfl asg ?_
              refine jd ?_
              refine w4 1 2 3 2001 ?_
              refine J_ret ?_
              refine ⟨.inl rfl, _, rfl, .ofB ?_, trivial⟩
              simp_all [coF, ck1, ck2, ck3, ck4, ck5, cosD_len]

theorem kCoR : ∀ (m : Nat) (c : Co), m ≤ 1000000000 → c.size ≤ m → Con Tryz.prog 92 [.agg (coX c)] [] (.c (.lit (.bool (coR m c)))) []
  | 0, c, _, h => absurd c.size_pos (by omega)
  | m + 1, .mk k h l g ks, hm, hs => by
    have hkid : ∀ {i : Nat} {x : Co}, ks[i]? = some x → x.size ≤ m := fun hx => by have := Co.kid_lt (c := .mk k h l g ks) hx; omega
    have hlt : ks.length ≤ m := by have := (Co.mk k h l g ks).kids_lt; simp only [Co.kids] at this; omega
    have hl := cosD_len ks
    show Con Tryz.prog 92 [.agg [.lit (.int .i64 k), .lit (.int .i64 h), .lit (.int .i64 l), .lit (.bool g), .sl 5 (cosD ks)]] [] _ []
    refine con_intro rfl rfl (by kernel_rfl) (by kernel_rfl) ?_
    refine js ?_
    refine u rfl rfl (r_boxA (x := 2001) rfl rfl rfl rfl) ?_
    refine u rfl rfl asg ?_
    refine jd ?_
    refine w3 1 2 2001 ?_
    refine J_seq ?_
    refine js ?_
    refine u rfl rfl (fA 0 1) ?_
    refine u rfl rfl ld ?_
    refine jd ?_
    refine w4 1 2 5 2001 ?_
    refine J_block ?_
    refine js ?_
    refine JR.runB rfl rfl (r_eqI rfl rfl rfl rfl) ?_ ?_
    · intro h7
      replace h7 := of_decide_eq_true h7
      refine u rfl rfl asg ?_
      refine jd ?_
      refine w5 1 2 5 6 2001 ?_
      refine J_condT rfl ?_
      refine js ?_
      refine u rfl rfl (fA 4 1) ?_
      refine u rfl rfl ld ?_
      refine u rfl rfl ln0 ?_
      refine JR.runB rfl rfl (r_eqI rfl rfl rfl rfl) ?_ ?_
      · intro h11
        replace h11 := of_decide_eq_true h11
        refine u rfl rfl mv ?_
        refine u rfl rfl (fA 1 1) ?_
        refine u rfl rfl ld ?_
        refine JR.runB rfl rfl (r_eqI rfl rfl rfl rfl) ?_ ?_
        · intro h15
          replace h15 := of_decide_eq_true h15
          refine u rfl rfl pT ?_
          refine u rfl rfl mv ?_
          refine u rfl rfl (fA 2 1) ?_
          refine u rfl rfl ld ?_
          refine JR.runB rfl rfl (r_eqI rfl rfl rfl rfl) ?_ ?_
          · intro h20
            replace h20 := of_decide_eq_true h20
            refine u rfl rfl pT ?_
            refine u rfl rfl mv ?_
            refine u rfl rfl (fA 3 1) ?_
            refine u rfl rfl ld ?_
            refine u rfl rfl nt ?_
            refine u rfl rfl pT ?_
            refine u rfl rfl asg ?_
            refine jd ?_
            refine w1 2 ?_
            refine J_ret ?_
            refine ⟨.inl rfl, _, rfl, .ofB ?_, trivial⟩
            rw [coR]
            simp_all [ck1, ck2, ck3, ck4, ck5, cosD_len]
          · intro h20
            replace h20 := of_decide_eq_false h20
            refine u rfl rfl pT ?_
            refine u rfl rfl mv ?_
            refine sk ?_
            refine sk ?_
            refine sk ?_
            refine u rfl rfl pF ?_
            refine u rfl rfl asg ?_
            refine jd ?_
            refine w1 2 ?_
            refine J_ret ?_
            refine ⟨.inl rfl, _, rfl, .ofB ?_, trivial⟩
            rw [coR]
            simp_all [ck1, ck2, ck3, ck4, ck5, cosD_len]
        · intro h15
          replace h15 := of_decide_eq_false h15
          refine u rfl rfl pT ?_
          refine u rfl rfl mv ?_
          refine sk ?_
          refine sk ?_
          refine sk ?_
          refine u rfl rfl pF ?_
          refine u rfl rfl mv ?_
          refine sk ?_
          refine sk ?_
          refine sk ?_
          refine u rfl rfl pF ?_
          refine u rfl rfl asg ?_
          refine jd ?_
          refine w1 2 ?_
          refine J_ret ?_
          refine ⟨.inl rfl, _, rfl, .ofB ?_, trivial⟩
          rw [coR]
          simp_all [ck1, ck2, ck3, ck4, ck5, cosD_len]
      · intro h11
        replace h11 := of_decide_eq_false h11
        refine u rfl rfl mv ?_
        refine sk ?_
        refine sk ?_
        refine sk ?_
        refine u rfl rfl pF ?_
        refine u rfl rfl mv ?_
        refine sk ?_
        refine sk ?_
        refine sk ?_
        refine u rfl rfl pF ?_
        refine u rfl rfl mv ?_
        refine sk ?_
        refine sk ?_
        refine sk ?_
        refine u rfl rfl pF ?_
        refine u rfl rfl asg ?_
        refine jd ?_
        refine w1 2 ?_
        refine J_ret ?_
        refine ⟨.inl rfl, _, rfl, .ofB ?_, trivial⟩
        rw [coR]
        simp_all [ck1, ck2, ck3, ck4, ck5, cosD_len]
    · intro h7
      replace h7 := of_decide_eq_false h7
      refine u rfl rfl asg ?_
      refine jd ?_
      refine w5 1 2 5 6 2001 ?_
      refine J_condF rfl ?_
      refine js ?_
      refine JR.runB rfl rfl (r_eqI rfl rfl rfl rfl) ?_ ?_
      · intro h28
        replace h28 := of_decide_eq_true h28
        refine u rfl rfl asg ?_
        refine jd ?_
        refine w5 1 2 5 27 2001 ?_
        refine J_condT rfl ?_
        refine js ?_
        refine u rfl rfl (fA 4 1) ?_
        refine u rfl rfl ld ?_
        refine u rfl rfl ln0 ?_
        refine JR.runB rfl rfl (r_eqI rfl rfl rfl rfl) ?_ ?_
        · intro h32
          replace h32 := of_decide_eq_true h32
          refine u rfl rfl mv ?_
          refine u rfl rfl (fA 1 1) ?_
          refine u rfl rfl ld ?_
          refine JR.runB rfl rfl (r_eqI rfl rfl rfl rfl) ?_ ?_
          · intro h36
            replace h36 := of_decide_eq_true h36
            refine u rfl rfl pT ?_
            refine u rfl rfl mv ?_
            refine u rfl rfl (fA 2 1) ?_
            refine u rfl rfl ld ?_
            refine JR.runC rfl rfl (cl (kLabel l)) rfl ?_ ?_
            · intro h41
              refine u rfl rfl pT ?_
              refine u rfl rfl asg ?_
              refine jd ?_
              refine w1 2 ?_
              refine J_ret ?_
              refine ⟨.inl rfl, _, rfl, .ofB ?_, trivial⟩
              rw [coR]
              simp_all [ck1, ck2, ck3, ck4, ck5, cosD_len]
            · intro h41
              refine u rfl rfl pT ?_
              refine u rfl rfl asg ?_
              refine jd ?_
              refine w1 2 ?_
              refine J_ret ?_
              refine ⟨.inl rfl, _, rfl, .ofB ?_, trivial⟩
              rw [coR]
              simp_all [ck1, ck2, ck3, ck4, ck5, cosD_len]
          · intro h36
            replace h36 := of_decide_eq_false h36
            refine u rfl rfl pT ?_
            refine u rfl rfl mv ?_
            refine sk ?_
            refine sk ?_
            refine sk ?_
            refine u rfl rfl pF ?_
            refine u rfl rfl asg ?_
            refine jd ?_
            refine w1 2 ?_
            refine J_ret ?_
            refine ⟨.inl rfl, _, rfl, .ofB ?_, trivial⟩
            rw [coR]
            simp_all [ck1, ck2, ck3, ck4, ck5, cosD_len]
        · intro h32
          replace h32 := of_decide_eq_false h32
          refine u rfl rfl mv ?_
          refine sk ?_
          refine sk ?_
          refine sk ?_
          refine u rfl rfl pF ?_
          refine u rfl rfl mv ?_
          refine sk ?_
          refine sk ?_
          refine sk ?_
          refine u rfl rfl pF ?_
          refine u rfl rfl asg ?_
          refine jd ?_
          refine w1 2 ?_
          refine J_ret ?_
          refine ⟨.inl rfl, _, rfl, .ofB ?_, trivial⟩
          rw [coR]
          simp_all [ck1, ck2, ck3, ck4, ck5, cosD_len]
      · intro h28
        replace h28 := of_decide_eq_false h28
        refine u rfl rfl asg ?_
        refine jd ?_
        refine w5 1 2 5 27 2001 ?_
        refine J_condF rfl ?_
        refine js ?_
        refine JR.runB rfl rfl (r_eqI rfl rfl rfl rfl) ?_ ?_
        · intro h44
          replace h44 := of_decide_eq_true h44
          refine u rfl rfl asg ?_
          refine jd ?_
          refine w5 1 2 5 43 2001 ?_
          refine J_condT rfl ?_
          refine js ?_
          refine u rfl rfl (fA 4 1) ?_
          refine u rfl rfl ld ?_
          refine u rfl rfl ln0 ?_
          refine JR.runB rfl rfl (r_eqI rfl rfl rfl rfl) ?_ ?_
          · intro h48
            replace h48 := of_decide_eq_true h48
            obtain ⟨x, hx⟩ := get_some (l := ks) (i := 0) (by omega)
            have hxs := hkid hx
            have hk0 := coK_of hx
            refine u rfl rfl mv ?_
            refine u rfl rfl (fA 1 1) ?_
            refine u rfl rfl ld ?_
            refine JR.runC rfl rfl (cl (kIsHead h)) rfl ?_ ?_
            · intro h52
              refine u rfl rfl pT ?_
              refine u rfl rfl mv ?_
              refine u rfl rfl (fA 2 1) ?_
              refine u rfl rfl ld ?_
              refine JR.runB rfl rfl (r_eqI rfl rfl rfl rfl) ?_ ?_
              · intro h57
                replace h57 := of_decide_eq_true h57
                refine u rfl rfl pT ?_
                refine u rfl rfl mv ?_
                refine u rfl rfl (fA 3 1) ?_
                refine u rfl rfl ld ?_
                refine u rfl rfl nt ?_
                refine u rfl rfl pT ?_
                refine u rfl rfl mv ?_
                cases g
                · skip
                  refine u rfl rfl (fA 4 1) ?_
                  refine u rfl rfl ld ?_
                  refine u rfl rfl (r_indexAddr (e := 27) (sz := 5) rfl rfl (by kernel_rfl) rfl rfl (Int.le_refl 0) (cosD_at (i := 0) hx)) ?_
                  refine u rfl rfl (eA 5) ?_
                  refine u rfl rfl (fA 1 1) ?_
                  refine u rfl rfl ld ?_
                  refine JR.runC rfl rfl (cl (kWithin (q := coR m) x h (kCoR m x (by omega) hxs))) rfl ?_ ?_
                  · intro h71
                    refine u rfl rfl pT ?_
                    refine u rfl rfl asg ?_
                    refine jD [0, 1, 3, 7, 15, 31, 63, 127, 255, 511, 1023, 2047, 4095, 8191, 16383, 32767, 65535, 131071, 262143, 524287, 1048575, 2097151, 4194303, 8388607, 1048575, 17825791, 67108863, 134217727, 268435455] ?_
                    refine w1 2 ?_
                    refine J_ret ?_
                    refine ⟨.inl rfl, _, rfl, .ofB ?_, trivial⟩
                    rw [coR]
                    simp_all [ck1, ck2, ck3, ck4, ck5, cosD_len]
                  · intro h71
                    refine u rfl rfl pT ?_
                    refine u rfl rfl asg ?_
                    refine jD [0, 1, 3, 7, 15, 31, 63, 127, 255, 511, 1023, 2047, 4095, 8191, 16383, 32767, 65535, 131071, 262143, 524287, 1048575, 2097151, 4194303, 8388607, 1048575, 17825791, 67108863, 134217727, 268435455] ?_
                    refine w1 2 ?_
                    refine J_ret ?_
                    refine ⟨.inl rfl, _, rfl, .ofB ?_, trivial⟩
                    rw [coR]
                    simp_all [ck1, ck2, ck3, ck4, ck5, cosD_len]
                · skip
                  refine sk ?_
                  refine sk ?_
                  refine sk ?_
                  refine sk ?_
                  refine sk ?_
                  refine sk ?_
                  refine sk ?_
                  refine u rfl rfl pF ?_
                  refine u rfl rfl asg ?_
                  refine jD [0, 1, 3, 7, 15, 31, 63, 127, 255, 511, 1023, 2047, 4095, 8191, 16383, 32767, 65535, 131071, 262143, 524287, 1048575, 2097151, 4194303, 8388607, 1048575, 17825791, 67108863, 134217727, 268435455] ?_
                  refine w1 2 ?_
                  refine J_ret ?_
                  refine ⟨.inl rfl, _, rfl, .ofB ?_, trivial⟩
                  rw [coR]
                  simp_all [ck1, ck2, ck3, ck4, ck5, cosD_len]
              · intro h57
                replace h57 := of_decide_eq_false h57
                refine u rfl rfl pT ?_
                refine u rfl rfl mv ?_
                refine sk ?_
                refine sk ?_
                refine sk ?_
                refine u rfl rfl pF ?_
                refine u rfl rfl mv ?_
                refine sk ?_
                refine sk ?_
                refine sk ?_
                refine sk ?_
                refine sk ?_
                refine sk ?_
                refine sk ?_
                refine u rfl rfl pF ?_
                refine u rfl rfl asg ?_
                refine jD [0, 1, 3, 7, 15, 31, 63, 127, 255, 511, 1023, 2047, 4095, 8191, 16383, 32767, 65535, 131071, 262143, 524287, 1048575, 2097151, 4194303, 8388607, 1048575, 17825791, 67108863, 134217727, 268435455] ?_
                refine w1 2 ?_
                refine J_ret ?_
                refine ⟨.inl rfl, _, rfl, .ofB ?_, trivial⟩
                rw [coR]
                simp_all [ck1, ck2, ck3, ck4, ck5, cosD_len]
            · intro h52
              refine u rfl rfl pT ?_
              refine u rfl rfl mv ?_
              refine sk ?_
              refine sk ?_
              refine sk ?_
              refine u rfl rfl pF ?_
              refine u rfl rfl mv ?_
              refine sk ?_
              refine sk ?_
              refine sk ?_
              refine u rfl rfl pF ?_
              refine u rfl rfl mv ?_
              refine sk ?_
              refine sk ?_
              refine sk ?_
              refine sk ?_
              refine sk ?_
              refine sk ?_
              refine sk ?_
              refine u rfl rfl pF ?_
              refine u rfl rfl asg ?_
              refine jD [0, 1, 3, 7, 15, 31, 63, 127, 255, 511, 1023, 2047, 4095, 8191, 16383, 32767, 65535, 131071, 262143, 524287, 1048575, 2097151, 4194303, 8388607, 1048575, 17825791, 67108863, 134217727, 268435455] ?_
              refine w1 2 ?_
              refine J_ret ?_
              refine ⟨.inl rfl, _, rfl, .ofB ?_, trivial⟩
              rw [coR]
              simp_all [ck1, ck2, ck3, ck4, ck5, cosD_len]
          · intro h48
            replace h48 := of_decide_eq_false h48
            refine u rfl rfl mv ?_
            refine sk ?_
            refine sk ?_
            refine sk ?_
            refine u rfl rfl pF ?_
            refine u rfl rfl mv ?_
            refine sk ?_
            refine sk ?_
            refine sk ?_
            refine u rfl rfl pF ?_
            refine u rfl rfl mv ?_
            refine sk ?_
            refine sk ?_
            refine sk ?_
            refine u rfl rfl pF ?_
            refine u rfl rfl mv ?_
            refine sk ?_
            refine sk ?_
            refine sk ?_
            refine sk ?_
            refine sk ?_
            refine sk ?_
            refine sk ?_
            refine u rfl rfl pF ?_
            refine u rfl rfl asg ?_
            refine jD [0, 1, 3, 7, 15, 31, 63, 127, 255, 511, 1023, 2047, 4095, 8191, 16383, 32767, 65535, 131071, 262143, 524287, 1048575, 2097151, 4194303, 8388607, 1048575, 17825791, 67108863, 134217727, 268435455] ?_
            refine w1 2 ?_
            refine J_ret ?_
            refine ⟨.inl rfl, _, rfl, .ofB ?_, trivial⟩
            rw [coR]
            simp_all [ck1, ck2, ck3, ck4, ck5, cosD_len]
        · intro h44
          replace h44 := of_decide_eq_false h44
          refine u rfl rfl asg ?_
          refine jd ?_
          refine w5 1 2 5 43 2001 ?_
          refine J_condF rfl ?_
          refine js ?_
          refine JR.runB rfl rfl (r_eqI rfl rfl rfl rfl) ?_ ?_
          · intro h74
            replace h74 := of_decide_eq_true h74
            refine u rfl rfl asg ?_
            refine jd ?_
            refine w5 1 2 5 73 2001 ?_
            refine J_condT rfl ?_
            refine J_seq ?_
            refine js ?_
            refine u rfl rfl (fA 4 1) ?_
            refine u rfl rfl ld ?_
            refine u rfl rfl ln0 ?_
            refine JR.runB rfl rfl (r_neI rfl rfl rfl rfl) ?_ ?_
            · intro h78
              replace h78 := of_decide_eq_false (nT h78)
              refine u rfl rfl mv ?_
              refine sk ?_
              refine sk ?_
              refine sk ?_
              refine sk ?_
              refine u rfl rfl pT ?_
              refine u rfl rfl mv ?_
              refine sk ?_
              refine sk ?_
              refine sk ?_
              refine sk ?_
              refine u rfl rfl pT ?_
              refine jd ?_
              refine w4 1 2 90 2001 ?_
              refine J_condT rfl ?_
              refine js ?_
              refine u rfl rfl asg ?_
              refine jd ?_
              refine w3 1 2 2001 ?_
              refine J_ret ?_
              refine ⟨.inl rfl, _, rfl, .ofB ?_, trivial⟩
              rw [coR]
              simp_all [ck1, ck2, ck3, ck4, ck5, cosD_len]
            · intro h78
              replace h78 := of_decide_eq_true (nF h78)
              obtain ⟨x, hx⟩ := get_some (l := ks) (i := 0) (by omega)
              have hxs := hkid hx
              have hk0 := coK_of hx
              refine u rfl rfl mv ?_
              refine u rfl rfl (fA 1 1) ?_
              refine u rfl rfl ld ?_
              refine JR.runC rfl rfl (cl (kIsHead h)) rfl ?_ ?_
              · intro h82
                refine u rfl rfl nt ?_
                refine u rfl rfl pF ?_
                refine u rfl rfl mv ?_
                refine u rfl rfl (fA 2 1) ?_
                refine u rfl rfl ld ?_
                refine JR.runC rfl rfl (cl (kLabel l)) rfl ?_ ?_
                · intro h88
                  refine u rfl rfl nt ?_
                  refine u rfl rfl pF ?_
                  refine jd ?_
                  refine w4 1 2 90 2001 ?_
                  refine J_condF rfl ?_
                  refine J_skip ?_
                  refine js ?_
                  refine u rfl rfl (fA 4 1) ?_
                  refine u rfl rfl ld ?_
                  refine u rfl rfl (r_indexAddr (e := 27) (sz := 5) rfl rfl (by kernel_rfl) rfl rfl (Int.le_refl 0) (cosD_at (i := 0) hx)) ?_
                  refine u rfl rfl (eA 5) ?_
                  refine u rfl rfl (r_alloc (x := 2003) (zs := [.int .i64 0, .int .i64 0, .int .i64 0, .bool false, .slice none 0 0]) [.lit (.int .i64 0), .lit (.int .i64 0), .lit (.int .i64 0), .lit (.bool false), .sl 5 []] rfl rfl rfl (by kernel_rfl) ⟨.refl _, .refl _, .refl _, .refl _, .nil _, trivial⟩) ?_
                  refine u rfl rfl sA ?_
                  refine jd ?_
                  refine w5 1 2 3 2001 2003 ?_
                  refine js ?_
                  refine u rfl rfl (fA 0 1) ?_
                  refine u rfl rfl ld ?_
                  refine JR.runB rfl rfl (r_eqI rfl rfl rfl rfl) ?_ ?_
                  · intro h97
                    replace h97 := of_decide_eq_true h97
                    refine u rfl rfl mv ?_
                    refine u rfl rfl (lA 5) ?_
                    refine JR.runC rfl rfl (cl (kCoR m x (by omega) hxs)) rfl ?_ ?_
                    · intro h100
                      refine u rfl rfl pT ?_
                      refine u rfl rfl mv ?_
                      refine sk ?_
                      refine sk ?_
                      refine sk ?_
                      refine sk ?_
                      refine sk ?_
                      refine sk ?_
                      refine sk ?_
                      refine sk ?_
                      refine sk ?_
                      refine sk ?_
                      refine sk ?_
                      refine sk ?_
                      refine sk ?_
                      refine sk ?_
                      refine u rfl rfl pT ?_
                      refine u rfl rfl mv ?_
                      refine sk ?_
                      refine sk ?_
                      refine sk ?_
                      refine sk ?_
                      refine u rfl rfl pT ?_
                      refine u rfl rfl asg ?_
                      refine jd ?_
                      refine w1 2 ?_
                      refine J_ret ?_
                      refine ⟨.inl rfl, _, rfl, .ofB ?_, trivial⟩
                      rw [coR]
                      simp_all [ck1, ck2, ck3, ck4, ck5, cosD_len]
                    · intro h100
                      refine u rfl rfl pT ?_
                      refine u rfl rfl mv ?_
                      refine u rfl rfl (fA 0 1) ?_
                      refine u rfl rfl ld ?_
                      refine JR.runB rfl rfl (r_eqI rfl rfl rfl rfl) ?_ ?_
                      · intro h105
                        replace h105 := of_decide_eq_true h105
                        refine u rfl rfl mv ?_
                        refine u rfl rfl (fA 1 1) ?_
                        refine u rfl rfl ld ?_
                        refine u rfl rfl (fA 1 1) ?_
                        refine u rfl rfl ld ?_
                        refine JR.runB rfl rfl (r_eqI rfl rfl rfl rfl) ?_ ?_
                        · intro h111
                          replace h111 := of_decide_eq_true h111
                          refine u rfl rfl pT ?_
                          refine u rfl rfl mv ?_
                          refine u rfl rfl (lA 5) ?_
                          refine JR.runC rfl rfl (cl (kCoR m x (by omega) hxs)) rfl ?_ ?_
                          · intro h115
                            refine u rfl rfl pT ?_
                            refine u rfl rfl pF ?_
                            refine u rfl rfl mv ?_
                            refine sk ?_
                            refine sk ?_
                            refine sk ?_
                            refine sk ?_
                            refine u rfl rfl pT ?_
                            refine u rfl rfl asg ?_
                            refine jd ?_
                            refine w1 2 ?_
                            refine J_ret ?_
                            refine ⟨.inl rfl, _, rfl, .ofB ?_, trivial⟩
                            rw [coR]
                            simp_all [ck1, ck2, ck3, ck4, ck5, cosD_len]
                          · intro h115
                            refine u rfl rfl pT ?_
                            refine u rfl rfl pF ?_
                            refine u rfl rfl mv ?_
                            refine u rfl rfl (lA 5) ?_
                            refine u rfl rfl (fA 1 1) ?_
                            refine u rfl rfl ld ?_
                            refine JR.runC rfl rfl (cl (kWithin (q := coR m) x h (kCoR m x (by omega) hxs))) rfl ?_ ?_
                            · intro h122
                              refine u rfl rfl pF ?_
                              refine u rfl rfl asg ?_
                              refine jd ?_
                              refine w1 2 ?_
                              refine J_ret ?_
                              refine ⟨.inl rfl, _, rfl, .ofB ?_, trivial⟩
                              rw [coR]
                              simp_all [ck1, ck2, ck3, ck4, ck5, cosD_len]
                            · intro h122
                              refine u rfl rfl pF ?_
                              refine u rfl rfl asg ?_
                              refine jd ?_
                              refine w1 2 ?_
                              refine J_ret ?_
                              refine ⟨.inl rfl, _, rfl, .ofB ?_, trivial⟩
                              rw [coR]
                              simp_all [ck1, ck2, ck3, ck4, ck5, cosD_len]
                        · intro h111
                          replace h111 := of_decide_eq_false h111
                          refine u rfl rfl pT ?_
                          refine u rfl rfl mv ?_
                          refine sk ?_
                          refine sk ?_
                          refine u rfl rfl pF ?_
                          refine u rfl rfl pF ?_
                          refine u rfl rfl mv ?_
                          refine u rfl rfl (lA 5) ?_
                          refine u rfl rfl (fA 1 1) ?_
                          refine u rfl rfl ld ?_
                          refine JR.runC rfl rfl (cl (kWithin (q := coR m) x h (kCoR m x (by omega) hxs))) rfl ?_ ?_
                          · intro h122
                            refine u rfl rfl pF ?_
                            refine u rfl rfl asg ?_
                            refine jd ?_
                            refine w1 2 ?_
                            refine J_ret ?_
                            refine ⟨.inl rfl, _, rfl, .ofB ?_, trivial⟩
                            rw [coR]
                            simp_all [ck1, ck2, ck3, ck4, ck5, cosD_len]
                          · intro h122
                            refine u rfl rfl pF ?_
                            refine u rfl rfl asg ?_
                            refine jd ?_
                            refine w1 2 ?_
                            refine J_ret ?_
                            refine ⟨.inl rfl, _, rfl, .ofB ?_, trivial⟩
                            rw [coR]
                            simp_all [ck1, ck2, ck3, ck4, ck5, cosD_len]
                      · intro h105
                        replace h105 := of_decide_eq_false h105
                        refine u rfl rfl mv ?_
                        refine sk ?_
                        refine sk ?_
                        refine sk ?_
                        refine sk ?_
                        refine sk ?_
                        refine u rfl rfl pF ?_
                        refine u rfl rfl mv ?_
                        refine sk ?_
                        refine sk ?_
                        refine u rfl rfl pF ?_
                        refine u rfl rfl pF ?_
                        refine u rfl rfl mv ?_
                        refine u rfl rfl (lA 5) ?_
                        refine u rfl rfl (fA 1 1) ?_
                        refine u rfl rfl ld ?_
                        refine JR.runC rfl rfl (cl (kWithin (q := coR m) x h (kCoR m x (by omega) hxs))) rfl ?_ ?_
                        · intro h122
                          refine u rfl rfl pF ?_
                          refine u rfl rfl asg ?_
                          refine jd ?_
                          refine w1 2 ?_
                          refine J_ret ?_
                          refine ⟨.inl rfl, _, rfl, .ofB ?_, trivial⟩
                          rw [coR]
                          simp_all [ck1, ck2, ck3, ck4, ck5, cosD_len]
                        · intro h122
                          refine u rfl rfl pF ?_
                          refine u rfl rfl asg ?_
                          refine jd ?_
                          refine w1 2 ?_
                          refine J_ret ?_
                          refine ⟨.inl rfl, _, rfl, .ofB ?_, trivial⟩
                          rw [coR]
                          simp_all [ck1, ck2, ck3, ck4, ck5, cosD_len]
                  · intro h97
                    replace h97 := of_decide_eq_false h97
                    refine u rfl rfl mv ?_
                    refine sk ?_
                    refine sk ?_
                    refine u rfl rfl pF ?_
                    refine u rfl rfl mv ?_
                    refine u rfl rfl (fA 0 1) ?_
                    refine u rfl rfl ld ?_
                    refine JR.runB rfl rfl (r_eqI rfl rfl rfl rfl) ?_ ?_
                    · intro h105
                      replace h105 := of_decide_eq_true h105
                      refine u rfl rfl mv ?_
                      refine u rfl rfl (fA 1 1) ?_
                      refine u rfl rfl ld ?_
                      refine u rfl rfl (fA 1 1) ?_
                      refine u rfl rfl ld ?_
                      refine JR.runB rfl rfl (r_eqI rfl rfl rfl rfl) ?_ ?_
                      · intro h111
                        replace h111 := of_decide_eq_true h111
                        refine u rfl rfl pT ?_
                        refine u rfl rfl mv ?_
                        refine u rfl rfl (lA 5) ?_
                        refine JR.runC rfl rfl (cl (kCoR m x (by omega) hxs)) rfl ?_ ?_
                        · intro h115
                          refine u rfl rfl pT ?_
                          refine u rfl rfl pF ?_
                          refine u rfl rfl mv ?_
                          refine sk ?_
                          refine sk ?_
                          refine sk ?_
                          refine sk ?_
                          refine u rfl rfl pT ?_
                          refine u rfl rfl asg ?_
                          refine jd ?_
                          refine w1 2 ?_
                          refine J_ret ?_
                          refine ⟨.inl rfl, _, rfl, .ofB ?_, trivial⟩
                          rw [coR]
                          simp_all [ck1, ck2, ck3, ck4, ck5, cosD_len]
                        · intro h115
                          refine u rfl rfl pT ?_
                          refine u rfl rfl pF ?_
                          refine u rfl rfl mv ?_
                          refine u rfl rfl (lA 5) ?_
                          refine u rfl rfl (fA 1 1) ?_
                          refine u rfl rfl ld ?_
                          refine JR.runC rfl rfl (cl (kWithin (q := coR m) x h (kCoR m x (by omega) hxs))) rfl ?_ ?_
                          · intro h122
                            refine u rfl rfl pF ?_
                            refine u rfl rfl asg ?_
                            refine jd ?_
                            refine w1 2 ?_
                            refine J_ret ?_
                            refine ⟨.inl rfl, _, rfl, .ofB ?_, trivial⟩
                            rw [coR]
                            simp_all [ck1, ck2, ck3, ck4, ck5, cosD_len]
                          · intro h122
                            refine u rfl rfl pF ?_
                            refine u rfl rfl asg ?_
                            refine jd ?_
                            refine w1 2 ?_
                            refine J_ret ?_
                            refine ⟨.inl rfl, _, rfl, .ofB ?_, trivial⟩
                            rw [coR]
                            simp_all [ck1, ck2, ck3, ck4, ck5, cosD_len]
                      · intro h111
                        replace h111 := of_decide_eq_false h111
                        refine u rfl rfl pT ?_
                        refine u rfl rfl mv ?_
                        refine sk ?_
                        refine sk ?_
                        refine u rfl rfl pF ?_
                        refine u rfl rfl pF ?_
                        refine u rfl rfl mv ?_
                        refine u rfl rfl (lA 5) ?_
                        refine u rfl rfl (fA 1 1) ?_
                        refine u rfl rfl ld ?_
                        refine JR.runC rfl rfl (cl (kWithin (q := coR m) x h (kCoR m x (by omega) hxs))) rfl ?_ ?_
                        · intro h122
                          refine u rfl rfl pF ?_
                          refine u rfl rfl asg ?_
                          refine jd ?_
                          refine w1 2 ?_
                          refine J_ret ?_
                          refine ⟨.inl rfl, _, rfl, .ofB ?_, trivial⟩
                          rw [coR]
                          simp_all [ck1, ck2, ck3, ck4, ck5, cosD_len]
                        · intro h122
                          refine u rfl rfl pF ?_
                          refine u rfl rfl asg ?_
                          refine jd ?_
                          refine w1 2 ?_
                          refine J_ret ?_
                          refine ⟨.inl rfl, _, rfl, .ofB ?_, trivial⟩
                          rw [coR]
                          simp_all [ck1, ck2, ck3, ck4, ck5, cosD_len]
                    · intro h105
                      replace h105 := of_decide_eq_false h105
                      refine u rfl rfl mv ?_
                      refine sk ?_
                      refine sk ?_
                      refine sk ?_
                      refine sk ?_
                      refine sk ?_
                      refine u rfl rfl pF ?_
                      refine u rfl rfl mv ?_
                      refine sk ?_
                      refine sk ?_
                      refine u rfl rfl pF ?_
                      refine u rfl rfl pF ?_
                      refine u rfl rfl mv ?_
                      refine u rfl rfl (lA 5) ?_
                      refine u rfl rfl (fA 1 1) ?_
                      refine u rfl rfl ld ?_
                      refine JR.runC rfl rfl (cl (kWithin (q := coR m) x h (kCoR m x (by omega) hxs))) rfl ?_ ?_
                      · intro h122
                        refine u rfl rfl pF ?_
                        refine u rfl rfl asg ?_
                        refine jd ?_
                        refine w1 2 ?_
                        refine J_ret ?_
                        refine ⟨.inl rfl, _, rfl, .ofB ?_, trivial⟩
                        rw [coR]
                        simp_all [ck1, ck2, ck3, ck4, ck5, cosD_len]
                      · intro h122
                        refine u rfl rfl pF ?_
                        refine u rfl rfl asg ?_
                        refine jd ?_
                        refine w1 2 ?_
                        refine J_ret ?_
                        refine ⟨.inl rfl, _, rfl, .ofB ?_, trivial⟩
                        rw [coR]
                        simp_all [ck1, ck2, ck3, ck4, ck5, cosD_len]
                · intro h88
                  refine u rfl rfl nt ?_
                  refine u rfl rfl pF ?_
                  refine jd ?_
                  refine w4 1 2 90 2001 ?_
                  refine J_condT rfl ?_
                  refine js ?_
                  refine u rfl rfl asg ?_
                  refine jd ?_
                  refine w3 1 2 2001 ?_
                  refine J_ret ?_
                  refine ⟨.inl rfl, _, rfl, .ofB ?_, trivial⟩
                  rw [coR]
                  simp_all [ck1, ck2, ck3, ck4, ck5, cosD_len]
              · intro h82
                refine u rfl rfl nt ?_
                refine u rfl rfl pF ?_
                refine u rfl rfl mv ?_
                refine sk ?_
                refine sk ?_
                refine sk ?_
                refine sk ?_
                refine u rfl rfl pT ?_
                refine jd ?_
                refine w4 1 2 90 2001 ?_
                refine J_condT rfl ?_
                refine js ?_
                refine u rfl rfl asg ?_
                refine jd ?_
                refine w3 1 2 2001 ?_
                refine J_ret ?_
                refine ⟨.inl rfl, _, rfl, .ofB ?_, trivial⟩
                rw [coR]
                simp_all [ck1, ck2, ck3, ck4, ck5, cosD_len]
          · intro h74
            replace h74 := of_decide_eq_false h74
            refine u rfl rfl asg ?_
            refine jd ?_
            refine w5 1 2 5 73 2001 ?_
            refine J_condF rfl ?_
            refine J_seq ?_
            refine js ?_
            refine JR.runB rfl rfl (r_eqI rfl rfl rfl rfl) ?_ ?_
            · intro h125
              replace h125 := of_decide_eq_true h125
              refine u rfl rfl asg ?_
              refine jd ?_
              refine w5 1 2 5 124 2001 ?_
              refine J_condT rfl ?_
              refine J_skip ?_
              refine J_condT rfl ?_
              refine js ?_
              refine u rfl rfl (lA 5) ?_
              refine JR.runC rfl rfl (cl (kFormed (q := coR m) (.mk k h l g ks) (by omega) (fun x hx => by obtain ⟨i, hi⟩ := List.getElem?_of_mem hx; exact kCoR m x (by omega) (hkid hi)))) rfl ?_ ?_
              · intro h129
                refine u rfl rfl asg ?_
                refine jd ?_
                refine w1 2 ?_
                refine J_ret ?_
                refine ⟨.inl rfl, _, rfl, .ofB ?_, trivial⟩
                rw [coR]
                simp_all [ck1, ck2, ck3, ck4, ck5, cosD_len]
              · intro h129
                refine u rfl rfl asg ?_
                refine jd ?_
                refine w1 2 ?_
                refine J_ret ?_
                refine ⟨.inl rfl, _, rfl, .ofB ?_, trivial⟩
                rw [coR]
                simp_all [ck1, ck2, ck3, ck4, ck5, cosD_len]
            · intro h125
              replace h125 := of_decide_eq_false h125
              refine u rfl rfl asg ?_
              refine jd ?_
              refine w5 1 2 5 124 2001 ?_
              refine J_condF rfl ?_
              refine js ?_
              refine JR.runB rfl rfl (r_eqI rfl rfl rfl rfl) ?_ ?_
              · intro h126
                replace h126 := of_decide_eq_true h126
                refine u rfl rfl asg ?_
                refine jd ?_
                refine w5 1 2 5 124 2001 ?_
                refine J_condT rfl ?_
                refine J_skip ?_
                refine J_condT rfl ?_
                refine js ?_
                refine u rfl rfl (lA 5) ?_
                refine JR.runC rfl rfl (cl (kFormed (q := coR m) (.mk k h l g ks) (by omega) (fun x hx => by obtain ⟨i, hi⟩ := List.getElem?_of_mem hx; exact kCoR m x (by omega) (hkid hi)))) rfl ?_ ?_
                · intro h129
                  refine u rfl rfl asg ?_
                  refine jd ?_
                  refine w1 2 ?_
                  refine J_ret ?_
                  refine ⟨.inl rfl, _, rfl, .ofB ?_, trivial⟩
                  rw [coR]
                  simp_all [ck1, ck2, ck3, ck4, ck5, cosD_len]
                · intro h129
                  refine u rfl rfl asg ?_
                  refine jd ?_
                  refine w1 2 ?_
                  refine J_ret ?_
                  refine ⟨.inl rfl, _, rfl, .ofB ?_, trivial⟩
                  rw [coR]
                  simp_all [ck1, ck2, ck3, ck4, ck5, cosD_len]
              · intro h126
                replace h126 := of_decide_eq_false h126
                refine u rfl rfl asg ?_
                refine jd ?_
                refine w5 1 2 5 124 2001 ?_
                refine J_condF rfl ?_
                refine JR.start ?_
                refine JR.runB rfl rfl (r_eqI rfl rfl rfl rfl) ?_ ?_
                · intro h127
                  replace h127 := of_decide_eq_true h127
                  refine u rfl rfl asg ?_
                  refine jd ?_
                  refine w4 1 2 124 2001 ?_
                  refine J_condT rfl ?_
                  refine js ?_
                  refine u rfl rfl (lA 5) ?_
                  refine JR.runC rfl rfl (cl (kFormed (q := coR m) (.mk k h l g ks) (by omega) (fun x hx => by obtain ⟨i, hi⟩ := List.getElem?_of_mem hx; exact kCoR m x (by omega) (hkid hi)))) rfl ?_ ?_
                  · intro h129
                    refine u rfl rfl asg ?_
                    refine jd ?_
                    refine w1 2 ?_
                    refine J_ret ?_
                    refine ⟨.inl rfl, _, rfl, .ofB ?_, trivial⟩
                    rw [coR]
                    simp_all [ck1, ck2, ck3, ck4, ck5, cosD_len]
                  · intro h129
                    refine u rfl rfl asg ?_
                    refine jd ?_
                    refine w1 2 ?_
                    refine J_ret ?_
                    refine ⟨.inl rfl, _, rfl, .ofB ?_, trivial⟩
                    rw [coR]
                    simp_all [ck1, ck2, ck3, ck4, ck5, cosD_len]
                · intro h127
                  replace h127 := of_decide_eq_false h127
                  refine u rfl rfl asg ?_
                  refine jd ?_
                  refine w4 1 2 124 2001 ?_
                  refine J_condF rfl ?_
                  refine J_skip ?_
                  refine js ?_
                  refine u rfl rfl asg ?_
                  refine jd ?_
                  refine w1 2 ?_
                  refine J_ret ?_
                  refine ⟨.inl rfl, _, rfl, .ofB ?_, trivial⟩
                  rw [coR]
                  simp_all [ck1, ck2, ck3, ck4, ck5, cosD_len]

theorem coR_late {m : Nat} {k h l : Int} {g : Bool} {ks : List Co} (h1 : ¬ k = 1) (h7 : ¬ k = 7) (h5 : ¬ k = 5) (h6 : ¬ k = 6) : coR (m + 1) (.mk k h l g ks) = if k = 2 ∨ k = 3 ∨ k = 4 then coF (coR m) (.mk k h l g ks) else false := by
  rw [coR]
  exact (if_neg h1).trans ((if_neg h7).trans ((if_neg h5).trans (if_neg h6)))
theorem mForm_ne {k : Int} (h : mForm k ≠ 0) : k = 2 ∨ k = 3 ∨ k = 4 := by
  unfold mForm at h
  split at h
  · exact .inl ‹_›
  split at h
  · exact .inr (.inl ‹_›)
  split at h
  · exact .inr (.inr ‹_›)
  · exact absurd rfl h
theorem mForm_zero {k : Int} (h : mForm k = 0) : ¬ (k = 2 ∨ k = 3 ∨ k = 4) := by
  rintro (rfl | rfl | rfl) <;> exact absurd h (by decide)
theorem mForm_kids {k n : Int} (h : mForm k ≠ 0) (hn : n = mKids (mForm k)) : n = if k = 4 then 1 else 2 := by
  rcases mForm_ne h with rfl | rfl | rfl <;> (rw [hn]; decide)
theorem kRCoR : ∀ (m : Nat) (c : Co), m ≤ 1000000000 → c.size ≤ m → Con Tryz.prog 80 [.agg (coX c)] [] (.c (.lit (.bool (coR m c)))) []
  | 0, c, _, h => absurd c.size_pos (by omega)
  | m + 1, .mk k h l g ks, hm, hs => by
    have hkid : ∀ {i : Nat} {x : Co}, ks[i]? = some x → x.size ≤ m := fun hx => by have := Co.kid_lt (c := .mk k h l g ks) hx; omega
    have hlt : ks.length ≤ m := by have := (Co.mk k h l g ks).kids_lt; simp only [Co.kids] at this; omega
    have hl := cosD_len ks
    show Con Tryz.prog 80 [.agg [.lit (.int .i64 k), .lit (.int .i64 h), .lit (.int .i64 l), .lit (.bool g), .sl 5 (cosD ks)]] [] _ []
    refine con_intro rfl rfl (by kernel_rfl) (by kernel_rfl) ?_
    refine js ?_
    refine u rfl rfl (r_boxA (x := 2001) rfl rfl rfl rfl) ?_
    refine u rfl rfl asg ?_
    refine jd ?_
    refine w3 1 2 2001 ?_
    refine J_cutF (α := { b : Bool // b = mLab l }) (fun p => [(3, .c (.lit (.bool p.1)))]) [(1, _), (2, _), (2001, _)] ⟨rfl, rfl, rfl, trivial⟩ ?_ ?_
    · skip
      refine JR.start ?_
      refine u rfl rfl (fA 2 1) ?_
      refine u rfl rfl ld ?_
      refine JR.runB rfl rfl (r_geI rfl rfl rfl rfl) ?_ ?_
      · intro h11
        replace h11 := of_decide_eq_true h11
        refine u rfl rfl mv ?_
        refine u rfl rfl (fA 2 1) ?_
        refine u rfl rfl ld ?_
        refine JR.runB rfl rfl (r_leI rfl rfl rfl rfl) ?_ ?_
        · intro h15
          replace h15 := of_decide_eq_true h15
          refine u rfl rfl pT ?_
          refine u rfl rfl asg ?_
          refine jd ?_
          exact cut_in ⟨true, by first | (simp_all [mLab]; done) | (simp [mLab]; omega)⟩ ⟨rfl, rfl, rfl, rfl, trivial⟩
        · intro h15
          replace h15 := of_decide_eq_false h15
          refine u rfl rfl pT ?_
          refine u rfl rfl asg ?_
          refine jd ?_
          exact cut_in ⟨false, by first | (simp_all [mLab]; done) | (simp [mLab]; omega)⟩ ⟨rfl, rfl, rfl, rfl, trivial⟩
      · intro h11
        replace h11 := of_decide_eq_false h11
        refine u rfl rfl mv ?_
        refine sk ?_
        refine sk ?_
        refine sk ?_
        refine u rfl rfl pF ?_
        refine u rfl rfl asg ?_
        refine jd ?_
        exact cut_in ⟨false, by first | (simp_all [mLab]; done) | (simp [mLab]; omega)⟩ ⟨rfl, rfl, rfl, rfl, trivial⟩
    · rintro ⟨b1, hb1⟩
      dsimp only
      refine J_cutF (α := { b : Bool // b = (decide (l = 0) && !g) }) (fun p => [(4, .c (.lit (.bool p.1)))]) [(1, _), (2, _), (3, _), (2001, _)] ⟨rfl, rfl, rfl, rfl, trivial⟩ ?_ ?_
      · skip
        refine JR.start ?_
        refine u rfl rfl (fA 2 1) ?_
        refine u rfl rfl ld ?_
        refine JR.runB rfl rfl (r_eqI rfl rfl rfl rfl) ?_ ?_
        · intro h19
          replace h19 := of_decide_eq_true h19
          refine u rfl rfl mv ?_
          refine u rfl rfl (fA 3 1) ?_
          refine u rfl rfl ld ?_
          refine u rfl rfl nt ?_
          refine u rfl rfl pT ?_
          refine u rfl rfl asg ?_
          refine jd ?_
          exact cut_in ⟨(!g), by simp_all⟩ ⟨rfl, rfl, rfl, rfl, rfl, trivial⟩
        · intro h19
          replace h19 := of_decide_eq_false h19
          refine u rfl rfl mv ?_
          refine sk ?_
          refine sk ?_
          refine sk ?_
          refine u rfl rfl pF ?_
          refine u rfl rfl asg ?_
          refine jd ?_
          exact cut_in ⟨false, by simp_all⟩ ⟨rfl, rfl, rfl, rfl, rfl, trivial⟩
      · rintro ⟨b2, hb2⟩
        dsimp only
        refine J_seq ?_
        refine js ?_
        refine u rfl rfl (fA 0 1) ?_
        refine u rfl rfl ld ?_
        refine jd ?_
        refine w6 1 2 3 4 26 2001 ?_
        refine J_block ?_
        refine js ?_
        refine JR.runB rfl rfl (r_eqI rfl rfl rfl rfl) ?_ ?_
        · intro h28
          replace h28 := of_decide_eq_true h28
          refine u rfl rfl asg ?_
          refine jd ?_
          refine w7 1 2 3 4 26 27 2001 ?_
          refine J_condT rfl ?_
          refine js ?_
          refine u rfl rfl mv ?_
          refine u rfl rfl mv ?_
          cases b2
          · skip
            refine sk ?_
            refine sk ?_
            refine sk ?_
            refine u rfl rfl pF ?_
            refine u rfl rfl mv ?_
            refine sk ?_
            refine sk ?_
            refine sk ?_
            refine sk ?_
            refine u rfl rfl pF ?_
            refine u rfl rfl asg ?_
            refine jd ?_
            refine w4 1 2 4 2001 ?_
            refine J_ret ?_
            refine ⟨.inl rfl, _, rfl, .ofB ?_, trivial⟩
            rw [coR]
            simp_all [ck1, ck2, ck3, ck4, ck5, cosD_len]
          · skip
            refine u rfl rfl (fA 1 1) ?_
            refine u rfl rfl ld ?_
            refine JR.runB rfl rfl (r_eqI rfl rfl rfl rfl) ?_ ?_
            · intro h33
              replace h33 := of_decide_eq_true h33
              refine u rfl rfl pT ?_
              refine u rfl rfl mv ?_
              refine u rfl rfl (fA 4 1) ?_
              refine u rfl rfl ld ?_
              refine u rfl rfl ln0 ?_
              refine JR.runB rfl rfl (r_eqI rfl rfl rfl rfl) ?_ ?_
              · intro h39
                replace h39 := of_decide_eq_true h39
                refine u rfl rfl pT ?_
                refine u rfl rfl asg ?_
                refine jd ?_
                refine w4 1 2 4 2001 ?_
                refine J_ret ?_
                refine ⟨.inl rfl, _, rfl, .ofB ?_, trivial⟩
                rw [coR]
                simp_all [ck1, ck2, ck3, ck4, ck5, cosD_len]
              · intro h39
                replace h39 := of_decide_eq_false h39
                refine u rfl rfl pT ?_
                refine u rfl rfl asg ?_
                refine jd ?_
                refine w4 1 2 4 2001 ?_
                refine J_ret ?_
                refine ⟨.inl rfl, _, rfl, .ofB ?_, trivial⟩
                rw [coR]
                simp_all [ck1, ck2, ck3, ck4, ck5, cosD_len]
            · intro h33
              replace h33 := of_decide_eq_false h33
              refine u rfl rfl pT ?_
              refine u rfl rfl mv ?_
              refine sk ?_
              refine sk ?_
              refine sk ?_
              refine sk ?_
              refine u rfl rfl pF ?_
              refine u rfl rfl asg ?_
              refine jd ?_
              refine w4 1 2 4 2001 ?_
              refine J_ret ?_
              refine ⟨.inl rfl, _, rfl, .ofB ?_, trivial⟩
              rw [coR]
              simp_all [ck1, ck2, ck3, ck4, ck5, cosD_len]
        · intro h28
          replace h28 := of_decide_eq_false h28
          refine u rfl rfl asg ?_
          refine jd ?_
          refine w7 1 2 3 4 26 27 2001 ?_
          refine J_condF rfl ?_
          refine js ?_
          refine JR.runB rfl rfl (r_eqI rfl rfl rfl rfl) ?_ ?_
          · intro h42
            replace h42 := of_decide_eq_true h42
            refine u rfl rfl asg ?_
            refine jd ?_
            refine w7 1 2 3 4 26 41 2001 ?_
            refine J_condT rfl ?_
            refine js ?_
            refine u rfl rfl mv ?_
            refine u rfl rfl mv ?_
            cases b1
            · skip
              refine sk ?_
              refine sk ?_
              refine sk ?_
              refine u rfl rfl pF ?_
              refine u rfl rfl mv ?_
              refine sk ?_
              refine sk ?_
              refine sk ?_
              refine sk ?_
              refine u rfl rfl pF ?_
              refine u rfl rfl asg ?_
              refine jd ?_
              refine w4 1 2 4 2001 ?_
              refine J_ret ?_
              refine ⟨.inl rfl, _, rfl, .ofB ?_, trivial⟩
              rw [coR]
              simp_all [ck1, ck2, ck3, ck4, ck5, cosD_len]
            · skip
              refine u rfl rfl (fA 1 1) ?_
              refine u rfl rfl ld ?_
              refine JR.runB rfl rfl (r_eqI rfl rfl rfl rfl) ?_ ?_
              · intro h47
                replace h47 := of_decide_eq_true h47
                refine u rfl rfl pT ?_
                refine u rfl rfl mv ?_
                refine u rfl rfl (fA 4 1) ?_
                refine u rfl rfl ld ?_
                refine u rfl rfl ln0 ?_
                refine JR.runB rfl rfl (r_eqI rfl rfl rfl rfl) ?_ ?_
                · intro h53
                  replace h53 := of_decide_eq_true h53
                  refine u rfl rfl pT ?_
                  refine u rfl rfl asg ?_
                  refine jd ?_
                  refine w4 1 2 4 2001 ?_
                  refine J_ret ?_
                  refine ⟨.inl rfl, _, rfl, .ofB ?_, trivial⟩
                  rw [coR]
                  simp_all [ck1, ck2, ck3, ck4, ck5, cosD_len]
                · intro h53
                  replace h53 := of_decide_eq_false h53
                  refine u rfl rfl pT ?_
                  refine u rfl rfl asg ?_
                  refine jd ?_
                  refine w4 1 2 4 2001 ?_
                  refine J_ret ?_
                  refine ⟨.inl rfl, _, rfl, .ofB ?_, trivial⟩
                  rw [coR]
                  simp_all [ck1, ck2, ck3, ck4, ck5, cosD_len]
              · intro h47
                replace h47 := of_decide_eq_false h47
                refine u rfl rfl pT ?_
                refine u rfl rfl mv ?_
                refine sk ?_
                refine sk ?_
                refine sk ?_
                refine sk ?_
                refine u rfl rfl pF ?_
                refine u rfl rfl asg ?_
                refine jd ?_
                refine w4 1 2 4 2001 ?_
                refine J_ret ?_
                refine ⟨.inl rfl, _, rfl, .ofB ?_, trivial⟩
                rw [coR]
                simp_all [ck1, ck2, ck3, ck4, ck5, cosD_len]
          · intro h42
            replace h42 := of_decide_eq_false h42
            refine u rfl rfl asg ?_
            refine jd ?_
            refine w7 1 2 3 4 26 41 2001 ?_
            refine J_condF rfl ?_
            refine js ?_
            refine JR.runB rfl rfl (r_eqI rfl rfl rfl rfl) ?_ ?_
            · intro h56
              replace h56 := of_decide_eq_true h56
              refine u rfl rfl asg ?_
              refine jd ?_
              refine w7 1 2 3 4 26 55 2001 ?_
              refine J_condT rfl ?_
              refine js ?_
              refine u rfl rfl mv ?_
              refine u rfl rfl mv ?_
              cases b2
              · skip
                refine sk ?_
                refine sk ?_
                refine sk ?_
                refine u rfl rfl pF ?_
                refine u rfl rfl mv ?_
                refine sk ?_
                refine sk ?_
                refine sk ?_
                refine sk ?_
                refine u rfl rfl pF ?_
                refine u rfl rfl mv ?_
                refine sk ?_
                refine sk ?_
                refine sk ?_
                refine sk ?_
                refine sk ?_
                refine sk ?_
                refine sk ?_
                refine u rfl rfl pF ?_
                refine u rfl rfl asg ?_
                refine jD [0, 1, 3, 7, 15, 31, 63, 127, 255, 511, 1023, 2047, 4095, 8191, 16383, 32767, 65535, 8191, 139263, 524287, 1048575, 2097151] ?_
                refine w4 1 2 4 2001 ?_
                refine J_ret ?_
                refine ⟨.inl rfl, _, rfl, .ofB ?_, trivial⟩
                rw [coR]
                simp_all [ck1, ck2, ck3, ck4, ck5, cosD_len]
              · skip
                refine u rfl rfl (fA 1 1) ?_
                refine u rfl rfl ld ?_
                refine JR.runC rfl rfl (cl (kRHead h)) rfl ?_ ?_
                · intro h61
                  refine u rfl rfl pT ?_
                  refine u rfl rfl mv ?_
                  refine u rfl rfl (fA 4 1) ?_
                  refine u rfl rfl ld ?_
                  refine u rfl rfl ln0 ?_
                  refine JR.runB rfl rfl (r_eqI rfl rfl rfl rfl) ?_ ?_
                  · intro h67
                    replace h67 := of_decide_eq_true h67
                    obtain ⟨x, hx⟩ := get_some (l := ks) (i := 0) (by omega)
                    have hxs := hkid hx
                    have hk0 := coK_of hx
                    refine u rfl rfl pT ?_
                    refine u rfl rfl mv ?_
                    refine u rfl rfl (fA 4 1) ?_
                    refine u rfl rfl ld ?_
                    refine u rfl rfl (r_indexAddr (e := 27) (sz := 5) rfl rfl (by kernel_rfl) rfl rfl (Int.le_refl 0) (cosD_at (i := 0) hx)) ?_
                    refine u rfl rfl (eA 5) ?_
                    refine u rfl rfl (fA 1 1) ?_
                    refine u rfl rfl ld ?_
                    refine JR.runC rfl rfl (cl (kPlain (q := coR m) x h (kRCoR m x (by omega) hxs))) rfl ?_ ?_
                    · intro h76
                      refine u rfl rfl pT ?_
                      refine u rfl rfl asg ?_
                      refine jD [0, 1, 3, 7, 15, 31, 63, 127, 255, 511, 1023, 2047, 4095, 8191, 16383, 32767, 65535, 8191, 139263, 524287, 1048575, 2097151] ?_
                      refine w4 1 2 4 2001 ?_
                      refine J_ret ?_
                      refine ⟨.inl rfl, _, rfl, .ofB ?_, trivial⟩
                      rw [coR]
                      simp_all [ck1, ck2, ck3, ck4, ck5, cosD_len]
                    · intro h76
                      refine u rfl rfl pT ?_
                      refine u rfl rfl asg ?_
                      refine jD [0, 1, 3, 7, 15, 31, 63, 127, 255, 511, 1023, 2047, 4095, 8191, 16383, 32767, 65535, 8191, 139263, 524287, 1048575, 2097151] ?_
                      refine w4 1 2 4 2001 ?_
                      refine J_ret ?_
                      refine ⟨.inl rfl, _, rfl, .ofB ?_, trivial⟩
                      rw [coR]
                      simp_all [ck1, ck2, ck3, ck4, ck5, cosD_len]
                  · intro h67
                    replace h67 := of_decide_eq_false h67
                    refine u rfl rfl pT ?_
                    refine u rfl rfl mv ?_
                    refine sk ?_
                    refine sk ?_
                    refine sk ?_
                    refine sk ?_
                    refine sk ?_
                    refine sk ?_
                    refine sk ?_
                    refine u rfl rfl pF ?_
                    refine u rfl rfl asg ?_
                    refine jD [0, 1, 3, 7, 15, 31, 63, 127, 255, 511, 1023, 2047, 4095, 8191, 16383, 32767, 65535, 8191, 139263, 524287, 1048575, 2097151] ?_
                    refine w4 1 2 4 2001 ?_
                    refine J_ret ?_
                    refine ⟨.inl rfl, _, rfl, .ofB ?_, trivial⟩
                    rw [coR]
                    simp_all [ck1, ck2, ck3, ck4, ck5, cosD_len]
                · intro h61
                  refine u rfl rfl pT ?_
                  refine u rfl rfl mv ?_
                  refine sk ?_
                  refine sk ?_
                  refine sk ?_
                  refine sk ?_
                  refine u rfl rfl pF ?_
                  refine u rfl rfl mv ?_
                  refine sk ?_
                  refine sk ?_
                  refine sk ?_
                  refine sk ?_
                  refine sk ?_
                  refine sk ?_
                  refine sk ?_
                  refine u rfl rfl pF ?_
                  refine u rfl rfl asg ?_
                  refine jD [0, 1, 3, 7, 15, 31, 63, 127, 255, 511, 1023, 2047, 4095, 8191, 16383, 32767, 65535, 8191, 139263, 524287, 1048575, 2097151] ?_
                  refine w4 1 2 4 2001 ?_
                  refine J_ret ?_
                  refine ⟨.inl rfl, _, rfl, .ofB ?_, trivial⟩
                  rw [coR]
                  simp_all [ck1, ck2, ck3, ck4, ck5, cosD_len]
            · intro h56
              replace h56 := of_decide_eq_false h56
              refine u rfl rfl asg ?_
              refine jd ?_
              refine w7 1 2 3 4 26 55 2001 ?_
              refine J_condF rfl ?_
              refine js ?_
              refine JR.runB rfl rfl (r_eqI rfl rfl rfl rfl) ?_ ?_
              · intro h79
                replace h79 := of_decide_eq_true h79
                refine u rfl rfl asg ?_
                refine jd ?_
                refine w6 1 2 3 4 78 2001 ?_
                refine J_condT rfl ?_
                refine J_seq ?_
                refine js ?_
                refine u rfl rfl mv ?_
                refine u rfl rfl nt ?_
                refine u rfl rfl mv ?_
                cases b1
                · skip
                  refine sk ?_
                  refine sk ?_
                  refine sk ?_
                  refine sk ?_
                  refine u rfl rfl pT ?_
                  refine u rfl rfl mv ?_
                  refine sk ?_
                  refine sk ?_
                  refine sk ?_
                  refine sk ?_
                  refine u rfl rfl pT ?_
                  refine jd ?_
                  refine w5 1 2 4 93 2001 ?_
                  refine J_condT rfl ?_
                  refine js ?_
                  refine u rfl rfl asg ?_
                  refine jd ?_
                  refine w4 1 2 4 2001 ?_
                  refine J_ret ?_
                  refine ⟨.inl rfl, _, rfl, .ofB ?_, trivial⟩
                  rw [coR]
                  simp_all [ck1, ck2, ck3, ck4, ck5, cosD_len]
                · skip
                  refine u rfl rfl (fA 1 1) ?_
                  refine u rfl rfl ld ?_
                  refine JR.runC rfl rfl (cl (kRHead h)) rfl ?_ ?_
                  · intro h85
                    refine u rfl rfl nt ?_
                    refine u rfl rfl pF ?_
                    refine u rfl rfl mv ?_
                    refine u rfl rfl (fA 4 1) ?_
                    refine u rfl rfl ld ?_
                    refine u rfl rfl ln0 ?_
                    refine JR.runB rfl rfl (r_neI rfl rfl rfl rfl) ?_ ?_
                    · intro h92
                      replace h92 := of_decide_eq_false (nT h92)
                      refine u rfl rfl pF ?_
                      refine jd ?_
                      refine w5 1 2 4 93 2001 ?_
                      refine J_condT rfl ?_
                      refine js ?_
                      refine u rfl rfl asg ?_
                      refine jd ?_
                      refine w4 1 2 4 2001 ?_
                      refine J_ret ?_
                      refine ⟨.inl rfl, _, rfl, .ofB ?_, trivial⟩
                      rw [coR]
                      simp_all [ck1, ck2, ck3, ck4, ck5, cosD_len]
                    · intro h92
                      replace h92 := of_decide_eq_true (nF h92)
                      obtain ⟨x, hx⟩ := get_some (l := ks) (i := 0) (by omega)
                      have hxs := hkid hx
                      have hk0 := coK_of hx
                      refine u rfl rfl pF ?_
                      refine jd ?_
                      refine w5 1 2 4 93 2001 ?_
                      refine J_condF rfl ?_
                      refine J_skip ?_
                      refine js ?_
                      refine u rfl rfl (fA 4 1) ?_
                      refine u rfl rfl ld ?_
                      refine u rfl rfl (r_indexAddr (e := 27) (sz := 5) rfl rfl (by kernel_rfl) rfl rfl (Int.le_refl 0) (cosD_at (i := 0) hx)) ?_
                      refine u rfl rfl (eA 5) ?_
                      refine u rfl rfl (r_alloc (x := 2005) (zs := [.int .i64 0, .int .i64 0, .int .i64 0, .bool false, .slice none 0 0]) [.lit (.int .i64 0), .lit (.int .i64 0), .lit (.int .i64 0), .lit (.bool false), .sl 5 []] rfl rfl rfl (by kernel_rfl) ⟨.refl _, .refl _, .refl _, .refl _, .nil _, trivial⟩) ?_
                      refine u rfl rfl sA ?_
                      refine jd ?_
                      refine w6 1 2 4 5 2001 2005 ?_
                      refine js ?_
                      refine u rfl rfl (lA 5) ?_
                      refine u rfl rfl (fA 1 1) ?_
                      refine u rfl rfl ld ?_
                      refine JR.runC rfl rfl (cl (kPlain (q := coR m) x h (kRCoR m x (by omega) hxs))) rfl ?_ ?_
                      · intro h101
                        refine u rfl rfl mv ?_
                        refine sk ?_
                        refine sk ?_
                        refine sk ?_
                        refine sk ?_
                        refine sk ?_
                        refine sk ?_
                        refine sk ?_
                        refine sk ?_
                        refine sk ?_
                        refine sk ?_
                        refine sk ?_
                        refine sk ?_
                        refine sk ?_
                        refine sk ?_
                        refine sk ?_
                        refine sk ?_
                        refine sk ?_
                        refine sk ?_
                        refine sk ?_
                        refine u rfl rfl pT ?_
                        refine u rfl rfl asg ?_
                        refine jd ?_
                        refine w4 1 2 4 2001 ?_
                        refine J_ret ?_
                        refine ⟨.inl rfl, _, rfl, .ofB ?_, trivial⟩
                        rw [coR]
                        simp_all [ck1, ck2, ck3, ck4, ck5, cosD_len]
                      · intro h101
                        refine u rfl rfl mv ?_
                        refine u rfl rfl (fA 0 1) ?_
                        refine u rfl rfl ld ?_
                        refine JR.runB rfl rfl (r_eqI rfl rfl rfl rfl) ?_ ?_
                        · intro h105
                          replace h105 := of_decide_eq_true h105
                          refine u rfl rfl mv ?_
                          refine sk ?_
                          refine sk ?_
                          refine sk ?_
                          refine sk ?_
                          refine sk ?_
                          refine sk ?_
                          refine sk ?_
                          refine sk ?_
                          refine sk ?_
                          refine sk ?_
                          refine u rfl rfl pT ?_
                          refine u rfl rfl mv ?_
                          refine u rfl rfl (lA 5) ?_
                          refine JR.runC rfl rfl (cl (kRCoR m x (by omega) hxs)) rfl ?_ ?_
                          · intro h120
                            refine u rfl rfl pT ?_
                            refine u rfl rfl pF ?_
                            refine u rfl rfl asg ?_
                            refine jd ?_
                            refine w4 1 2 4 2001 ?_
                            refine J_ret ?_
                            refine ⟨.inl rfl, _, rfl, .ofB ?_, trivial⟩
                            rw [coR]
                            simp_all [ck1, ck2, ck3, ck4, ck5, cosD_len]
                          · intro h120
                            refine u rfl rfl pT ?_
                            refine u rfl rfl pF ?_
                            refine u rfl rfl asg ?_
                            refine jd ?_
                            refine w4 1 2 4 2001 ?_
                            refine J_ret ?_
                            refine ⟨.inl rfl, _, rfl, .ofB ?_, trivial⟩
                            rw [coR]
                            simp_all [ck1, ck2, ck3, ck4, ck5, cosD_len]
                        · intro h105
                          replace h105 := of_decide_eq_false h105
                          refine u rfl rfl mv ?_
                          refine u rfl rfl (fA 0 1) ?_
                          refine u rfl rfl ld ?_
                          refine JR.runB rfl rfl (r_eqI rfl rfl rfl rfl) ?_ ?_
                          · intro h109
                            replace h109 := of_decide_eq_true h109
                            refine u rfl rfl mv ?_
                            refine u rfl rfl (fA 1 1) ?_
                            refine u rfl rfl ld ?_
                            refine u rfl rfl (fA 1 1) ?_
                            refine u rfl rfl ld ?_
                            refine JR.runB rfl rfl (r_eqI rfl rfl rfl rfl) ?_ ?_
                            · intro h115
                              replace h115 := of_decide_eq_true h115
                              refine u rfl rfl pT ?_
                              refine u rfl rfl pF ?_
                              refine u rfl rfl mv ?_
                              refine u rfl rfl (lA 5) ?_
                              refine JR.runC rfl rfl (cl (kRCoR m x (by omega) hxs)) rfl ?_ ?_
                              · intro h120
                                refine u rfl rfl pT ?_
                                refine u rfl rfl pF ?_
                                refine u rfl rfl asg ?_
                                refine jd ?_
                                refine w4 1 2 4 2001 ?_
                                refine J_ret ?_
                                refine ⟨.inl rfl, _, rfl, .ofB ?_, trivial⟩
                                rw [coR]
                                simp_all [ck1, ck2, ck3, ck4, ck5, cosD_len]
                              · intro h120
                                refine u rfl rfl pT ?_
                                refine u rfl rfl pF ?_
                                refine u rfl rfl asg ?_
                                refine jd ?_
                                refine w4 1 2 4 2001 ?_
                                refine J_ret ?_
                                refine ⟨.inl rfl, _, rfl, .ofB ?_, trivial⟩
                                rw [coR]
                                simp_all [ck1, ck2, ck3, ck4, ck5, cosD_len]
                            · intro h115
                              replace h115 := of_decide_eq_false h115
                              refine u rfl rfl pT ?_
                              refine u rfl rfl pF ?_
                              refine u rfl rfl mv ?_
                              refine sk ?_
                              refine sk ?_
                              refine u rfl rfl pF ?_
                              refine u rfl rfl pF ?_
                              refine u rfl rfl asg ?_
                              refine jd ?_
                              refine w4 1 2 4 2001 ?_
                              refine J_ret ?_
                              refine ⟨.inl rfl, _, rfl, .ofB ?_, trivial⟩
                              rw [coR]
                              simp_all [ck1, ck2, ck3, ck4, ck5, cosD_len]
                          · intro h109
                            replace h109 := of_decide_eq_false h109
                            refine u rfl rfl mv ?_
                            refine sk ?_
                            refine sk ?_
                            refine sk ?_
                            refine sk ?_
                            refine sk ?_
                            refine u rfl rfl pF ?_
                            refine u rfl rfl pF ?_
                            refine u rfl rfl mv ?_
                            refine sk ?_
                            refine sk ?_
                            refine u rfl rfl pF ?_
                            refine u rfl rfl pF ?_
                            refine u rfl rfl asg ?_
                            refine jd ?_
                            refine w4 1 2 4 2001 ?_
                            refine J_ret ?_
                            refine ⟨.inl rfl, _, rfl, .ofB ?_, trivial⟩
                            rw [coR]
                            simp_all [ck1, ck2, ck3, ck4, ck5, cosD_len]
                  · intro h85
                    refine u rfl rfl nt ?_
                    refine u rfl rfl pF ?_
                    refine u rfl rfl mv ?_
                    refine sk ?_
                    refine sk ?_
                    refine sk ?_
                    refine sk ?_
                    refine u rfl rfl pT ?_
                    refine jd ?_
                    refine w5 1 2 4 93 2001 ?_
                    refine J_condT rfl ?_
                    refine js ?_
                    refine u rfl rfl asg ?_
                    refine jd ?_
                    refine w4 1 2 4 2001 ?_
                    refine J_ret ?_
                    refine ⟨.inl rfl, _, rfl, .ofB ?_, trivial⟩
                    rw [coR]
                    simp_all [ck1, ck2, ck3, ck4, ck5, cosD_len]
              · intro h79
                replace h79 := of_decide_eq_false h79
                refine u rfl rfl asg ?_
                refine jd ?_
                refine w6 1 2 3 4 78 2001 ?_
                refine J_condF rfl ?_
                refine J_skip ?_
                refine js ?_
                refine u rfl rfl (fA 0 1) ?_
                refine u rfl rfl ld ?_
                refine u rfl rfl (cl (kRFormer k)) ?_
                refine u rfl rfl asg ?_
                refine jd ?_
                refine w5 1 2 4 6 2001 ?_
                refine J_seq ?_
                refine js ?_
                refine u rfl rfl mv ?_
                refine JR.runB rfl rfl (r_eqI rfl rfl rfl rfl) ?_ ?_
                · intro h127
                  replace h127 := of_decide_eq_true h127
                  refine u rfl rfl mv ?_
                  refine sk ?_
                  refine sk ?_
                  refine u rfl rfl pT ?_
                  refine u rfl rfl mv ?_
                  refine sk ?_
                  refine sk ?_
                  refine sk ?_
                  refine u rfl rfl pT ?_
                  refine u rfl rfl mv ?_
                  refine sk ?_
                  refine sk ?_
                  refine sk ?_
                  refine sk ?_
                  refine sk ?_
                  refine sk ?_
                  refine u rfl rfl pT ?_
                  refine jD [0, 1, 3, 7, 15, 31, 63, 127, 255, 511, 1023, 2047, 4095, 8191, 16383, 4095, 36863, 131071, 262143] ?_
                  refine w4 1 2 144 2001 ?_
                  refine J_condT rfl ?_
                  refine js ?_
                  refine u rfl rfl asg ?_
                  refine jd ?_
                  refine w3 1 2 2001 ?_
                  refine J_ret ?_
                  refine ⟨.inl rfl, _, rfl, .ofB ?_, trivial⟩
                  have hor := mForm_zero h127
                  rw [coR_late h28 h42 h56 h79, if_neg hor]
                · intro h127
                  replace h127 := of_decide_eq_false h127
                  refine u rfl rfl mv ?_
                  refine u rfl rfl mv ?_
                  refine u rfl rfl nt ?_
                  refine u rfl rfl pF ?_
                  refine u rfl rfl mv ?_
                  cases b2
                  · skip
                    refine sk ?_
                    refine sk ?_
                    refine sk ?_
                    refine u rfl rfl pT ?_
                    refine u rfl rfl mv ?_
                    refine sk ?_
                    refine sk ?_
                    refine sk ?_
                    refine sk ?_
                    refine sk ?_
                    refine sk ?_
                    refine u rfl rfl pT ?_
                    refine jD [0, 1, 3, 7, 15, 31, 63, 127, 255, 511, 1023, 2047, 4095, 8191, 16383, 4095, 36863, 131071, 262143] ?_
                    refine w4 1 2 144 2001 ?_
                    refine J_condT rfl ?_
                    refine js ?_
                    refine u rfl rfl asg ?_
                    refine jd ?_
                    refine w3 1 2 2001 ?_
                    refine J_ret ?_
                    refine ⟨.inl rfl, _, rfl, .ofB ?_, trivial⟩
                    have hor := mForm_ne h127
                    rw [coR_late h28 h42 h56 h79, if_pos hor]
                    clear hor
                    rw [Bool.eq_false_iff]
                    intro q
                    simp only [coF, ck1, ck2, ck3, ck4, ck5, Bool.and_eq_true, decide_eq_true_eq] at q
                    obtain ⟨⟨⟨⟨⟨q1, q2⟩, q3⟩, q4⟩, q5⟩, q6⟩ := q
                    simp [of_decide_eq_true q3, q4] at hb2
                  · skip
                    refine u rfl rfl (fA 1 1) ?_
                    refine u rfl rfl ld ?_
                    refine JR.runB rfl rfl (r_neI rfl rfl rfl rfl) ?_ ?_
                    · intro h135
                      replace h135 := of_decide_eq_false (nT h135)
                      refine u rfl rfl pF ?_
                      refine u rfl rfl mv ?_
                      refine sk ?_
                      refine sk ?_
                      refine sk ?_
                      refine sk ?_
                      refine sk ?_
                      refine sk ?_
                      refine u rfl rfl pT ?_
                      refine jD [0, 1, 3, 7, 15, 31, 63, 127, 255, 511, 1023, 2047, 4095, 8191, 16383, 4095, 36863, 131071, 262143] ?_
                      refine w4 1 2 144 2001 ?_
                      refine J_condT rfl ?_
                      refine js ?_
                      refine u rfl rfl asg ?_
                      refine jd ?_
                      refine w3 1 2 2001 ?_
                      refine J_ret ?_
                      refine ⟨.inl rfl, _, rfl, .ofB ?_, trivial⟩
                      have hor := mForm_ne h127
                      rw [coR_late h28 h42 h56 h79, if_pos hor]
                      clear hor
                      simp_all [coF, ck1, ck2, ck3, ck4, ck5, cosD_len]
                    · intro h135
                      replace h135 := of_decide_eq_true (nF h135)
                      refine u rfl rfl pF ?_
                      refine u rfl rfl mv ?_
                      refine u rfl rfl (fA 4 1) ?_
                      refine u rfl rfl ld ?_
                      refine u rfl rfl ln0 ?_
                      refine u rfl rfl mv ?_
                      refine u rfl rfl (cl (kKids (mForm k))) ?_
                      refine JR.runB rfl rfl (r_neI rfl rfl rfl rfl) ?_ ?_
                      · intro h143
                        replace h143 := of_decide_eq_false (nT h143)
                        refine u rfl rfl pF ?_
                        refine jD [0, 1, 3, 7, 15, 31, 63, 127, 255, 511, 1023, 2047, 4095, 8191, 16383, 4095, 36863, 131071, 262143] ?_
                        refine w4 1 2 144 2001 ?_
                        refine J_condT rfl ?_
                        refine js ?_
                        refine u rfl rfl asg ?_
                        refine jd ?_
                        refine w3 1 2 2001 ?_
                        refine J_ret ?_
                        refine ⟨.inl rfl, _, rfl, .ofB ?_, trivial⟩
                        have hor := mForm_ne h127
                        rw [coR_late h28 h42 h56 h79, if_pos hor]
                        clear hor
                        rw [Bool.eq_false_iff]
                        intro q
                        simp only [coF, ck1, ck2, ck3, ck4, ck5, Bool.and_eq_true, decide_eq_true_eq] at q
                        obtain ⟨⟨⟨⟨⟨q1, q2⟩, q3⟩, q4⟩, q5⟩, q6⟩ := q
                        exact h143 (by have := (of_decide_eq_true q1).trans (mForm_kids h127 rfl).symm; omega)
                      · intro h143
                        replace h143 := of_decide_eq_true (nF h143)
                        refine u rfl rfl pF ?_
                        refine jD [0, 1, 3, 7, 15, 31, 63, 127, 255, 511, 1023, 2047, 4095, 8191, 16383, 4095, 36863, 131071, 262143] ?_
                        refine w4 1 2 144 2001 ?_
                        refine J_condF rfl ?_
                        refine J_skip ?_
                        refine js ?_
                        refine u rfl rfl asg ?_
                        refine jd ?_
                        refine w4 1 2 7 2001 ?_
                        refine J_seq ?_
                        refine js ?_
                        refine u rfl rfl asg ?_
                        refine jd ?_
                        refine w5 1 2 7 8 2001 ?_
                        refine J_block ?_
                        refine J_loopF (α := { p : Nat × Bool // p.1 ≤ ks.length ∧ ks.all (coR m) = (ks.drop p.1).all (coR m) ∧ (ks.all fun k => decide (k.kind = 1)) = (!p.2 && (ks.drop p.1).all fun k => decide (k.kind = 1)) }) (fun p => [(8, .c (.lit (.int .i64 (p.1.1 : Int)))), (7, .c (.lit (.bool p.1.2)))]) [(1, _), (2, _), (2001, _)] (fun p => ks.length - p.1.1) ⟨(0, false), Nat.zero_le _, rfl, rfl⟩ ⟨rfl, rfl, rfl, rfl, rfl, trivial⟩ ?_
                        rintro ⟨⟨i, b⟩, hi, hI, hJ⟩
                        dsimp only at hi hI hJ ⊢
                        cases b
                        · skip
                          refine J_seq ?_
                          refine js ?_
                          refine u rfl rfl mv ?_
                          refine u rfl rfl (fA 4 1) ?_
                          refine u rfl rfl ld ?_
                          refine u rfl rfl ln0 ?_
                          refine JR.runB rfl rfl (r_ltI rfl rfl rfl rfl) ?_ ?_
                          · intro h149
                            replace h149 := of_decide_eq_true h149
                            obtain ⟨x, hx⟩ := get_some (l := ks) (i := i) (by omega)
                            have hxs := hkid hx
                            refine jd ?_
                            refine w10 1 2 7 8 145 146 147 148 149 2001 ?_
                            refine J_condT rfl ?_
                            refine J_skip ?_
                            refine J_seq ?_
                            refine J_block ?_
                            refine J_seq ?_
                            refine js ?_
                            refine u rfl rfl (fA 4 1) ?_
                            refine u rfl rfl ld ?_
                            refine u rfl rfl mv ?_
                            refine u rfl rfl (r_indexAddr (e := 27) (sz := 5) rfl rfl (by kernel_rfl) rfl rfl (by omega) (cosD_at hx)) ?_
                            refine u rfl rfl (eA 5) ?_
                            refine JR.runC rfl rfl (cl (kRCoR m x (by omega) hxs)) rfl ?_ ?_
                            · intro h157
                              refine u rfl rfl nt ?_
                              refine jd ?_
                              refine w17 1 2 7 8 145 146 147 148 149 152 153 154 155 156 157 158 2001 ?_
                              refine J_condF rfl ?_
                              refine J_skip ?_
                              refine JR.start ?_
                              refine u rfl rfl mv ?_
                              refine u rfl rfl mv ?_
                              refine u rfl rfl (fA 4 1) ?_
                              refine u rfl rfl ld ?_
                              refine u rfl rfl mv ?_
                              refine u rfl rfl (r_indexAddr (e := 27) (sz := 5) rfl rfl (by kernel_rfl) rfl rfl (by omega) (cosD_at hx)) ?_
                              refine u rfl rfl (fE 0 1) ?_
                              refine u rfl rfl lE ?_
                              refine JR.runB rfl rfl (r_neI rfl rfl rfl rfl) ?_ ?_
                              · intro h167
                                replace h167 := of_decide_eq_false (nT h167)
                                refine u rfl rfl pF ?_
                                refine u rfl rfl asg ?_
                                refine jd ?_
                                refine J_weak [(1, _), (2, _), (7, _), (8, _), (145, _), (146, _), (147, _), (148, _), (149, _), (152, _), (153, _), (154, _), (155, _), (156, _), (157, _), (158, _), (159, _), (160, _), (161, _), (162, _), (163, _), (164, _), (165, _), (166, _), (167, _), (168, _), (2001, _)] ⟨rfl, rfl, rfl, rfl, rfl, rfl, rfl, rfl, rfl, rfl, rfl, rfl, rfl, rfl, rfl, rfl, rfl, rfl, rfl, rfl, rfl, rfl, rfl, rfl, rfl, rfl, rfl, trivial⟩ ?_
                                refine JR.start ?_
                                refine u rfl rfl mv ?_
                                refine u rfl rfl (r_addI rfl rfl rfl rfl (by omega)) ?_
                                refine u rfl rfl asg ?_
                                refine jd ?_
                                refine ⟨⟨(i + 1, true), by simp only; omega, by rw [hI, allId_step hx (coR m), h157, Bool.true_and], by rw [hJ, allId_step hx fun k => decide (k.kind = 1)]; simp_all⟩, by simp only; omega, rfl, rfl, rfl, rfl, rfl, trivial⟩
                              · intro h167
                                replace h167 := of_decide_eq_true (nF h167)
                                refine u rfl rfl pF ?_
                                refine u rfl rfl asg ?_
                                refine jd ?_
                                refine J_weak [(1, _), (2, _), (7, _), (8, _), (145, _), (146, _), (147, _), (148, _), (149, _), (152, _), (153, _), (154, _), (155, _), (156, _), (157, _), (158, _), (159, _), (160, _), (161, _), (162, _), (163, _), (164, _), (165, _), (166, _), (167, _), (168, _), (2001, _)] ⟨rfl, rfl, rfl, rfl, rfl, rfl, rfl, rfl, rfl, rfl, rfl, rfl, rfl, rfl, rfl, rfl, rfl, rfl, rfl, rfl, rfl, rfl, rfl, rfl, rfl, rfl, rfl, trivial⟩ ?_
                                refine JR.start ?_
                                refine u rfl rfl mv ?_
                                refine u rfl rfl (r_addI rfl rfl rfl rfl (by omega)) ?_
                                refine u rfl rfl asg ?_
                                refine jd ?_
                                refine ⟨⟨(i + 1, false), by simp only; omega, by rw [hI, allId_step hx (coR m), h157, Bool.true_and], by rw [hJ, allId_step hx fun k => decide (k.kind = 1)]; simp_all⟩, by simp only; omega, rfl, rfl, rfl, rfl, rfl, trivial⟩
                            · intro h157
                              refine u rfl rfl nt ?_
                              refine jd ?_
                              refine w17 1 2 7 8 145 146 147 148 149 152 153 154 155 156 157 158 2001 ?_
                              refine J_condT rfl ?_
                              refine js ?_
                              refine u rfl rfl asg ?_
                              refine jd ?_
                              refine w17 1 2 7 8 145 146 147 148 149 152 153 154 155 156 157 158 2001 ?_
                              refine J_ret ?_
                              refine ⟨.inl rfl, _, rfl, .ofB ?_, trivial⟩
                              have hor := mForm_ne h127
                              rw [coR_late h28 h42 h56 h79, if_pos hor]
                              clear hor
                              have e1 := allId_step hx (coR m)
                              rw [h157, Bool.false_and] at e1
                              have e2 : ks.all (coR m) = false := by rw [hI, e1]
                              simp [coF, Co.kids, e2]
                          · intro h149
                            replace h149 := of_decide_eq_false h149
                            refine jd ?_
                            refine w10 1 2 7 8 145 146 147 148 149 2001 ?_
                            refine J_condF rfl ?_
                            refine J_exit ?_
                            refine js ?_
                            refine u rfl rfl mv ?_
                            refine u rfl rfl asg ?_
                            refine jd ?_
                            refine w1 2 ?_
                            refine J_ret ?_
                            refine ⟨.inl rfl, _, rfl, .ofB ?_, trivial⟩
                            have hor := mForm_ne h127
                            rw [coR_late h28 h42 h56 h79, if_pos hor]
                            clear hor
                            rw [List.drop_eq_nil_of_le (by omega)] at hI hJ
                            have hkk := mForm_kids h127 h143
                            simp_all [coF, ck1, ck2, ck3, ck4, ck5, cosD_len]
                        · skip
                          refine J_seq ?_
                          refine js ?_
                          refine u rfl rfl mv ?_
                          refine u rfl rfl (fA 4 1) ?_
                          refine u rfl rfl ld ?_
                          refine u rfl rfl ln0 ?_
                          refine JR.runB rfl rfl (r_ltI rfl rfl rfl rfl) ?_ ?_
                          · intro h149
                            replace h149 := of_decide_eq_true h149
                            obtain ⟨x, hx⟩ := get_some (l := ks) (i := i) (by omega)
                            have hxs := hkid hx
                            refine jd ?_
                            refine w10 1 2 7 8 145 146 147 148 149 2001 ?_
                            refine J_condT rfl ?_
                            refine J_skip ?_
                            refine J_seq ?_
                            refine J_block ?_
                            refine J_seq ?_
                            refine js ?_
                            refine u rfl rfl (fA 4 1) ?_
                            refine u rfl rfl ld ?_
                            refine u rfl rfl mv ?_
                            refine u rfl rfl (r_indexAddr (e := 27) (sz := 5) rfl rfl (by kernel_rfl) rfl rfl (by omega) (cosD_at hx)) ?_
                            refine u rfl rfl (eA 5) ?_
                            refine JR.runC rfl rfl (cl (kRCoR m x (by omega) hxs)) rfl ?_ ?_
                            · intro h157
                              refine u rfl rfl nt ?_
                              refine jd ?_
                              refine w17 1 2 7 8 145 146 147 148 149 152 153 154 155 156 157 158 2001 ?_
                              refine J_condF rfl ?_
                              refine J_skip ?_
                              refine JR.start ?_
                              refine u rfl rfl mv ?_
                              refine u rfl rfl mv ?_
                              refine sk ?_
                              refine sk ?_
                              refine sk ?_
                              refine sk ?_
                              refine sk ?_
                              refine sk ?_
                              refine sk ?_
                              refine u rfl rfl pT ?_
                              refine u rfl rfl asg ?_
                              refine jd ?_
                              refine J_weak [(1, _), (2, _), (7, _), (8, _), (145, _), (146, _), (147, _), (148, _), (149, _), (152, _), (153, _), (154, _), (155, _), (156, _), (157, _), (158, _), (159, _), (160, _), (168, _), (2001, _)] ⟨rfl, rfl, rfl, rfl, rfl, rfl, rfl, rfl, rfl, rfl, rfl, rfl, rfl, rfl, rfl, rfl, rfl, rfl, rfl, rfl, trivial⟩ ?_
                              refine JR.start ?_
                              refine u rfl rfl mv ?_
                              refine u rfl rfl (r_addI rfl rfl rfl rfl (by omega)) ?_
                              refine u rfl rfl asg ?_
                              refine jd ?_
                              refine ⟨⟨(i + 1, true), by simp only; omega, by rw [hI, allId_step hx (coR m), h157, Bool.true_and], by rw [hJ, allId_step hx fun k => decide (k.kind = 1)]; simp_all⟩, by simp only; omega, rfl, rfl, rfl, rfl, rfl, trivial⟩
                            · intro h157
                              refine u rfl rfl nt ?_
                              refine jd ?_
                              refine w17 1 2 7 8 145 146 147 148 149 152 153 154 155 156 157 158 2001 ?_
                              refine J_condT rfl ?_
                              refine js ?_
                              refine u rfl rfl asg ?_
                              refine jd ?_
                              refine w17 1 2 7 8 145 146 147 148 149 152 153 154 155 156 157 158 2001 ?_
                              refine J_ret ?_
                              refine ⟨.inl rfl, _, rfl, .ofB ?_, trivial⟩
                              have hor := mForm_ne h127
                              rw [coR_late h28 h42 h56 h79, if_pos hor]
                              clear hor
                              have e1 := allId_step hx (coR m)
                              rw [h157, Bool.false_and] at e1
                              have e2 : ks.all (coR m) = false := by rw [hI, e1]
                              simp [coF, Co.kids, e2]
                          · intro h149
                            replace h149 := of_decide_eq_false h149
                            refine jd ?_
                            refine w10 1 2 7 8 145 146 147 148 149 2001 ?_
                            refine J_condF rfl ?_
                            refine J_exit ?_
                            refine js ?_
                            refine u rfl rfl mv ?_
                            refine u rfl rfl asg ?_
                            refine jd ?_
                            refine w1 2 ?_
                            refine J_ret ?_
                            refine ⟨.inl rfl, _, rfl, .ofB ?_, trivial⟩
                            have hor := mForm_ne h127
                            rw [coR_late h28 h42 h56 h79, if_pos hor]
                            clear hor
                            rw [List.drop_eq_nil_of_le (by omega)] at hI hJ
                            have hkk := mForm_kids h127 h143
                            simp_all [coF, ck1, ck2, ck3, ck4, ck5, cosD_len]

theorem kCoCheck (c : Co) (hs : c.size ≤ 1000000000) : Con Tryz.prog 85 [.agg (coX c)] [] (.c (.lit (.int .i64 (if coR c.size c then 0 else 1)))) [] := by
  refine con_intro rfl rfl (by kernel_rfl) (by kernel_rfl) ?_
  refine js ?_
  refine u rfl rfl (r_boxA (x := 2001) rfl rfl rfl rfl) ?_
  refine u rfl rfl asg ?_
  refine jd ?_
  refine w3 1 2 2001 ?_
  refine J_seq ?_
  refine js ?_
  refine u rfl rfl (lA 5) ?_
  refine JR.runC rfl rfl (cl (kCoR c.size c hs (Nat.le_refl _))) rfl ?_ ?_
  · intro h4
    refine u rfl rfl nt ?_
    refine jd ?_
    refine w2 2 5 ?_
    refine J_condF rfl ?_
    refine J_skip ?_
    refine js ?_
    refine u rfl rfl asg ?_
    refine jd ?_
    refine w1 2 ?_
    refine J_ret ?_
    refine ⟨.inl rfl, _, rfl, .ofI ?_, trivial⟩
    rw [h4]
    rfl
  · intro h4
    refine u rfl rfl nt ?_
    refine jd ?_
    refine w2 2 5 ?_
    refine J_condT rfl ?_
    refine js ?_
    refine u rfl rfl asg ?_
    refine jd ?_
    refine w1 2 ?_
    refine J_ret ?_
    refine ⟨.inl rfl, _, rfl, .ofI ?_, trivial⟩
    rw [h4]
    rfl

end Go.Proofs.YtccdnmjijakofaaGreatDoor
