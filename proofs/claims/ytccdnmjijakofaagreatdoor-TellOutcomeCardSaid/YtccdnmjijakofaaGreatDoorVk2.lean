/- Values: which are right, which are told, which are the same: the program's and the page's. -/
import Derived.Test.YtccdnmjijakofaaGreatDoorVn
import Derived.Test.YtccdnmjijakofaaGreatDoorVk1
namespace Go.Proofs.YtccdnmjijakofaaGreatDoor
open Go Go.RowKit
set_option maxRecDepth 100000
set_option maxHeartbeats 1000000
set_option linter.unusedVariables false
set_option linter.unusedSimpArgs false

theorem Va.Light.of {v : Va} (h : v.Light) : v.str.length ≤ 300 ∧ v.coe.size ≤ 400 ∧ ∀ {i : Nat} {x : Va}, v.kids[i]? = some x → x.Light := by
  cases h with
  | mk k n s c ks h1 h2 h3 => exact ⟨h1, h2, fun hx => h3 _ (List.mem_of_getElem? hx)⟩
theorem allV_step {l : List Va} {i : Nat} {x : Va} (hx : l[i]? = some x) (p : Va → Bool) : (l.drop i).all p = (p x && (l.drop (i + 1)).all p) := by rw [drop_get hx, List.all_cons]
theorem kid_1 {v : Va} (h : (v.kids.length : Int) = vKd v.kind) (h7 : v.kind = 7) : ∃ x, v.kids[1]? = some x := by
  rw [h7, show vKd 7 = 2 from rfl] at h
  exact get_some (by omega)
theorem one_kid {v : Va} (h : vOne v = true) (h7 : v.kind = 7) : ∃ x, v.kids[1]? = some x := by
  simp only [vOne, Bool.and_eq_true] at h
  exact kid_1 (of_decide_eq_true h.1.2) h7
theorem ow2_kid {v : Va} (h : ow2 v = true) (h7 : v.kind = 7) : ∃ x, v.kids[1]? = some x := by
  simp only [ow2, Bool.and_eq_true] at h
  exact kid_1 (of_decide_eq_true h.1.1) h7
theorem kVHead (k : Int) : Con Tryz.prog 84 [.c (.lit (.int .i64 k))] [] (.c (.lit (.int .i64 (vHead k)))) [] := by
  refine con_intro rfl rfl (by kernel_rfl) (by kernel_rfl) ?_
  refine js ?_
  refine u rfl rfl asg ?_
  refine jd ?_
  refine w2 0 2 ?_
  refine J_seq ?_
  refine js ?_
  refine u rfl rfl mv ?_
  refine jd ?_
  refine w2 2 3 ?_
  refine J_block ?_
  refine js ?_
  refine JR.runB rfl rfl (r_eqI rfl rfl rfl rfl) ?_ ?_
  · intro h5
    replace h5 := of_decide_eq_true h5
    refine u rfl rfl asg ?_
    refine jd ?_
    refine w3 2 3 4 ?_
    refine J_condT rfl ?_
    refine js ?_
    refine u rfl rfl asg ?_
    refine jd ?_
    refine w1 2 ?_
    refine J_ret ?_
    refine ⟨.inl rfl, _, rfl, .ofI ?_, trivial⟩
    simp_all [vHead]
  · intro h5
    replace h5 := of_decide_eq_false h5
    refine u rfl rfl asg ?_
    refine jd ?_
    refine w3 2 3 4 ?_
    refine J_condF rfl ?_
    refine js ?_
    refine JR.runB rfl rfl (r_eqI rfl rfl rfl rfl) ?_ ?_
    · intro h7
      replace h7 := of_decide_eq_true h7
      refine u rfl rfl asg ?_
      refine jd ?_
      refine w3 2 3 6 ?_
      refine J_condT rfl ?_
      refine js ?_
      refine u rfl rfl asg ?_
      refine jd ?_
      refine w1 2 ?_
      refine J_ret ?_
      refine ⟨.inl rfl, _, rfl, .ofI ?_, trivial⟩
      simp_all [vHead]
    · intro h7
      replace h7 := of_decide_eq_false h7
      refine u rfl rfl asg ?_
      refine jd ?_
      refine w3 2 3 6 ?_
      refine J_condF rfl ?_
      refine js ?_
      refine JR.runB rfl rfl (r_eqI rfl rfl rfl rfl) ?_ ?_
      · intro h9
        replace h9 := of_decide_eq_true h9
        refine u rfl rfl asg ?_
        refine jd ?_
        refine w3 2 3 8 ?_
        refine J_condT rfl ?_
        refine js ?_
        refine u rfl rfl asg ?_
        refine jd ?_
        refine w1 2 ?_
        refine J_ret ?_
        refine ⟨.inl rfl, _, rfl, .ofI ?_, trivial⟩
        simp_all [vHead]
      · intro h9
        replace h9 := of_decide_eq_false h9
        refine u rfl rfl asg ?_
        refine jd ?_
        refine w3 2 3 8 ?_
        refine J_condF rfl ?_
        refine js ?_
        refine JR.runB rfl rfl (r_eqI rfl rfl rfl rfl) ?_ ?_
        · intro h11
          replace h11 := of_decide_eq_true h11
          refine u rfl rfl asg ?_
          refine jd ?_
          refine w3 2 3 10 ?_
          refine J_condT rfl ?_
          refine js ?_
          refine u rfl rfl asg ?_
          refine jd ?_
          refine w1 2 ?_
          refine J_ret ?_
          refine ⟨.inl rfl, _, rfl, .ofI ?_, trivial⟩
          simp_all [vHead]
        · intro h11
          replace h11 := of_decide_eq_false h11
          refine u rfl rfl asg ?_
          refine jd ?_
          refine w3 2 3 10 ?_
          refine J_condF rfl ?_
          refine js ?_
          refine JR.runB rfl rfl (r_eqI rfl rfl rfl rfl) ?_ ?_
          · intro h13
            replace h13 := of_decide_eq_true h13
            refine u rfl rfl asg ?_
            refine jd ?_
            refine w3 2 3 12 ?_
            refine J_condT rfl ?_
            refine js ?_
            refine u rfl rfl asg ?_
            refine jd ?_
            refine w1 2 ?_
            refine J_ret ?_
            refine ⟨.inl rfl, _, rfl, .ofI ?_, trivial⟩
            simp_all [vHead]
          · intro h13
            replace h13 := of_decide_eq_false h13
            refine u rfl rfl asg ?_
            refine jd ?_
            refine w3 2 3 12 ?_
            refine J_condF rfl ?_
            refine J_seq ?_
            refine js ?_
            refine JR.runB rfl rfl (r_eqI rfl rfl rfl rfl) ?_ ?_
            · intro h15
              replace h15 := of_decide_eq_true h15
              refine u rfl rfl asg ?_
              refine jd ?_
              refine w3 2 3 14 ?_
              refine J_condT rfl ?_
              refine J_skip ?_
              refine J_condT rfl ?_
              refine js ?_
              refine u rfl rfl asg ?_
              refine jd ?_
              refine w1 2 ?_
              refine J_ret ?_
              refine ⟨.inl rfl, _, rfl, .ofI ?_, trivial⟩
              simp_all [vHead]
            · intro h15
              replace h15 := of_decide_eq_false h15
              refine u rfl rfl asg ?_
              refine jd ?_
              refine w3 2 3 14 ?_
              refine J_condF rfl ?_
              refine JR.start ?_
              refine JR.runB rfl rfl (r_eqI rfl rfl rfl rfl) ?_ ?_
              · intro h16
                replace h16 := of_decide_eq_true h16
                refine u rfl rfl asg ?_
                refine jd ?_
                refine w2 2 14 ?_
                refine J_condT rfl ?_
                refine js ?_
                refine u rfl rfl asg ?_
                refine jd ?_
                refine w1 2 ?_
                refine J_ret ?_
                refine ⟨.inl rfl, _, rfl, .ofI ?_, trivial⟩
                simp_all [vHead]
              · intro h16
                replace h16 := of_decide_eq_false h16
                refine u rfl rfl asg ?_
                refine jd ?_
                refine w2 2 14 ?_
                refine J_condF rfl ?_
                refine J_skip ?_
                refine js ?_
                refine u rfl rfl asg ?_
                refine jd ?_
                refine w1 2 ?_
                refine J_ret ?_
                refine ⟨.inl rfl, _, rfl, .ofI ?_, trivial⟩
                simp_all [vHead]

theorem kRVHead (v : Va) : Con Tryz.prog 81 [.agg (vaX v)] [] (.c (.lit (.int .i64 (vHead v.kind)))) [] := by
  refine con_intro rfl rfl (by kernel_rfl) (by kernel_rfl) ?_
  refine js ?_
  refine u rfl rfl (r_boxA (x := 2001) rfl rfl rfl rfl) ?_
  refine u rfl rfl asg ?_
  refine jd ?_
  refine w3 1 2 2001 ?_
  refine J_seq ?_
  refine js ?_
  refine u rfl rfl (fA 0 1) ?_
  refine u rfl rfl ld ?_
  refine jd ?_
  refine w2 2 4 ?_
  refine J_block ?_
  refine js ?_
  refine JR.runB rfl rfl (r_eqI rfl rfl rfl rfl) ?_ ?_
  · intro h6
    replace h6 := of_decide_eq_true h6
    refine u rfl rfl asg ?_
    refine jd ?_
    refine w3 2 4 5 ?_
    refine J_condT rfl ?_
    refine js ?_
    refine u rfl rfl asg ?_
    refine jd ?_
    refine w1 2 ?_
    refine J_ret ?_
    refine ⟨.inl rfl, _, rfl, .ofI ?_, trivial⟩
    simp_all [vHead]
  · intro h6
    replace h6 := of_decide_eq_false h6
    refine u rfl rfl asg ?_
    refine jd ?_
    refine w3 2 4 5 ?_
    refine J_condF rfl ?_
    refine js ?_
    refine JR.runB rfl rfl (r_eqI rfl rfl rfl rfl) ?_ ?_
    · intro h8
      replace h8 := of_decide_eq_true h8
      refine u rfl rfl asg ?_
      refine jd ?_
      refine w3 2 4 7 ?_
      refine J_condT rfl ?_
      refine js ?_
      refine u rfl rfl asg ?_
      refine jd ?_
      refine w1 2 ?_
      refine J_ret ?_
      refine ⟨.inl rfl, _, rfl, .ofI ?_, trivial⟩
      simp_all [vHead]
    · intro h8
      replace h8 := of_decide_eq_false h8
      refine u rfl rfl asg ?_
      refine jd ?_
      refine w3 2 4 7 ?_
      refine J_condF rfl ?_
      refine js ?_
      refine JR.runB rfl rfl (r_eqI rfl rfl rfl rfl) ?_ ?_
      · intro h10
        replace h10 := of_decide_eq_true h10
        refine u rfl rfl asg ?_
        refine jd ?_
        refine w3 2 4 9 ?_
        refine J_condT rfl ?_
        refine js ?_
        refine u rfl rfl asg ?_
        refine jd ?_
        refine w1 2 ?_
        refine J_ret ?_
        refine ⟨.inl rfl, _, rfl, .ofI ?_, trivial⟩
        simp_all [vHead]
      · intro h10
        replace h10 := of_decide_eq_false h10
        refine u rfl rfl asg ?_
        refine jd ?_
        refine w3 2 4 9 ?_
        refine J_condF rfl ?_
        refine js ?_
        refine JR.runB rfl rfl (r_eqI rfl rfl rfl rfl) ?_ ?_
        · intro h12
          replace h12 := of_decide_eq_true h12
          refine u rfl rfl asg ?_
          refine jd ?_
          refine w3 2 4 11 ?_
          refine J_condT rfl ?_
          refine js ?_
          refine u rfl rfl asg ?_
          refine jd ?_
          refine w1 2 ?_
          refine J_ret ?_
          refine ⟨.inl rfl, _, rfl, .ofI ?_, trivial⟩
          simp_all [vHead]
        · intro h12
          replace h12 := of_decide_eq_false h12
          refine u rfl rfl asg ?_
          refine jd ?_
          refine w3 2 4 11 ?_
          refine J_condF rfl ?_
          refine js ?_
          refine JR.runB rfl rfl (r_eqI rfl rfl rfl rfl) ?_ ?_
          · intro h14
            replace h14 := of_decide_eq_true h14
            refine u rfl rfl asg ?_
            refine jd ?_
            refine w3 2 4 13 ?_
            refine J_condT rfl ?_
            refine js ?_
            refine u rfl rfl asg ?_
            refine jd ?_
            refine w1 2 ?_
            refine J_ret ?_
            refine ⟨.inl rfl, _, rfl, .ofI ?_, trivial⟩
            simp_all [vHead]
          · intro h14
            replace h14 := of_decide_eq_false h14
            refine u rfl rfl asg ?_
            refine jd ?_
            refine w3 2 4 13 ?_
            refine J_condF rfl ?_
            refine J_seq ?_
            refine js ?_
            refine JR.runB rfl rfl (r_eqI rfl rfl rfl rfl) ?_ ?_
            · intro h16
              replace h16 := of_decide_eq_true h16
              refine u rfl rfl asg ?_
              refine jd ?_
              refine w3 2 4 15 ?_
              refine J_condT rfl ?_
              refine J_skip ?_
              refine J_condT rfl ?_
              refine js ?_
              refine u rfl rfl asg ?_
              refine jd ?_
              refine w1 2 ?_
              refine J_ret ?_
              refine ⟨.inl rfl, _, rfl, .ofI ?_, trivial⟩
              simp_all [vHead]
            · intro h16
              replace h16 := of_decide_eq_false h16
              refine u rfl rfl asg ?_
              refine jd ?_
              refine w3 2 4 15 ?_
              refine J_condF rfl ?_
              refine JR.start ?_
              refine JR.runB rfl rfl (r_eqI rfl rfl rfl rfl) ?_ ?_
              · intro h17
                replace h17 := of_decide_eq_true h17
                refine u rfl rfl asg ?_
                refine jd ?_
                refine w2 2 15 ?_
                refine J_condT rfl ?_
                refine js ?_
                refine u rfl rfl asg ?_
                refine jd ?_
                refine w1 2 ?_
                refine J_ret ?_
                refine ⟨.inl rfl, _, rfl, .ofI ?_, trivial⟩
                simp_all [vHead]
              · intro h17
                replace h17 := of_decide_eq_false h17
                refine u rfl rfl asg ?_
                refine jd ?_
                refine w2 2 15 ?_
                refine J_condF rfl ?_
                refine J_skip ?_
                refine js ?_
                refine u rfl rfl asg ?_
                refine jd ?_
                refine w1 2 ?_
                refine J_ret ?_
                refine ⟨.inl rfl, _, rfl, .ofI ?_, trivial⟩
                simp_all [vHead]

theorem kList (v : Va) : Con Tryz.prog 79 [.agg (vaX v)] [] (.c (.lit (.bool (vLk v.kind)))) [] := by
  refine con_intro rfl rfl (by kernel_rfl) (by kernel_rfl) ?_
  refine js ?_
  refine u rfl rfl (r_boxA (x := 2001) rfl rfl rfl rfl) ?_
  refine u rfl rfl asg ?_
  refine jd ?_
  refine w3 1 2 2001 ?_
  refine js ?_
  refine u rfl rfl (fA 0 1) ?_
  refine u rfl rfl ld ?_
  refine JR.runB rfl rfl (r_eqI rfl rfl rfl rfl) ?_ ?_
  · intro h5
    replace h5 := of_decide_eq_true h5
    refine u rfl rfl mv ?_
    refine sk ?_
    refine sk ?_
    refine sk ?_
    refine u rfl rfl pT ?_
    refine u rfl rfl asg ?_
    refine jd ?_
    refine w1 2 ?_
    refine J_ret ?_
    refine ⟨.inl rfl, _, rfl, .ofB ?_, trivial⟩
    simp_all [vLk]
  · intro h5
    replace h5 := of_decide_eq_false h5
    refine u rfl rfl mv ?_
    refine u rfl rfl (fA 0 1) ?_
    refine u rfl rfl ld ?_
    refine JR.runB rfl rfl (r_eqI rfl rfl rfl rfl) ?_ ?_
    · intro h9
      replace h9 := of_decide_eq_true h9
      refine u rfl rfl pF ?_
      refine u rfl rfl asg ?_
      refine jd ?_
      refine w1 2 ?_
      refine J_ret ?_
      refine ⟨.inl rfl, _, rfl, .ofB ?_, trivial⟩
      simp_all [vLk]
    · intro h9
      replace h9 := of_decide_eq_false h9
      refine u rfl rfl pF ?_
      refine u rfl rfl asg ?_
      refine jd ?_
      refine w1 2 ?_
      refine J_ret ?_
      refine ⟨.inl rfl, _, rfl, .ofB ?_, trivial⟩
      simp_all [vLk]

theorem kKidsOf (v : Va) : Con Tryz.prog 83 [.agg (vaX v)] [] (.c (.lit (.bool (decide (v.kind = 5) || vLk v.kind || decide (v.kind = 8))))) [] := by
  refine con_intro rfl rfl (by kernel_rfl) (by kernel_rfl) ?_
  refine js ?_
  refine u rfl rfl (r_boxA (x := 2001) rfl rfl rfl rfl) ?_
  refine u rfl rfl asg ?_
  refine jd ?_
  refine w3 1 2 2001 ?_
  refine js ?_
  refine u rfl rfl (fA 0 1) ?_
  refine u rfl rfl ld ?_
  refine JR.runB rfl rfl (r_eqI rfl rfl rfl rfl) ?_ ?_
  · intro h5
    replace h5 := of_decide_eq_true h5
    refine u rfl rfl mv ?_
    refine sk ?_
    refine sk ?_
    refine u rfl rfl pT ?_
    refine u rfl rfl mv ?_
    refine sk ?_
    refine sk ?_
    refine sk ?_
    refine u rfl rfl pT ?_
    refine u rfl rfl asg ?_
    refine jd ?_
    refine w1 2 ?_
    refine J_ret ?_
    refine ⟨.inl rfl, _, rfl, .ofB ?_, trivial⟩
    simp_all
  · intro h5
    replace h5 := of_decide_eq_false h5
    refine u rfl rfl mv ?_
    refine u rfl rfl (lA 9) ?_
    refine JR.runC rfl rfl (cl (kList v)) rfl ?_ ?_
    · intro h8
      refine u rfl rfl pF ?_
      refine u rfl rfl mv ?_
      refine sk ?_
      refine sk ?_
      refine sk ?_
      refine u rfl rfl pT ?_
      refine u rfl rfl asg ?_
      refine jd ?_
      refine w1 2 ?_
      refine J_ret ?_
      refine ⟨.inl rfl, _, rfl, .ofB ?_, trivial⟩
      simp_all
    · intro h8
      refine u rfl rfl pF ?_
      refine u rfl rfl mv ?_
      refine u rfl rfl (fA 0 1) ?_
      refine u rfl rfl ld ?_
      refine JR.runB rfl rfl (r_eqI rfl rfl rfl rfl) ?_ ?_
      · intro h13
        replace h13 := of_decide_eq_true h13
        refine u rfl rfl pF ?_
        refine u rfl rfl asg ?_
        refine jd ?_
        refine w1 2 ?_
        refine J_ret ?_
        refine ⟨.inl rfl, _, rfl, .ofB ?_, trivial⟩
        simp_all
      · intro h13
        replace h13 := of_decide_eq_false h13
        refine u rfl rfl pF ?_
        refine u rfl rfl asg ?_
        refine jd ?_
        refine w1 2 ?_
        refine J_ret ?_
        refine ⟨.inl rfl, _, rfl, .ofB ?_, trivial⟩
        simp_all

theorem kRest (v : Va) : Con Tryz.prog 67 [.agg (vaX v)] [] (.c (.lit (.bool (vRest v)))) [] := by
  refine con_intro rfl rfl (by kernel_rfl) (by kernel_rfl) ?_
  refine js ?_
  refine u rfl rfl (r_boxA (x := 2001) rfl rfl rfl rfl) ?_
  refine u rfl rfl asg ?_
  refine jd ?_
  refine w3 1 2 2001 ?_
  refine js ?_
  refine u rfl rfl (fA 0 1) ?_
  refine u rfl rfl ld ?_
  refine JR.runB rfl rfl (r_eqI rfl rfl rfl rfl) ?_ ?_
  · intro h5
    replace h5 := of_decide_eq_true h5
    refine u rfl rfl mv ?_
    refine sk ?_
    refine sk ?_
    refine sk ?_
    refine u rfl rfl pT ?_
    refine u rfl rfl mv ?_
    refine u rfl rfl (fA 3 5) ?_
    refine u rfl rfl (fA 0 1) ?_
    refine u rfl rfl ld ?_
    refine JR.runB rfl rfl (r_neI rfl rfl rfl rfl) ?_ ?_
    · intro h15
      replace h15 := of_decide_eq_false (nT h15)
      refine u rfl rfl pT ?_
      refine u rfl rfl asg ?_
      refine jd ?_
      refine w1 2 ?_
      refine J_ret ?_
      refine ⟨.inl rfl, _, rfl, .ofB ?_, trivial⟩
      simp_all [vRest, vLk]
    · intro h15
      replace h15 := of_decide_eq_true (nF h15)
      refine u rfl rfl pT ?_
      refine u rfl rfl asg ?_
      refine jd ?_
      refine w1 2 ?_
      refine J_ret ?_
      refine ⟨.inl rfl, _, rfl, .ofB ?_, trivial⟩
      simp_all [vRest, vLk]
  · intro h5
    replace h5 := of_decide_eq_false h5
    refine u rfl rfl mv ?_
    refine u rfl rfl (fA 0 1) ?_
    refine u rfl rfl ld ?_
    refine JR.runB rfl rfl (r_eqI rfl rfl rfl rfl) ?_ ?_
    · intro h9
      replace h9 := of_decide_eq_true h9
      refine u rfl rfl pF ?_
      refine u rfl rfl mv ?_
      refine u rfl rfl (fA 3 5) ?_
      refine u rfl rfl (fA 0 1) ?_
      refine u rfl rfl ld ?_
      refine JR.runB rfl rfl (r_neI rfl rfl rfl rfl) ?_ ?_
      · intro h15
        replace h15 := of_decide_eq_false (nT h15)
        refine u rfl rfl pT ?_
        refine u rfl rfl asg ?_
        refine jd ?_
        refine w1 2 ?_
        refine J_ret ?_
        refine ⟨.inl rfl, _, rfl, .ofB ?_, trivial⟩
        simp_all [vRest, vLk]
      · intro h15
        replace h15 := of_decide_eq_true (nF h15)
        refine u rfl rfl pT ?_
        refine u rfl rfl asg ?_
        refine jd ?_
        refine w1 2 ?_
        refine J_ret ?_
        refine ⟨.inl rfl, _, rfl, .ofB ?_, trivial⟩
        simp_all [vRest, vLk]
    · intro h9
      replace h9 := of_decide_eq_false h9
      refine u rfl rfl pF ?_
      refine u rfl rfl mv ?_
      refine sk ?_
      refine sk ?_
      refine sk ?_
      refine sk ?_
      refine u rfl rfl pF ?_
      refine u rfl rfl asg ?_
      refine jd ?_
      refine w1 2 ?_
      refine J_ret ?_
      refine ⟨.inl rfl, _, rfl, .ofB ?_, trivial⟩
      simp_all [vRest, vLk]

theorem kAround (v : Va) (hc : v.coe.size ≤ 400) : Con Tryz.prog 76 [.agg (vaX v)] [] (.c (.lit (.bool (vAround v)))) [] := by
  refine con_intro rfl rfl (by kernel_rfl) (by kernel_rfl) ?_
  refine js ?_
  refine u rfl rfl (r_boxA (x := 2001) rfl rfl rfl rfl) ?_
  refine u rfl rfl asg ?_
  refine jd ?_
  refine w3 1 2 2001 ?_
  refine J_seq ?_
  refine js ?_
  refine u rfl rfl (fA 3 5) ?_
  refine u rfl rfl (lA 5) ?_
  refine JR.runC rfl rfl (cl (kNone v.coe (by omega))) rfl ?_ ?_
  · intro h5
    refine jd ?_
    refine w4 1 2 5 2001 ?_
    refine J_condT rfl ?_
    refine js ?_
    refine u rfl rfl asg ?_
    refine jd ?_
    refine w3 1 2 2001 ?_
    refine J_ret ?_
    refine ⟨.inl rfl, _, rfl, .ofB ?_, trivial⟩
    simp_all [vAround, vLk]
  · intro h5
    refine jd ?_
    refine w4 1 2 5 2001 ?_
    refine J_condF rfl ?_
    refine J_skip ?_
    refine J_seq ?_
    refine js ?_
    refine u rfl rfl (fA 3 5) ?_
    refine u rfl rfl (fA 0 1) ?_
    refine u rfl rfl ld ?_
    refine jd ?_
    refine w4 1 2 8 2001 ?_
    refine J_block ?_
    refine js ?_
    refine JR.runB rfl rfl (r_eqI rfl rfl rfl rfl) ?_ ?_
    · intro h10
      replace h10 := of_decide_eq_true h10
      refine u rfl rfl asg ?_
      refine jd ?_
      refine w5 1 2 8 9 2001 ?_
      refine J_condT rfl ?_
      refine js ?_
      refine u rfl rfl (fA 3 5) ?_
      refine u rfl rfl (fA 1 1) ?_
      refine u rfl rfl ld ?_
      refine u rfl rfl (fA 0 1) ?_
      refine u rfl rfl ld ?_
      refine u rfl rfl (cl (kVHead v.kind)) ?_
      refine JR.runB rfl rfl (r_eqI rfl rfl rfl rfl) ?_ ?_
      · intro h17
        replace h17 := of_decide_eq_true h17
        refine u rfl rfl mv ?_
        refine u rfl rfl (fA 3 5) ?_
        refine u rfl rfl (lA 5) ?_
        refine u rfl rfl (cl (kCoCheck v.coe (by omega))) ?_
        refine JR.runB rfl rfl (r_eqI rfl rfl rfl rfl) ?_ ?_
        · intro h22
          replace h22 := of_decide_eq_true h22
          refine u rfl rfl pT ?_
          refine u rfl rfl asg ?_
          refine jD [0, 1, 3, 0, 8, 24, 63, 127, 255, 511, 1023, 2047, 4095, 8191] ?_
          refine w1 2 ?_
          refine J_ret ?_
          refine ⟨.inl rfl, _, rfl, .ofB ?_, trivial⟩
          simp_all [vAround, vLk]
        · intro h22
          replace h22 := of_decide_eq_false h22
          refine u rfl rfl pT ?_
          refine u rfl rfl asg ?_
          refine jD [0, 1, 3, 0, 8, 24, 63, 127, 255, 511, 1023, 2047, 4095, 8191] ?_
          refine w1 2 ?_
          refine J_ret ?_
          refine ⟨.inl rfl, _, rfl, .ofB ?_, trivial⟩
          simp_all [vAround, vLk]
      · intro h17
        replace h17 := of_decide_eq_false h17
        refine u rfl rfl mv ?_
        refine sk ?_
        refine sk ?_
        refine sk ?_
        refine sk ?_
        refine u rfl rfl pF ?_
        refine u rfl rfl asg ?_
        refine jD [0, 1, 3, 0, 8, 24, 63, 127, 255, 511, 1023, 2047, 4095, 8191] ?_
        refine w1 2 ?_
        refine J_ret ?_
        refine ⟨.inl rfl, _, rfl, .ofB ?_, trivial⟩
        simp_all [vAround, vLk]
    · intro h10
      replace h10 := of_decide_eq_false h10
      refine u rfl rfl asg ?_
      refine jd ?_
      refine w5 1 2 8 9 2001 ?_
      refine J_condF rfl ?_
      refine js ?_
      refine JR.runB rfl rfl (r_eqI rfl rfl rfl rfl) ?_ ?_
      · intro h25
        replace h25 := of_decide_eq_true h25
        refine u rfl rfl asg ?_
        refine jd ?_
        refine w5 1 2 8 24 2001 ?_
        refine J_condT rfl ?_
        refine js ?_
        refine u rfl rfl (fA 0 1) ?_
        refine u rfl rfl ld ?_
        refine JR.runB rfl rfl (r_eqI rfl rfl rfl rfl) ?_ ?_
        · intro h28
          replace h28 := of_decide_eq_true h28
          refine u rfl rfl mv ?_
          refine u rfl rfl (fA 3 5) ?_
          refine u rfl rfl (lA 5) ?_
          refine u rfl rfl (cl (kCoCheck v.coe (by omega))) ?_
          refine JR.runB rfl rfl (r_eqI rfl rfl rfl rfl) ?_ ?_
          · intro h33
            replace h33 := of_decide_eq_true h33
            refine u rfl rfl pT ?_
            refine u rfl rfl asg ?_
            refine jd ?_
            refine w1 2 ?_
            refine J_ret ?_
            refine ⟨.inl rfl, _, rfl, .ofB ?_, trivial⟩
            simp_all [vAround, vLk]
          · intro h33
            replace h33 := of_decide_eq_false h33
            refine u rfl rfl pT ?_
            refine u rfl rfl asg ?_
            refine jd ?_
            refine w1 2 ?_
            refine J_ret ?_
            refine ⟨.inl rfl, _, rfl, .ofB ?_, trivial⟩
            simp_all [vAround, vLk]
        · intro h28
          replace h28 := of_decide_eq_false h28
          refine u rfl rfl mv ?_
          refine sk ?_
          refine sk ?_
          refine sk ?_
          refine sk ?_
          refine u rfl rfl pF ?_
          refine u rfl rfl asg ?_
          refine jd ?_
          refine w1 2 ?_
          refine J_ret ?_
          refine ⟨.inl rfl, _, rfl, .ofB ?_, trivial⟩
          simp_all [vAround, vLk]
      · intro h25
        replace h25 := of_decide_eq_false h25
        refine u rfl rfl asg ?_
        refine jd ?_
        refine w5 1 2 8 24 2001 ?_
        refine J_condF rfl ?_
        refine js ?_
        refine JR.runB rfl rfl (r_eqI rfl rfl rfl rfl) ?_ ?_
        · intro h36
          replace h36 := of_decide_eq_true h36
          refine u rfl rfl asg ?_
          refine jd ?_
          refine w5 1 2 8 35 2001 ?_
          refine J_condT rfl ?_
          refine js ?_
          refine u rfl rfl (fA 0 1) ?_
          refine u rfl rfl ld ?_
          refine JR.runB rfl rfl (r_eqI rfl rfl rfl rfl) ?_ ?_
          · intro h39
            replace h39 := of_decide_eq_true h39
            refine u rfl rfl mv ?_
            refine sk ?_
            refine sk ?_
            refine sk ?_
            refine u rfl rfl pT ?_
            refine u rfl rfl mv ?_
            refine u rfl rfl (fA 3 5) ?_
            refine u rfl rfl (lA 5) ?_
            refine u rfl rfl (cl (kCoCheck v.coe (by omega))) ?_
            refine JR.runB rfl rfl (r_eqI rfl rfl rfl rfl) ?_ ?_
            · intro h49
              replace h49 := of_decide_eq_true h49
              refine u rfl rfl pT ?_
              refine u rfl rfl asg ?_
              refine jd ?_
              refine w1 2 ?_
              refine J_ret ?_
              refine ⟨.inl rfl, _, rfl, .ofB ?_, trivial⟩
              simp_all [vAround, vLk]
            · intro h49
              replace h49 := of_decide_eq_false h49
              refine u rfl rfl pT ?_
              refine u rfl rfl asg ?_
              refine jd ?_
              refine w1 2 ?_
              refine J_ret ?_
              refine ⟨.inl rfl, _, rfl, .ofB ?_, trivial⟩
              simp_all [vAround, vLk]
          · intro h39
            replace h39 := of_decide_eq_false h39
            refine u rfl rfl mv ?_
            refine u rfl rfl (fA 0 1) ?_
            refine u rfl rfl ld ?_
            refine JR.runB rfl rfl (r_eqI rfl rfl rfl rfl) ?_ ?_
            · intro h43
              replace h43 := of_decide_eq_true h43
              refine u rfl rfl pF ?_
              refine u rfl rfl mv ?_
              refine u rfl rfl (fA 3 5) ?_
              refine u rfl rfl (lA 5) ?_
              refine u rfl rfl (cl (kCoCheck v.coe (by omega))) ?_
              refine JR.runB rfl rfl (r_eqI rfl rfl rfl rfl) ?_ ?_
              · intro h49
                replace h49 := of_decide_eq_true h49
                refine u rfl rfl pT ?_
                refine u rfl rfl asg ?_
                refine jd ?_
                refine w1 2 ?_
                refine J_ret ?_
                refine ⟨.inl rfl, _, rfl, .ofB ?_, trivial⟩
                simp_all [vAround, vLk]
              · intro h49
                replace h49 := of_decide_eq_false h49
                refine u rfl rfl pT ?_
                refine u rfl rfl asg ?_
                refine jd ?_
                refine w1 2 ?_
                refine J_ret ?_
                refine ⟨.inl rfl, _, rfl, .ofB ?_, trivial⟩
                simp_all [vAround, vLk]
            · intro h43
              replace h43 := of_decide_eq_false h43
              refine u rfl rfl pF ?_
              refine u rfl rfl mv ?_
              refine sk ?_
              refine sk ?_
              refine sk ?_
              refine sk ?_
              refine u rfl rfl pF ?_
              refine u rfl rfl asg ?_
              refine jd ?_
              refine w1 2 ?_
              refine J_ret ?_
              refine ⟨.inl rfl, _, rfl, .ofB ?_, trivial⟩
              simp_all [vAround, vLk]
        · intro h36
          replace h36 := of_decide_eq_false h36
          refine u rfl rfl asg ?_
          refine jd ?_
          refine w5 1 2 8 35 2001 ?_
          refine J_condF rfl ?_
          refine js ?_
          refine JR.runB rfl rfl (r_eqI rfl rfl rfl rfl) ?_ ?_
          · intro h52
            replace h52 := of_decide_eq_true h52
            refine u rfl rfl asg ?_
            refine jd ?_
            refine w4 1 2 51 2001 ?_
            refine J_condT rfl ?_
            refine js ?_
            refine u rfl rfl (fA 0 1) ?_
            refine u rfl rfl ld ?_
            refine JR.runB rfl rfl (r_eqI rfl rfl rfl rfl) ?_ ?_
            · intro h55
              replace h55 := of_decide_eq_true h55
              refine u rfl rfl mv ?_
              refine u rfl rfl (fA 3 5) ?_
              refine u rfl rfl (lA 5) ?_
              refine u rfl rfl (cl (kCoCheck v.coe (by omega))) ?_
              refine JR.runB rfl rfl (r_eqI rfl rfl rfl rfl) ?_ ?_
              · intro h60
                replace h60 := of_decide_eq_true h60
                refine u rfl rfl pT ?_
                refine u rfl rfl asg ?_
                refine jd ?_
                refine w1 2 ?_
                refine J_ret ?_
                refine ⟨.inl rfl, _, rfl, .ofB ?_, trivial⟩
                simp_all [vAround, vLk]
              · intro h60
                replace h60 := of_decide_eq_false h60
                refine u rfl rfl pT ?_
                refine u rfl rfl asg ?_
                refine jd ?_
                refine w1 2 ?_
                refine J_ret ?_
                refine ⟨.inl rfl, _, rfl, .ofB ?_, trivial⟩
                simp_all [vAround, vLk]
            · intro h55
              replace h55 := of_decide_eq_false h55
              refine u rfl rfl mv ?_
              refine sk ?_
              refine sk ?_
              refine sk ?_
              refine sk ?_
              refine u rfl rfl pF ?_
              refine u rfl rfl asg ?_
              refine jd ?_
              refine w1 2 ?_
              refine J_ret ?_
              refine ⟨.inl rfl, _, rfl, .ofB ?_, trivial⟩
              simp_all [vAround, vLk]
          · intro h52
            replace h52 := of_decide_eq_false h52
            refine u rfl rfl asg ?_
            refine jd ?_
            refine w4 1 2 51 2001 ?_
            refine J_condF rfl ?_
            refine J_skip ?_
            refine js ?_
            refine u rfl rfl asg ?_
            refine jd ?_
            refine w1 2 ?_
            refine J_ret ?_
            refine ⟨.inl rfl, _, rfl, .ofB ?_, trivial⟩
            simp_all [vAround, vLk]

theorem kOne (v : Va) (hc : v.coe.size ≤ 400) (hs : v.str.length ≤ 300) : Con Tryz.prog 66 [.agg (vaX v)] [] (.c (.lit (.bool (vOne v)))) [] := by
  have hl := vasD_len v.kids
  refine con_intro rfl rfl (by kernel_rfl) (by kernel_rfl) ?_
  refine js ?_
  refine u rfl rfl (r_boxA (x := 2001) rfl rfl rfl rfl) ?_
  refine u rfl rfl asg ?_
  refine jd ?_
  refine w3 1 2 2001 ?_
  refine js ?_
  refine u rfl rfl asg ?_
  refine u rfl rfl asg ?_
  refine u rfl rfl asg ?_
  refine jd ?_
  refine w6 1 2 3 4 5 2001 ?_
  refine J_cutF (α := { p : (Bool × Bool) × Int // vKind v.kind = true ∧ p = ((vN v.kind v.num, vS v.kind v.str), vKd v.kind) }) (fun p => [(3, .c (.lit (.bool p.1.1.1))), (4, .c (.lit (.bool p.1.1.2))), (5, .c (.lit (.int .i64 p.1.2)))]) [(1, _), (2, _), (2001, _)] ⟨rfl, rfl, rfl, trivial⟩ ?_ ?_
  · skip
    refine js ?_
    refine u rfl rfl (fA 0 1) ?_
    refine u rfl rfl ld ?_
    refine jd ?_
    refine w7 1 2 3 4 5 7 2001 ?_
    refine J_block ?_
    refine js ?_
    refine JR.runB rfl rfl (r_eqI rfl rfl rfl rfl) ?_ ?_
    · intro h9
      replace h9 := of_decide_eq_true h9
      refine u rfl rfl asg ?_
      refine jd ?_
      refine w8 1 2 3 4 5 7 8 2001 ?_
      refine J_condT rfl ?_
      refine JR.start ?_
      refine u rfl rfl asg ?_
      refine jd ?_
      exact ⟨⟨((true, false), 0), by simp_all [vKind], by simp_all [vN, vS, vKd]⟩, ⟨rfl, rfl, rfl, rfl, rfl, rfl, trivial⟩⟩
    · intro h9
      replace h9 := of_decide_eq_false h9
      refine u rfl rfl asg ?_
      refine jd ?_
      refine w8 1 2 3 4 5 7 8 2001 ?_
      refine J_condF rfl ?_
      refine js ?_
      refine JR.runB rfl rfl (r_eqI rfl rfl rfl rfl) ?_ ?_
      · intro h11
        replace h11 := of_decide_eq_true h11
        refine u rfl rfl asg ?_
        refine jd ?_
        refine w8 1 2 3 4 5 7 10 2001 ?_
        refine J_condT rfl ?_
        refine JR.start ?_
        refine u rfl rfl (fA 1 1) ?_
        refine u rfl rfl ld ?_
        refine JR.runB rfl rfl (r_eqI rfl rfl rfl rfl) ?_ ?_
        · intro h14
          replace h14 := of_decide_eq_true h14
          refine u rfl rfl mv ?_
          refine sk ?_
          refine sk ?_
          refine sk ?_
          refine u rfl rfl pT ?_
          refine u rfl rfl asg ?_
          refine jd ?_
          exact ⟨⟨((true, false), 0), by simp_all [vKind], by simp_all [vN, vS, vKd]⟩, ⟨rfl, rfl, rfl, rfl, rfl, rfl, trivial⟩⟩
        · intro h14
          replace h14 := of_decide_eq_false h14
          refine u rfl rfl mv ?_
          refine u rfl rfl (fA 1 1) ?_
          refine u rfl rfl ld ?_
          refine JR.runB rfl rfl (r_eqI rfl rfl rfl rfl) ?_ ?_
          · intro h18
            replace h18 := of_decide_eq_true h18
            refine u rfl rfl pF ?_
            refine u rfl rfl asg ?_
            refine jd ?_
            exact ⟨⟨((true, false), 0), by simp_all [vKind], by simp_all [vN, vS, vKd]⟩, ⟨rfl, rfl, rfl, rfl, rfl, rfl, trivial⟩⟩
          · intro h18
            replace h18 := of_decide_eq_false h18
            refine u rfl rfl pF ?_
            refine u rfl rfl asg ?_
            refine jd ?_
            exact ⟨⟨((false, false), 0), by simp_all [vKind], by simp_all [vN, vS, vKd]⟩, ⟨rfl, rfl, rfl, rfl, rfl, rfl, trivial⟩⟩
      · intro h11
        replace h11 := of_decide_eq_false h11
        refine u rfl rfl asg ?_
        refine jd ?_
        refine w8 1 2 3 4 5 7 10 2001 ?_
        refine J_condF rfl ?_
        refine js ?_
        refine JR.runB rfl rfl (r_eqI rfl rfl rfl rfl) ?_ ?_
        · intro h21
          replace h21 := of_decide_eq_true h21
          refine u rfl rfl asg ?_
          refine jd ?_
          refine w8 1 2 3 4 5 7 20 2001 ?_
          refine J_condT rfl ?_
          refine JR.start ?_
          refine u rfl rfl (fA 1 1) ?_
          refine u rfl rfl ld ?_
          refine JR.runB rfl rfl (r_geI rfl rfl rfl rfl) ?_ ?_
          · intro h24
            replace h24 := of_decide_eq_true h24
            refine u rfl rfl asg ?_
            refine jd ?_
            exact ⟨⟨((true, false), 0), by simp_all [vKind], by simp_all [vN, vS, vKd]⟩, ⟨rfl, rfl, rfl, rfl, rfl, rfl, trivial⟩⟩
          · intro h24
            replace h24 := of_decide_eq_false h24
            refine u rfl rfl asg ?_
            refine jd ?_
            exact ⟨⟨((false, false), 0), by simp_all [vKind], by simp_all [vN, vS, vKd]⟩, ⟨rfl, rfl, rfl, rfl, rfl, rfl, trivial⟩⟩
        · intro h21
          replace h21 := of_decide_eq_false h21
          refine u rfl rfl asg ?_
          refine jd ?_
          refine w8 1 2 3 4 5 7 20 2001 ?_
          refine J_condF rfl ?_
          refine js ?_
          refine JR.runB rfl rfl (r_eqI rfl rfl rfl rfl) ?_ ?_
          · intro h26
            replace h26 := of_decide_eq_true h26
            refine u rfl rfl asg ?_
            refine jd ?_
            refine w8 1 2 3 4 5 7 25 2001 ?_
            refine J_condT rfl ?_
            refine JR.start ?_
            refine u rfl rfl (fA 2 1) ?_
            refine u rfl rfl ld ?_
            refine u rfl rfl (r_lenS rfl rfl (by kernel_rfl) rfl) ?_
            refine JR.runB rfl rfl (r_leI rfl rfl rfl rfl) ?_ ?_
            · intro h30
              replace h30 := of_decide_eq_true h30
              refine u rfl rfl asg ?_
              refine jd ?_
              exact ⟨⟨((false, true), 0), by simp_all [vKind], by simp_all [vN, vS, vKd]⟩, ⟨rfl, rfl, rfl, rfl, rfl, rfl, trivial⟩⟩
            · intro h30
              replace h30 := of_decide_eq_false h30
              refine u rfl rfl asg ?_
              refine jd ?_
              exact ⟨⟨((false, false), 0), by simp_all [vKind], by simp_all [vN, vS, vKd]⟩, ⟨rfl, rfl, rfl, rfl, rfl, rfl, trivial⟩⟩
          · intro h26
            replace h26 := of_decide_eq_false h26
            refine u rfl rfl asg ?_
            refine jd ?_
            refine w8 1 2 3 4 5 7 25 2001 ?_
            refine J_condF rfl ?_
            refine J_seq ?_
            refine js ?_
            refine JR.runB rfl rfl (r_eqI rfl rfl rfl rfl) ?_ ?_
            · intro h32
              replace h32 := of_decide_eq_true h32
              refine u rfl rfl asg ?_
              refine jd ?_
              refine w8 1 2 3 4 5 7 31 2001 ?_
              refine J_condT rfl ?_
              refine J_skip ?_
              refine J_condT rfl ?_
              refine J_skip ?_
              exact ⟨⟨((false, false), 0), by simp_all [vKind], by simp_all [vN, vS, vKd]⟩, ⟨rfl, rfl, rfl, rfl, rfl, rfl, trivial⟩⟩
            · intro h32
              replace h32 := of_decide_eq_false h32
              refine u rfl rfl asg ?_
              refine jd ?_
              refine w8 1 2 3 4 5 7 31 2001 ?_
              refine J_condF rfl ?_
              refine JR.start ?_
              refine JR.runB rfl rfl (r_eqI rfl rfl rfl rfl) ?_ ?_
              · intro h33
                replace h33 := of_decide_eq_true h33
                refine u rfl rfl asg ?_
                refine jd ?_
                refine w8 1 2 3 4 5 7 31 2001 ?_
                refine J_condT rfl ?_
                refine J_skip ?_
                exact ⟨⟨((false, false), 0), by simp_all [vKind], by simp_all [vN, vS, vKd]⟩, ⟨rfl, rfl, rfl, rfl, rfl, rfl, trivial⟩⟩
              · intro h33
                replace h33 := of_decide_eq_false h33
                refine u rfl rfl asg ?_
                refine jd ?_
                refine w8 1 2 3 4 5 7 31 2001 ?_
                refine J_condF rfl ?_
                refine J_seq ?_
                refine js ?_
                refine JR.runB rfl rfl (r_eqI rfl rfl rfl rfl) ?_ ?_
                · intro h35
                  replace h35 := of_decide_eq_true h35
                  refine u rfl rfl asg ?_
                  refine jd ?_
                  refine w8 1 2 3 4 5 7 34 2001 ?_
                  refine J_condT rfl ?_
                  refine J_skip ?_
                  refine J_condT rfl ?_
                  refine JR.start ?_
                  refine u rfl rfl asg ?_
                  refine jd ?_
                  exact ⟨⟨((false, false), 2), by simp_all [vKind], by simp_all [vN, vS, vKd]⟩, ⟨rfl, rfl, rfl, rfl, rfl, rfl, trivial⟩⟩
                · intro h35
                  replace h35 := of_decide_eq_false h35
                  refine u rfl rfl asg ?_
                  refine jd ?_
                  refine w8 1 2 3 4 5 7 34 2001 ?_
                  refine J_condF rfl ?_
                  refine JR.start ?_
                  refine JR.runB rfl rfl (r_eqI rfl rfl rfl rfl) ?_ ?_
                  · intro h36
                    replace h36 := of_decide_eq_true h36
                    refine u rfl rfl asg ?_
                    refine jd ?_
                    refine w7 1 2 3 4 5 34 2001 ?_
                    refine J_condT rfl ?_
                    refine JR.start ?_
                    refine u rfl rfl asg ?_
                    refine jd ?_
                    exact ⟨⟨((false, false), 2), by simp_all [vKind], by simp_all [vN, vS, vKd]⟩, ⟨rfl, rfl, rfl, rfl, rfl, rfl, trivial⟩⟩
                  · intro h36
                    replace h36 := of_decide_eq_false h36
                    refine u rfl rfl asg ?_
                    refine jd ?_
                    refine w7 1 2 3 4 5 34 2001 ?_
                    refine J_condF rfl ?_
                    refine js ?_
                    refine u rfl rfl asg ?_
                    refine jd ?_
                    refine w6 1 2 3 4 5 2001 ?_
                    refine J_ret ?_
                    refine ⟨.inl rfl, _, rfl, .ofB ?_, trivial⟩
                    have e0 : vKind v.kind = false := by simp only [vKind, Bool.and_eq_false_iff, decide_eq_false_iff_not]; omega
                    simp [vOne, e0]
  · rintro ⟨⟨⟨b1, b2⟩, n5⟩, hk, he⟩
    dsimp only
    obtain ⟨⟨e1, e2⟩, e3⟩ : (b1 = vN v.kind v.num ∧ b2 = vS v.kind v.str) ∧ n5 = vKd v.kind := by simpa using he
    clear he
    refine js ?_
    refine u rfl rfl mv ?_
    refine u rfl rfl mv ?_
    cases b1
    · skip
      refine u rfl rfl (fA 1 1) ?_
      refine u rfl rfl ld ?_
      refine JR.runB rfl rfl (r_eqI rfl rfl rfl rfl) ?_ ?_
      · intro h41
        replace h41 := of_decide_eq_true h41
        refine u rfl rfl mv ?_
        refine u rfl rfl (fA 0 1) ?_
        refine u rfl rfl ld ?_
        refine JR.runB rfl rfl (r_neI rfl rfl rfl rfl) ?_ ?_
        · intro h45
          replace h45 := of_decide_eq_false (nT h45)
          refine u rfl rfl pT ?_
          refine u rfl rfl mv ?_
          refine u rfl rfl (fA 0 1) ?_
          refine u rfl rfl ld ?_
          refine JR.runB rfl rfl (r_neI rfl rfl rfl rfl) ?_ ?_
          · intro h50
            replace h50 := of_decide_eq_false (nT h50)
            refine u rfl rfl pT ?_
            refine u rfl rfl pF ?_
            refine u rfl rfl mv ?_
            refine u rfl rfl mv ?_
            refine u rfl rfl mv ?_
            cases b2
            · skip
              refine u rfl rfl (fA 2 1) ?_
              refine u rfl rfl ld ?_
              refine JR.runB rfl rfl (r_eqS rfl rfl rfl rfl) ?_ ?_
              · intro h58
                refine u rfl rfl pF ?_
                refine u rfl rfl pT ?_
                refine u rfl rfl mv ?_
                refine u rfl rfl (fA 8 1) ?_
                refine u rfl rfl ld ?_
                refine u rfl rfl ln0 ?_
                refine u rfl rfl mv ?_
                refine JR.runB rfl rfl (r_eqI rfl rfl rfl rfl) ?_ ?_
                · intro h66
                  replace h66 := of_decide_eq_true h66
                  refine u rfl rfl pT ?_
                  refine u rfl rfl mv ?_
                  refine u rfl rfl (lA 9) ?_
                  refine JR.runC rfl rfl (cl (kAround v hc)) rfl ?_ ?_
                  · intro h70
                    refine u rfl rfl pT ?_
                    refine u rfl rfl asg ?_
                    refine jd ?_
                    refine w1 2 ?_
                    refine J_ret ?_
                    refine ⟨.inl rfl, _, rfl, .ofB ?_, trivial⟩
                    simp_all [vOne, vKind, vasD_len]
                  · intro h70
                    refine u rfl rfl pT ?_
                    refine u rfl rfl asg ?_
                    refine jd ?_
                    refine w1 2 ?_
                    refine J_ret ?_
                    refine ⟨.inl rfl, _, rfl, .ofB ?_, trivial⟩
                    simp_all [vOne, vKind, vasD_len]
                · intro h66
                  replace h66 := of_decide_eq_false h66
                  refine u rfl rfl pT ?_
                  refine u rfl rfl mv ?_
                  refine sk ?_
                  refine sk ?_
                  refine u rfl rfl pF ?_
                  refine u rfl rfl asg ?_
                  refine jd ?_
                  refine w1 2 ?_
                  refine J_ret ?_
                  refine ⟨.inl rfl, _, rfl, .ofB ?_, trivial⟩
                  simp_all [vOne, vKind, vasD_len]
              · intro h58
                refine u rfl rfl pF ?_
                refine u rfl rfl pT ?_
                refine u rfl rfl mv ?_
                refine sk ?_
                refine sk ?_
                refine sk ?_
                refine sk ?_
                refine sk ?_
                refine u rfl rfl pF ?_
                refine u rfl rfl mv ?_
                refine sk ?_
                refine sk ?_
                refine u rfl rfl pF ?_
                refine u rfl rfl asg ?_
                refine jd ?_
                refine w1 2 ?_
                refine J_ret ?_
                refine ⟨.inl rfl, _, rfl, .ofB ?_, trivial⟩
                simp_all [vOne, vKind, vasD_len]
            · skip
              refine sk ?_
              refine sk ?_
              refine sk ?_
              refine u rfl rfl pT ?_
              refine u rfl rfl pT ?_
              refine u rfl rfl mv ?_
              refine u rfl rfl (fA 8 1) ?_
              refine u rfl rfl ld ?_
              refine u rfl rfl ln0 ?_
              refine u rfl rfl mv ?_
              refine JR.runB rfl rfl (r_eqI rfl rfl rfl rfl) ?_ ?_
              · intro h66
                replace h66 := of_decide_eq_true h66
                refine u rfl rfl pT ?_
                refine u rfl rfl mv ?_
                refine u rfl rfl (lA 9) ?_
                refine JR.runC rfl rfl (cl (kAround v hc)) rfl ?_ ?_
                · intro h70
                  refine u rfl rfl pT ?_
                  refine u rfl rfl asg ?_
                  refine jd ?_
                  refine w1 2 ?_
                  refine J_ret ?_
                  refine ⟨.inl rfl, _, rfl, .ofB ?_, trivial⟩
                  simp_all [vOne, vKind, vasD_len]
                · intro h70
                  refine u rfl rfl pT ?_
                  refine u rfl rfl asg ?_
                  refine jd ?_
                  refine w1 2 ?_
                  refine J_ret ?_
                  refine ⟨.inl rfl, _, rfl, .ofB ?_, trivial⟩
                  simp_all [vOne, vKind, vasD_len]
              · intro h66
                replace h66 := of_decide_eq_false h66
                refine u rfl rfl pT ?_
                refine u rfl rfl mv ?_
                refine sk ?_
                refine sk ?_
                refine u rfl rfl pF ?_
                refine u rfl rfl asg ?_
                refine jd ?_
                refine w1 2 ?_
                refine J_ret ?_
                refine ⟨.inl rfl, _, rfl, .ofB ?_, trivial⟩
                simp_all [vOne, vKind, vasD_len]
          · intro h50
            replace h50 := of_decide_eq_true (nF h50)
            refine u rfl rfl pT ?_
            refine u rfl rfl pF ?_
            refine u rfl rfl mv ?_
            refine sk ?_
            refine sk ?_
            refine sk ?_
            refine sk ?_
            refine sk ?_
            refine sk ?_
            refine u rfl rfl pF ?_
            refine u rfl rfl mv ?_
            refine sk ?_
            refine sk ?_
            refine sk ?_
            refine sk ?_
            refine sk ?_
            refine u rfl rfl pF ?_
            refine u rfl rfl mv ?_
            refine sk ?_
            refine sk ?_
            refine u rfl rfl pF ?_
            refine u rfl rfl asg ?_
            refine jd ?_
            refine w1 2 ?_
            refine J_ret ?_
            refine ⟨.inl rfl, _, rfl, .ofB ?_, trivial⟩
            simp_all [vOne, vKind, vasD_len]
        · intro h45
          replace h45 := of_decide_eq_true (nF h45)
          refine u rfl rfl pT ?_
          refine u rfl rfl mv ?_
          refine sk ?_
          refine sk ?_
          refine sk ?_
          refine u rfl rfl pF ?_
          refine u rfl rfl pF ?_
          refine u rfl rfl mv ?_
          refine sk ?_
          refine sk ?_
          refine sk ?_
          refine sk ?_
          refine sk ?_
          refine sk ?_
          refine u rfl rfl pF ?_
          refine u rfl rfl mv ?_
          refine sk ?_
          refine sk ?_
          refine sk ?_
          refine sk ?_
          refine sk ?_
          refine u rfl rfl pF ?_
          refine u rfl rfl mv ?_
          refine sk ?_
          refine sk ?_
          refine u rfl rfl pF ?_
          refine u rfl rfl asg ?_
          refine jd ?_
          refine w1 2 ?_
          refine J_ret ?_
          refine ⟨.inl rfl, _, rfl, .ofB ?_, trivial⟩
          simp_all [vOne, vKind, vasD_len]
      · intro h41
        replace h41 := of_decide_eq_false h41
        refine u rfl rfl mv ?_
        refine sk ?_
        refine sk ?_
        refine sk ?_
        refine u rfl rfl pF ?_
        refine u rfl rfl mv ?_
        refine sk ?_
        refine sk ?_
        refine sk ?_
        refine u rfl rfl pF ?_
        refine u rfl rfl pF ?_
        refine u rfl rfl mv ?_
        refine sk ?_
        refine sk ?_
        refine sk ?_
        refine sk ?_
        refine sk ?_
        refine sk ?_
        refine u rfl rfl pF ?_
        refine u rfl rfl mv ?_
        refine sk ?_
        refine sk ?_
        refine sk ?_
        refine sk ?_
        refine sk ?_
        refine u rfl rfl pF ?_
        refine u rfl rfl mv ?_
        refine sk ?_
        refine sk ?_
        refine u rfl rfl pF ?_
        refine u rfl rfl asg ?_
        refine jd ?_
        refine w1 2 ?_
        refine J_ret ?_
        refine ⟨.inl rfl, _, rfl, .ofB ?_, trivial⟩
        simp_all [vOne, vKind, vasD_len]
    · skip
      refine sk ?_
      refine sk ?_
      refine sk ?_
      refine sk ?_
      refine sk ?_
      refine sk ?_
      refine sk ?_
      refine sk ?_
      refine sk ?_
      refine sk ?_
      refine sk ?_
      refine sk ?_
      refine sk ?_
      refine u rfl rfl pT ?_
      refine u rfl rfl mv ?_
      refine u rfl rfl mv ?_
      refine u rfl rfl mv ?_
      cases b2
      · skip
        refine u rfl rfl (fA 2 1) ?_
        refine u rfl rfl ld ?_
        refine JR.runB rfl rfl (r_eqS rfl rfl rfl rfl) ?_ ?_
        · intro h58
          refine u rfl rfl pF ?_
          refine u rfl rfl pT ?_
          refine u rfl rfl mv ?_
          refine u rfl rfl (fA 8 1) ?_
          refine u rfl rfl ld ?_
          refine u rfl rfl ln0 ?_
          refine u rfl rfl mv ?_
          refine JR.runB rfl rfl (r_eqI rfl rfl rfl rfl) ?_ ?_
          · intro h66
            replace h66 := of_decide_eq_true h66
            refine u rfl rfl pT ?_
            refine u rfl rfl mv ?_
            refine u rfl rfl (lA 9) ?_
            refine JR.runC rfl rfl (cl (kAround v hc)) rfl ?_ ?_
            · intro h70
              refine u rfl rfl pT ?_
              refine u rfl rfl asg ?_
              refine jd ?_
              refine w1 2 ?_
              refine J_ret ?_
              refine ⟨.inl rfl, _, rfl, .ofB ?_, trivial⟩
              simp_all [vOne, vKind, vasD_len]
            · intro h70
              refine u rfl rfl pT ?_
              refine u rfl rfl asg ?_
              refine jd ?_
              refine w1 2 ?_
              refine J_ret ?_
              refine ⟨.inl rfl, _, rfl, .ofB ?_, trivial⟩
              simp_all [vOne, vKind, vasD_len]
          · intro h66
            replace h66 := of_decide_eq_false h66
            refine u rfl rfl pT ?_
            refine u rfl rfl mv ?_
            refine sk ?_
            refine sk ?_
            refine u rfl rfl pF ?_
            refine u rfl rfl asg ?_
            refine jd ?_
            refine w1 2 ?_
            refine J_ret ?_
            refine ⟨.inl rfl, _, rfl, .ofB ?_, trivial⟩
            simp_all [vOne, vKind, vasD_len]
        · intro h58
          refine u rfl rfl pF ?_
          refine u rfl rfl pT ?_
          refine u rfl rfl mv ?_
          refine sk ?_
          refine sk ?_
          refine sk ?_
          refine sk ?_
          refine sk ?_
          refine u rfl rfl pF ?_
          refine u rfl rfl mv ?_
          refine sk ?_
          refine sk ?_
          refine u rfl rfl pF ?_
          refine u rfl rfl asg ?_
          refine jd ?_
          refine w1 2 ?_
          refine J_ret ?_
          refine ⟨.inl rfl, _, rfl, .ofB ?_, trivial⟩
          simp_all [vOne, vKind, vasD_len]
      · skip
        refine sk ?_
        refine sk ?_
        refine sk ?_
        refine u rfl rfl pT ?_
        refine u rfl rfl pT ?_
        refine u rfl rfl mv ?_
        refine u rfl rfl (fA 8 1) ?_
        refine u rfl rfl ld ?_
        refine u rfl rfl ln0 ?_
        refine u rfl rfl mv ?_
        refine JR.runB rfl rfl (r_eqI rfl rfl rfl rfl) ?_ ?_
        · intro h66
          replace h66 := of_decide_eq_true h66
          refine u rfl rfl pT ?_
          refine u rfl rfl mv ?_
          refine u rfl rfl (lA 9) ?_
          refine JR.runC rfl rfl (cl (kAround v hc)) rfl ?_ ?_
          · intro h70
            refine u rfl rfl pT ?_
            refine u rfl rfl asg ?_
            refine jd ?_
            refine w1 2 ?_
            refine J_ret ?_
            refine ⟨.inl rfl, _, rfl, .ofB ?_, trivial⟩
            simp_all [vOne, vKind, vasD_len]
          · intro h70
            refine u rfl rfl pT ?_
            refine u rfl rfl asg ?_
            refine jd ?_
            refine w1 2 ?_
            refine J_ret ?_
            refine ⟨.inl rfl, _, rfl, .ofB ?_, trivial⟩
            simp_all [vOne, vKind, vasD_len]
        · intro h66
          replace h66 := of_decide_eq_false h66
          refine u rfl rfl pT ?_
          refine u rfl rfl mv ?_
          refine sk ?_
          refine sk ?_
          refine u rfl rfl pF ?_
          refine u rfl rfl asg ?_
          refine jd ?_
          refine w1 2 ?_
          refine J_ret ?_
          refine ⟨.inl rfl, _, rfl, .ofB ?_, trivial⟩
          simp_all [vOne, vKind, vasD_len]

theorem kVRight : ∀ (m : Nat) (v : Va), v.Light → m ≤ 1000000000 → v.size ≤ m → Con Tryz.prog 52 [.agg (vaX v)] [] (.c (.lit (.bool (vR m v)))) []
  | 0, v, _, _, h => absurd v.size_pos (by omega)
  | m + 1, v, hL, hm, h => by
    obtain ⟨hs, hc, hkl⟩ := hL.of
    have hk := v.kids_lt
    have hl := vasD_len v.kids
    refine con_intro rfl rfl (by kernel_rfl) (by kernel_rfl) ?_
    refine js ?_
    refine u rfl rfl (r_boxA (x := 2001) rfl rfl rfl rfl) ?_
    refine u rfl rfl asg ?_
    refine jd ?_
    refine w3 1 2 2001 ?_
    refine J_seq ?_
    refine js ?_
    refine u rfl rfl (lA 9) ?_
    refine JR.runC rfl rfl (cl (kOne v hc hs)) rfl ?_ ?_
    · intro h6
      refine u rfl rfl nt ?_
      refine u rfl rfl mv ?_
      refine u rfl rfl (fA 0 1) ?_
      refine u rfl rfl ld ?_
      refine JR.runB rfl rfl (r_eqI rfl rfl rfl rfl) ?_ ?_
      · intro h11
        replace h11 := of_decide_eq_true h11
        obtain ⟨y, hy⟩ := one_kid h6 h11
        have hk1 := vaK_of hy
        refine u rfl rfl mv ?_
        refine u rfl rfl (fA 8 1) ?_
        refine u rfl rfl ld ?_
        refine u rfl rfl (r_indexAddr (e := 30) (sz := 9) rfl rfl (by kernel_rfl) rfl rfl (by decide) (vasD_at (i := 1) hy)) ?_
        refine u rfl rfl (eA 9) ?_
        refine JR.runC rfl rfl (cl (kRest y)) rfl ?_ ?_
        · intro h17
          refine u rfl rfl nt ?_
          refine u rfl rfl pT ?_
          refine u rfl rfl pF ?_
          refine jd ?_
          refine w4 1 2 20 2001 ?_
          refine J_condF rfl ?_
          refine J_skip ?_
          refine J_seq ?_
          refine js ?_
          refine u rfl rfl (fA 8 1) ?_
          refine u rfl rfl ld ?_
          refine u rfl rfl ln0 ?_
          refine u rfl rfl mv ?_
          refine jd ?_
          refine w4 2 22 23 24 ?_
          refine J_block ?_
          refine J_loopF (α := { i : Nat // i ≤ v.kids.length ∧ v.kids.all (vR m) = (v.kids.drop i).all (vR m) }) (fun p => [(24, .c (.lit (.int .i64 (p.1 : Int))))]) [(2, _), (22, _), (23, _)] (fun p => v.kids.length - p.1) ⟨0, Nat.zero_le _, rfl⟩ ⟨rfl, rfl, rfl, rfl, trivial⟩ ?_
          rintro ⟨i, hi, hI⟩
          dsimp only
          refine js ?_
          refine JR.runB rfl rfl (r_ltI rfl rfl rfl rfl) ?_ ?_
          · intro h25
            replace h25 := of_decide_eq_true h25
            obtain ⟨x, hx⟩ := get_some (l := v.kids) (i := i) (by omega)
            have hxs := Va.kid_lt hx
            refine jd ?_
            refine w5 2 22 23 24 25 ?_
            refine J_seq ?_
            refine J_condT rfl ?_
            refine J_skip ?_
            refine J_seq ?_
            refine J_block ?_
            refine js ?_
            refine u rfl rfl (r_indexAddr (e := 30) (sz := 9) rfl rfl (by kernel_rfl) rfl rfl (by omega) (vasD_at hx)) ?_
            refine u rfl rfl (eA 9) ?_
            refine u rfl rfl (r_alloc (x := 2004) (zs := [.int .i64 0, .int .i64 0, str [], .int .i64 0, .int .i64 0, .int .i64 0, .bool false, .slice none 0 0, .slice none 0 0]) [.lit (.int .i64 0), .lit (.int .i64 0), .lit (str []), .lit (.int .i64 0), .lit (.int .i64 0), .lit (.int .i64 0), .lit (.bool false), .sl 5 [], .sl 9 []] rfl rfl rfl (by kernel_rfl) ⟨.refl _, .refl _, .refl _, .refl _, .refl _, .refl _, .refl _, .nil _, .nil _, trivial⟩) ?_
            refine u rfl rfl sA ?_
            refine jd ?_
            refine w9 2 4 22 23 24 25 26 27 2004 ?_
            refine js ?_
            refine u rfl rfl (lA 9) ?_
            refine JR.runC rfl rfl (cl (kVRight m x (hkl hx) (by omega) (by omega))) rfl ?_ ?_
            · intro h29
              refine u rfl rfl nt ?_
              refine jd ?_
              refine w12 2 4 22 23 24 25 26 27 28 29 30 2004 ?_
              refine J_condF rfl ?_
              refine J_skip ?_
              refine JR.start ?_
              refine u rfl rfl (r_addI rfl rfl rfl rfl (by omega)) ?_
              refine u rfl rfl mv ?_
              refine jd ?_
              refine ⟨⟨i + 1, by omega, by rw [hI, allV_step hx (vR m), h29, Bool.true_and]⟩, by simp only; omega, rfl, rfl, rfl, rfl, trivial⟩
            · intro h29
              refine u rfl rfl nt ?_
              refine jd ?_
              refine w12 2 4 22 23 24 25 26 27 28 29 30 2004 ?_
              refine J_condT rfl ?_
              refine js ?_
              refine u rfl rfl asg ?_
              refine jd ?_
              refine w12 2 4 22 23 24 25 26 27 28 29 30 2004 ?_
              refine J_ret ?_
              refine ⟨.inl rfl, _, rfl, .ofB ?_, trivial⟩
              have e1 : v.kids.all (vR m) = false := by rw [hI, allV_step hx (vR m), h29, Bool.false_and]
              rw [vR, e1, Bool.and_false]
          · intro h25
            replace h25 := of_decide_eq_false h25
            refine jd ?_
            refine w5 2 22 23 24 25 ?_
            refine J_seq ?_
            refine J_condF rfl ?_
            refine J_exit ?_
            refine js ?_
            refine u rfl rfl asg ?_
            refine jd ?_
            refine w1 2 ?_
            refine J_ret ?_
            refine ⟨.inl rfl, _, rfl, .ofB ?_, trivial⟩
            have e1 : v.kids.all (vR m) = true := by rw [hI, List.drop_eq_nil_of_le (by omega)]; rfl
            rw [vR, e1, Bool.and_true]
            simp_all [vRest]
        · intro h17
          refine u rfl rfl nt ?_
          refine u rfl rfl pT ?_
          refine u rfl rfl pF ?_
          refine jd ?_
          refine w4 1 2 20 2001 ?_
          refine J_condT rfl ?_
          refine js ?_
          refine u rfl rfl asg ?_
          refine jd ?_
          refine w3 1 2 2001 ?_
          refine J_ret ?_
          refine ⟨.inl rfl, _, rfl, .ofB ?_, trivial⟩
          rw [vR]
          simp_all [vRest]
      · intro h11
        replace h11 := of_decide_eq_false h11
        refine u rfl rfl mv ?_
        refine sk ?_
        refine sk ?_
        refine sk ?_
        refine sk ?_
        refine sk ?_
        refine sk ?_
        refine u rfl rfl pF ?_
        refine u rfl rfl pF ?_
        refine jd ?_
        refine w4 1 2 20 2001 ?_
        refine J_condF rfl ?_
        refine J_skip ?_
        refine J_seq ?_
        refine js ?_
        refine u rfl rfl (fA 8 1) ?_
        refine u rfl rfl ld ?_
        refine u rfl rfl ln0 ?_
        refine u rfl rfl mv ?_
        refine jd ?_
        refine w4 2 22 23 24 ?_
        refine J_block ?_
        refine J_loopF (α := { i : Nat // i ≤ v.kids.length ∧ v.kids.all (vR m) = (v.kids.drop i).all (vR m) }) (fun p => [(24, .c (.lit (.int .i64 (p.1 : Int))))]) [(2, _), (22, _), (23, _)] (fun p => v.kids.length - p.1) ⟨0, Nat.zero_le _, rfl⟩ ⟨rfl, rfl, rfl, rfl, trivial⟩ ?_
        rintro ⟨i, hi, hI⟩
        dsimp only
        refine js ?_
        refine JR.runB rfl rfl (r_ltI rfl rfl rfl rfl) ?_ ?_
        · intro h25
          replace h25 := of_decide_eq_true h25
          obtain ⟨x, hx⟩ := get_some (l := v.kids) (i := i) (by omega)
          have hxs := Va.kid_lt hx
          refine jd ?_
          refine w5 2 22 23 24 25 ?_
          refine J_seq ?_
          refine J_condT rfl ?_
          refine J_skip ?_
          refine J_seq ?_
          refine J_block ?_
          refine js ?_
          refine u rfl rfl (r_indexAddr (e := 30) (sz := 9) rfl rfl (by kernel_rfl) rfl rfl (by omega) (vasD_at hx)) ?_
          refine u rfl rfl (eA 9) ?_
          refine u rfl rfl (r_alloc (x := 2004) (zs := [.int .i64 0, .int .i64 0, str [], .int .i64 0, .int .i64 0, .int .i64 0, .bool false, .slice none 0 0, .slice none 0 0]) [.lit (.int .i64 0), .lit (.int .i64 0), .lit (str []), .lit (.int .i64 0), .lit (.int .i64 0), .lit (.int .i64 0), .lit (.bool false), .sl 5 [], .sl 9 []] rfl rfl rfl (by kernel_rfl) ⟨.refl _, .refl _, .refl _, .refl _, .refl _, .refl _, .refl _, .nil _, .nil _, trivial⟩) ?_
          refine u rfl rfl sA ?_
          refine jd ?_
          refine w9 2 4 22 23 24 25 26 27 2004 ?_
          refine js ?_
          refine u rfl rfl (lA 9) ?_
          refine JR.runC rfl rfl (cl (kVRight m x (hkl hx) (by omega) (by omega))) rfl ?_ ?_
          · intro h29
            refine u rfl rfl nt ?_
            refine jd ?_
            refine w12 2 4 22 23 24 25 26 27 28 29 30 2004 ?_
            refine J_condF rfl ?_
            refine J_skip ?_
            refine JR.start ?_
            refine u rfl rfl (r_addI rfl rfl rfl rfl (by omega)) ?_
            refine u rfl rfl mv ?_
            refine jd ?_
            refine ⟨⟨i + 1, by omega, by rw [hI, allV_step hx (vR m), h29, Bool.true_and]⟩, by simp only; omega, rfl, rfl, rfl, rfl, trivial⟩
          · intro h29
            refine u rfl rfl nt ?_
            refine jd ?_
            refine w12 2 4 22 23 24 25 26 27 28 29 30 2004 ?_
            refine J_condT rfl ?_
            refine js ?_
            refine u rfl rfl asg ?_
            refine jd ?_
            refine w12 2 4 22 23 24 25 26 27 28 29 30 2004 ?_
            refine J_ret ?_
            refine ⟨.inl rfl, _, rfl, .ofB ?_, trivial⟩
            have e1 : v.kids.all (vR m) = false := by rw [hI, allV_step hx (vR m), h29, Bool.false_and]
            rw [vR, e1, Bool.and_false]
        · intro h25
          replace h25 := of_decide_eq_false h25
          refine jd ?_
          refine w5 2 22 23 24 25 ?_
          refine J_seq ?_
          refine J_condF rfl ?_
          refine J_exit ?_
          refine js ?_
          refine u rfl rfl asg ?_
          refine jd ?_
          refine w1 2 ?_
          refine J_ret ?_
          refine ⟨.inl rfl, _, rfl, .ofB ?_, trivial⟩
          have e1 : v.kids.all (vR m) = true := by rw [hI, List.drop_eq_nil_of_le (by omega)]; rfl
          rw [vR, e1, Bool.and_true]
          simp_all [vRest]
    · intro h6
      refine u rfl rfl nt ?_
      refine u rfl rfl mv ?_
      refine sk ?_
      refine sk ?_
      refine sk ?_
      refine sk ?_
      refine sk ?_
      refine sk ?_
      refine sk ?_
      refine sk ?_
      refine sk ?_
      refine sk ?_
      refine sk ?_
      refine u rfl rfl pT ?_
      refine jd ?_
      refine w4 1 2 20 2001 ?_
      refine J_condT rfl ?_
      refine js ?_
      refine u rfl rfl asg ?_
      refine jd ?_
      refine w3 1 2 2001 ?_
      refine J_ret ?_
      refine ⟨.inl rfl, _, rfl, .ofB ?_, trivial⟩
      rw [vR]
      simp_all [vRest]

theorem kVBare : ∀ (m : Nat) (v : Va), v.Light → m ≤ 1000000000 → v.size ≤ m → Con Tryz.prog 53 [.agg (vaX v)] [] (.c (.lit (.bool (vBare m v)))) []
  | 0, v, _, _, h => absurd v.size_pos (by omega)
  | m + 1, v, hL, hm, h => by
    obtain ⟨hs, hc, hkl⟩ := hL.of
    have hk := v.kids_lt
    have hl := vasD_len v.kids
    refine con_intro rfl rfl (by kernel_rfl) (by kernel_rfl) ?_
    refine js ?_
    refine u rfl rfl (r_boxA (x := 2001) rfl rfl rfl rfl) ?_
    refine u rfl rfl asg ?_
    refine jd ?_
    refine w3 1 2 2001 ?_
    refine J_seq ?_
    refine js ?_
    refine u rfl rfl (fA 3 5) ?_
    refine u rfl rfl (lA 5) ?_
    refine JR.runC rfl rfl (cl (kNone v.coe (by omega))) rfl ?_ ?_
    · intro h7
      refine u rfl rfl nt ?_
      refine u rfl rfl mv ?_
      refine u rfl rfl (fA 0 1) ?_
      refine u rfl rfl ld ?_
      refine JR.runB rfl rfl (r_eqI rfl rfl rfl rfl) ?_ ?_
      · intro h12
        replace h12 := of_decide_eq_true h12
        refine u rfl rfl mv ?_
        refine u rfl rfl (fA 1 1) ?_
        refine u rfl rfl ld ?_
        refine JR.runB rfl rfl (r_neI rfl rfl rfl rfl) ?_ ?_
        · intro h16
          replace h16 := of_decide_eq_false (nT h16)
          refine u rfl rfl pT ?_
          refine u rfl rfl pF ?_
          refine jd ?_
          refine w4 1 2 18 2001 ?_
          refine J_condT rfl ?_
          refine js ?_
          refine u rfl rfl asg ?_
          refine jd ?_
          refine w3 1 2 2001 ?_
          refine J_ret ?_
          refine ⟨.inl rfl, _, rfl, .ofB ?_, trivial⟩
          rw [vBare]
          simp_all [vB0]
        · intro h16
          replace h16 := of_decide_eq_true (nF h16)
          refine u rfl rfl pT ?_
          refine u rfl rfl pF ?_
          refine jd ?_
          refine w4 1 2 18 2001 ?_
          refine J_condF rfl ?_
          refine J_skip ?_
          refine J_seq ?_
          refine js ?_
          refine u rfl rfl (fA 8 1) ?_
          refine u rfl rfl ld ?_
          refine u rfl rfl ln0 ?_
          refine u rfl rfl mv ?_
          refine jd ?_
          refine w4 2 20 21 22 ?_
          refine J_block ?_
          refine J_loopF (α := { i : Nat // i ≤ v.kids.length ∧ v.kids.all (vBare m) = (v.kids.drop i).all (vBare m) }) (fun p => [(22, .c (.lit (.int .i64 (p.1 : Int))))]) [(2, _), (20, _), (21, _)] (fun p => v.kids.length - p.1) ⟨0, Nat.zero_le _, rfl⟩ ⟨rfl, rfl, rfl, rfl, trivial⟩ ?_
          rintro ⟨i, hi, hI⟩
          dsimp only
          refine js ?_
          refine JR.runB rfl rfl (r_ltI rfl rfl rfl rfl) ?_ ?_
          · intro h23
            replace h23 := of_decide_eq_true h23
            obtain ⟨x, hx⟩ := get_some (l := v.kids) (i := i) (by omega)
            have hxs := Va.kid_lt hx
            refine jd ?_
            refine w5 2 20 21 22 23 ?_
            refine J_seq ?_
            refine J_condT rfl ?_
            refine J_skip ?_
            refine J_seq ?_
            refine J_block ?_
            refine js ?_
            refine u rfl rfl (r_indexAddr (e := 30) (sz := 9) rfl rfl (by kernel_rfl) rfl rfl (by omega) (vasD_at hx)) ?_
            refine u rfl rfl (eA 9) ?_
            refine u rfl rfl (r_alloc (x := 2004) (zs := [.int .i64 0, .int .i64 0, str [], .int .i64 0, .int .i64 0, .int .i64 0, .bool false, .slice none 0 0, .slice none 0 0]) [.lit (.int .i64 0), .lit (.int .i64 0), .lit (str []), .lit (.int .i64 0), .lit (.int .i64 0), .lit (.int .i64 0), .lit (.bool false), .sl 5 [], .sl 9 []] rfl rfl rfl (by kernel_rfl) ⟨.refl _, .refl _, .refl _, .refl _, .refl _, .refl _, .refl _, .nil _, .nil _, trivial⟩) ?_
            refine u rfl rfl sA ?_
            refine jd ?_
            refine w9 2 4 20 21 22 23 24 25 2004 ?_
            refine js ?_
            refine u rfl rfl (lA 9) ?_
            refine JR.runC rfl rfl (cl (kVBare m x (hkl hx) (by omega) (by omega))) rfl ?_ ?_
            · intro h27
              refine u rfl rfl nt ?_
              refine jd ?_
              refine w12 2 4 20 21 22 23 24 25 26 27 28 2004 ?_
              refine J_condF rfl ?_
              refine J_skip ?_
              refine JR.start ?_
              refine u rfl rfl (r_addI rfl rfl rfl rfl (by omega)) ?_
              refine u rfl rfl mv ?_
              refine jd ?_
              refine ⟨⟨i + 1, by omega, by rw [hI, allV_step hx (vBare m), h27, Bool.true_and]⟩, by simp only; omega, rfl, rfl, rfl, rfl, trivial⟩
            · intro h27
              refine u rfl rfl nt ?_
              refine jd ?_
              refine w12 2 4 20 21 22 23 24 25 26 27 28 2004 ?_
              refine J_condT rfl ?_
              refine js ?_
              refine u rfl rfl asg ?_
              refine jd ?_
              refine w12 2 4 20 21 22 23 24 25 26 27 28 2004 ?_
              refine J_ret ?_
              refine ⟨.inl rfl, _, rfl, .ofB ?_, trivial⟩
              have e1 : v.kids.all (vBare m) = false := by rw [hI, allV_step hx (vBare m), h27, Bool.false_and]
              rw [vBare, e1, Bool.and_false]
          · intro h23
            replace h23 := of_decide_eq_false h23
            refine jd ?_
            refine w5 2 20 21 22 23 ?_
            refine J_seq ?_
            refine J_condF rfl ?_
            refine J_exit ?_
            refine js ?_
            refine u rfl rfl asg ?_
            refine jd ?_
            refine w1 2 ?_
            refine J_ret ?_
            refine ⟨.inl rfl, _, rfl, .ofB ?_, trivial⟩
            have e1 : v.kids.all (vBare m) = true := by rw [hI, List.drop_eq_nil_of_le (by omega)]; rfl
            rw [vBare, e1, Bool.and_true]
            simp_all [vB0]
      · intro h12
        replace h12 := of_decide_eq_false h12
        refine u rfl rfl mv ?_
        refine sk ?_
        refine sk ?_
        refine sk ?_
        refine u rfl rfl pF ?_
        refine u rfl rfl pF ?_
        refine jd ?_
        refine w4 1 2 18 2001 ?_
        refine J_condF rfl ?_
        refine J_skip ?_
        refine J_seq ?_
        refine js ?_
        refine u rfl rfl (fA 8 1) ?_
        refine u rfl rfl ld ?_
        refine u rfl rfl ln0 ?_
        refine u rfl rfl mv ?_
        refine jd ?_
        refine w4 2 20 21 22 ?_
        refine J_block ?_
        refine J_loopF (α := { i : Nat // i ≤ v.kids.length ∧ v.kids.all (vBare m) = (v.kids.drop i).all (vBare m) }) (fun p => [(22, .c (.lit (.int .i64 (p.1 : Int))))]) [(2, _), (20, _), (21, _)] (fun p => v.kids.length - p.1) ⟨0, Nat.zero_le _, rfl⟩ ⟨rfl, rfl, rfl, rfl, trivial⟩ ?_
        rintro ⟨i, hi, hI⟩
        dsimp only
        refine js ?_
        refine JR.runB rfl rfl (r_ltI rfl rfl rfl rfl) ?_ ?_
        · intro h23
          replace h23 := of_decide_eq_true h23
          obtain ⟨x, hx⟩ := get_some (l := v.kids) (i := i) (by omega)
          have hxs := Va.kid_lt hx
          refine jd ?_
          refine w5 2 20 21 22 23 ?_
          refine J_seq ?_
          refine J_condT rfl ?_
          refine J_skip ?_
          refine J_seq ?_
          refine J_block ?_
          refine js ?_
          refine u rfl rfl (r_indexAddr (e := 30) (sz := 9) rfl rfl (by kernel_rfl) rfl rfl (by omega) (vasD_at hx)) ?_
          refine u rfl rfl (eA 9) ?_
          refine u rfl rfl (r_alloc (x := 2004) (zs := [.int .i64 0, .int .i64 0, str [], .int .i64 0, .int .i64 0, .int .i64 0, .bool false, .slice none 0 0, .slice none 0 0]) [.lit (.int .i64 0), .lit (.int .i64 0), .lit (str []), .lit (.int .i64 0), .lit (.int .i64 0), .lit (.int .i64 0), .lit (.bool false), .sl 5 [], .sl 9 []] rfl rfl rfl (by kernel_rfl) ⟨.refl _, .refl _, .refl _, .refl _, .refl _, .refl _, .refl _, .nil _, .nil _, trivial⟩) ?_
          refine u rfl rfl sA ?_
          refine jd ?_
          refine w9 2 4 20 21 22 23 24 25 2004 ?_
          refine js ?_
          refine u rfl rfl (lA 9) ?_
          refine JR.runC rfl rfl (cl (kVBare m x (hkl hx) (by omega) (by omega))) rfl ?_ ?_
          · intro h27
            refine u rfl rfl nt ?_
            refine jd ?_
            refine w12 2 4 20 21 22 23 24 25 26 27 28 2004 ?_
            refine J_condF rfl ?_
            refine J_skip ?_
            refine JR.start ?_
            refine u rfl rfl (r_addI rfl rfl rfl rfl (by omega)) ?_
            refine u rfl rfl mv ?_
            refine jd ?_
            refine ⟨⟨i + 1, by omega, by rw [hI, allV_step hx (vBare m), h27, Bool.true_and]⟩, by simp only; omega, rfl, rfl, rfl, rfl, trivial⟩
          · intro h27
            refine u rfl rfl nt ?_
            refine jd ?_
            refine w12 2 4 20 21 22 23 24 25 26 27 28 2004 ?_
            refine J_condT rfl ?_
            refine js ?_
            refine u rfl rfl asg ?_
            refine jd ?_
            refine w12 2 4 20 21 22 23 24 25 26 27 28 2004 ?_
            refine J_ret ?_
            refine ⟨.inl rfl, _, rfl, .ofB ?_, trivial⟩
            have e1 : v.kids.all (vBare m) = false := by rw [hI, allV_step hx (vBare m), h27, Bool.false_and]
            rw [vBare, e1, Bool.and_false]
        · intro h23
          replace h23 := of_decide_eq_false h23
          refine jd ?_
          refine w5 2 20 21 22 23 ?_
          refine J_seq ?_
          refine J_condF rfl ?_
          refine J_exit ?_
          refine js ?_
          refine u rfl rfl asg ?_
          refine jd ?_
          refine w1 2 ?_
          refine J_ret ?_
          refine ⟨.inl rfl, _, rfl, .ofB ?_, trivial⟩
          have e1 : v.kids.all (vBare m) = true := by rw [hI, List.drop_eq_nil_of_le (by omega)]; rfl
          rw [vBare, e1, Bool.and_true]
          simp_all [vB0]
    · intro h7
      refine u rfl rfl nt ?_
      refine u rfl rfl mv ?_
      refine sk ?_
      refine sk ?_
      refine sk ?_
      refine sk ?_
      refine sk ?_
      refine sk ?_
      refine sk ?_
      refine sk ?_
      refine u rfl rfl pT ?_
      refine jd ?_
      refine w4 1 2 18 2001 ?_
      refine J_condT rfl ?_
      refine js ?_
      refine u rfl rfl asg ?_
      refine jd ?_
      refine w3 1 2 2001 ?_
      refine J_ret ?_
      refine ⟨.inl rfl, _, rfl, .ofB ?_, trivial⟩
      rw [vBare]
      simp_all [vB0]

theorem kRtold : ∀ (m : Nat) (v : Va), v.Light → m ≤ 1000000000 → v.size ≤ m → Con Tryz.prog 57 [.agg (vaX v)] [] (.c (.lit (.bool (vBare m v)))) []
  | 0, v, _, _, h => absurd v.size_pos (by omega)
  | m + 1, v, hL, hm, h => by
    obtain ⟨hs, hc, hkl⟩ := hL.of
    have hk := v.kids_lt
    have hl := vasD_len v.kids
    refine con_intro rfl rfl (by kernel_rfl) (by kernel_rfl) ?_
    refine js ?_
    refine u rfl rfl (r_boxA (x := 2001) rfl rfl rfl rfl) ?_
    refine u rfl rfl asg ?_
    refine jd ?_
    refine w3 1 2 2001 ?_
    refine J_seq ?_
    refine js ?_
    refine u rfl rfl (fA 3 5) ?_
    refine u rfl rfl (lA 5) ?_
    refine JR.runC rfl rfl (cl (kRNone v.coe (by omega))) rfl ?_ ?_
    · intro h6
      refine u rfl rfl nt ?_
      refine u rfl rfl mv ?_
      refine u rfl rfl (fA 0 1) ?_
      refine u rfl rfl ld ?_
      refine JR.runB rfl rfl (r_eqI rfl rfl rfl rfl) ?_ ?_
      · intro h11
        replace h11 := of_decide_eq_true h11
        refine u rfl rfl mv ?_
        refine u rfl rfl (fA 1 1) ?_
        refine u rfl rfl ld ?_
        refine JR.runB rfl rfl (r_neI rfl rfl rfl rfl) ?_ ?_
        · intro h15
          replace h15 := of_decide_eq_false (nT h15)
          refine u rfl rfl pT ?_
          refine u rfl rfl pF ?_
          refine jd ?_
          refine w4 1 2 17 2001 ?_
          refine J_condT rfl ?_
          refine js ?_
          refine u rfl rfl asg ?_
          refine jd ?_
          refine w3 1 2 2001 ?_
          refine J_ret ?_
          refine ⟨.inl rfl, _, rfl, .ofB ?_, trivial⟩
          rw [vBare]
          simp_all [vB0]
        · intro h15
          replace h15 := of_decide_eq_true (nF h15)
          refine u rfl rfl pT ?_
          refine u rfl rfl pF ?_
          refine jd ?_
          refine w4 1 2 17 2001 ?_
          refine J_condF rfl ?_
          refine J_skip ?_
          refine J_seq ?_
          refine js ?_
          refine u rfl rfl asg ?_
          refine jd ?_
          refine w4 1 2 3 2001 ?_
          refine J_block ?_
          refine J_loopF (α := { i : Nat // i ≤ v.kids.length ∧ v.kids.all (vBare m) = (v.kids.drop i).all (vBare m) }) (fun p => [(3, .c (.lit (.int .i64 (p.1 : Int))))]) [(1, _), (2, _), (2001, _)] (fun p => v.kids.length - p.1) ⟨0, Nat.zero_le _, rfl⟩ ⟨rfl, rfl, rfl, rfl, trivial⟩ ?_
          rintro ⟨i, hi, hI⟩
          dsimp only
          refine J_seq ?_
          refine js ?_
          refine u rfl rfl mv ?_
          refine u rfl rfl (fA 8 1) ?_
          refine u rfl rfl ld ?_
          refine u rfl rfl ln0 ?_
          refine JR.runB rfl rfl (r_ltI rfl rfl rfl rfl) ?_ ?_
          · intro h22
            replace h22 := of_decide_eq_true h22
            obtain ⟨x, hx⟩ := get_some (l := v.kids) (i := i) (by omega)
            have hxs := Va.kid_lt hx
            refine jd ?_
            refine w9 1 2 3 18 19 20 21 22 2001 ?_
            refine J_condT rfl ?_
            refine J_skip ?_
            refine J_seq ?_
            refine J_block ?_
            refine js ?_
            refine u rfl rfl (fA 8 1) ?_
            refine u rfl rfl ld ?_
            refine u rfl rfl mv ?_
            refine u rfl rfl (r_indexAddr (e := 30) (sz := 9) rfl rfl (by kernel_rfl) rfl rfl (by omega) (vasD_at hx)) ?_
            refine u rfl rfl (eA 9) ?_
            refine JR.runC rfl rfl (cl (kRtold m x (hkl hx) (by omega) (by omega))) rfl ?_ ?_
            · intro h30
              refine u rfl rfl nt ?_
              refine jd ?_
              refine w16 1 2 3 18 19 20 21 22 25 26 27 28 29 30 31 2001 ?_
              refine J_condF rfl ?_
              refine J_skip ?_
              refine JR.start ?_
              refine u rfl rfl mv ?_
              refine u rfl rfl (r_addI rfl rfl rfl rfl (by omega)) ?_
              refine u rfl rfl asg ?_
              refine jd ?_
              refine ⟨⟨i + 1, by omega, by rw [hI, allV_step hx (vBare m), h30, Bool.true_and]⟩, by simp only; omega, rfl, rfl, rfl, rfl, trivial⟩
            · intro h30
              refine u rfl rfl nt ?_
              refine jd ?_
              refine w16 1 2 3 18 19 20 21 22 25 26 27 28 29 30 31 2001 ?_
              refine J_condT rfl ?_
              refine js ?_
              refine u rfl rfl asg ?_
              refine jd ?_
              refine w16 1 2 3 18 19 20 21 22 25 26 27 28 29 30 31 2001 ?_
              refine J_ret ?_
              refine ⟨.inl rfl, _, rfl, .ofB ?_, trivial⟩
              have e1 : v.kids.all (vBare m) = false := by rw [hI, allV_step hx (vBare m), h30, Bool.false_and]
              rw [vBare, e1, Bool.and_false]
          · intro h22
            replace h22 := of_decide_eq_false h22
            refine jd ?_
            refine w9 1 2 3 18 19 20 21 22 2001 ?_
            refine J_condF rfl ?_
            refine J_exit ?_
            refine js ?_
            refine u rfl rfl asg ?_
            refine jd ?_
            refine w1 2 ?_
            refine J_ret ?_
            refine ⟨.inl rfl, _, rfl, .ofB ?_, trivial⟩
            have e1 : v.kids.all (vBare m) = true := by rw [hI, List.drop_eq_nil_of_le (by omega)]; rfl
            rw [vBare, e1, Bool.and_true]
            simp_all [vB0]
      · intro h11
        replace h11 := of_decide_eq_false h11
        refine u rfl rfl mv ?_
        refine sk ?_
        refine sk ?_
        refine sk ?_
        refine u rfl rfl pF ?_
        refine u rfl rfl pF ?_
        refine jd ?_
        refine w4 1 2 17 2001 ?_
        refine J_condF rfl ?_
        refine J_skip ?_
        refine J_seq ?_
        refine js ?_
        refine u rfl rfl asg ?_
        refine jd ?_
        refine w4 1 2 3 2001 ?_
        refine J_block ?_
        refine J_loopF (α := { i : Nat // i ≤ v.kids.length ∧ v.kids.all (vBare m) = (v.kids.drop i).all (vBare m) }) (fun p => [(3, .c (.lit (.int .i64 (p.1 : Int))))]) [(1, _), (2, _), (2001, _)] (fun p => v.kids.length - p.1) ⟨0, Nat.zero_le _, rfl⟩ ⟨rfl, rfl, rfl, rfl, trivial⟩ ?_
        rintro ⟨i, hi, hI⟩
        dsimp only
        refine J_seq ?_
        refine js ?_
        refine u rfl rfl mv ?_
        refine u rfl rfl (fA 8 1) ?_
        refine u rfl rfl ld ?_
        refine u rfl rfl ln0 ?_
        refine JR.runB rfl rfl (r_ltI rfl rfl rfl rfl) ?_ ?_
        · intro h22
          replace h22 := of_decide_eq_true h22
          obtain ⟨x, hx⟩ := get_some (l := v.kids) (i := i) (by omega)
          have hxs := Va.kid_lt hx
          refine jd ?_
          refine w9 1 2 3 18 19 20 21 22 2001 ?_
          refine J_condT rfl ?_
          refine J_skip ?_
          refine J_seq ?_
          refine J_block ?_
          refine js ?_
          refine u rfl rfl (fA 8 1) ?_
          refine u rfl rfl ld ?_
          refine u rfl rfl mv ?_
          refine u rfl rfl (r_indexAddr (e := 30) (sz := 9) rfl rfl (by kernel_rfl) rfl rfl (by omega) (vasD_at hx)) ?_
          refine u rfl rfl (eA 9) ?_
          refine JR.runC rfl rfl (cl (kRtold m x (hkl hx) (by omega) (by omega))) rfl ?_ ?_
          · intro h30
            refine u rfl rfl nt ?_
            refine jd ?_
            refine w16 1 2 3 18 19 20 21 22 25 26 27 28 29 30 31 2001 ?_
            refine J_condF rfl ?_
            refine J_skip ?_
            refine JR.start ?_
            refine u rfl rfl mv ?_
            refine u rfl rfl (r_addI rfl rfl rfl rfl (by omega)) ?_
            refine u rfl rfl asg ?_
            refine jd ?_
            refine ⟨⟨i + 1, by omega, by rw [hI, allV_step hx (vBare m), h30, Bool.true_and]⟩, by simp only; omega, rfl, rfl, rfl, rfl, trivial⟩
          · intro h30
            refine u rfl rfl nt ?_
            refine jd ?_
            refine w16 1 2 3 18 19 20 21 22 25 26 27 28 29 30 31 2001 ?_
            refine J_condT rfl ?_
            refine js ?_
            refine u rfl rfl asg ?_
            refine jd ?_
            refine w16 1 2 3 18 19 20 21 22 25 26 27 28 29 30 31 2001 ?_
            refine J_ret ?_
            refine ⟨.inl rfl, _, rfl, .ofB ?_, trivial⟩
            have e1 : v.kids.all (vBare m) = false := by rw [hI, allV_step hx (vBare m), h30, Bool.false_and]
            rw [vBare, e1, Bool.and_false]
        · intro h22
          replace h22 := of_decide_eq_false h22
          refine jd ?_
          refine w9 1 2 3 18 19 20 21 22 2001 ?_
          refine J_condF rfl ?_
          refine J_exit ?_
          refine js ?_
          refine u rfl rfl asg ?_
          refine jd ?_
          refine w1 2 ?_
          refine J_ret ?_
          refine ⟨.inl rfl, _, rfl, .ofB ?_, trivial⟩
          have e1 : v.kids.all (vBare m) = true := by rw [hI, List.drop_eq_nil_of_le (by omega)]; rfl
          rw [vBare, e1, Bool.and_true]
          simp_all [vB0]
    · intro h6
      refine u rfl rfl nt ?_
      refine u rfl rfl mv ?_
      refine sk ?_
      refine sk ?_
      refine sk ?_
      refine sk ?_
      refine sk ?_
      refine sk ?_
      refine sk ?_
      refine sk ?_
      refine u rfl rfl pT ?_
      refine jd ?_
      refine w4 1 2 17 2001 ?_
      refine J_condT rfl ?_
      refine js ?_
      refine u rfl rfl asg ?_
      refine jd ?_
      refine w3 1 2 2001 ?_
      refine J_ret ?_
      refine ⟨.inl rfl, _, rfl, .ofB ?_, trivial⟩
      rw [vBare]
      simp_all [vB0]

theorem kOwn (v : Va) (hc : v.coe.size ≤ 400) (hs : v.str.length ≤ 300) : Con Tryz.prog 73 [.agg (vaX v)] [] (.c (.lit (.bool (rOwn v)))) [] := by
  have hl := vasD_len v.kids
  refine con_intro rfl rfl (by kernel_rfl) (by kernel_rfl) ?_
  refine js ?_
  refine u rfl rfl (r_boxA (x := 2001) rfl rfl rfl rfl) ?_
  refine u rfl rfl asg ?_
  refine jd ?_
  refine w3 1 2 2001 ?_
  refine js ?_
  refine u rfl rfl asg ?_
  refine jd ?_
  refine w4 1 2 3 2001 ?_
  refine J_cutF (α := { n : Int // ow1 v = true ∧ n = vKd v.kind }) (fun p => [(3, .c (.lit (.int .i64 p.1)))]) [(1, _), (2, _), (2001, _)] ⟨rfl, rfl, rfl, trivial⟩ ?_ ?_
  · skip
    refine js ?_
    refine u rfl rfl (fA 0 1) ?_
    refine u rfl rfl ld ?_
    refine jd ?_
    refine w5 1 2 3 5 2001 ?_
    refine J_block ?_
    refine J_seq ?_
    refine js ?_
    refine JR.runB rfl rfl (r_eqI rfl rfl rfl rfl) ?_ ?_
    · intro h7
      replace h7 := of_decide_eq_true h7
      refine u rfl rfl asg ?_
      refine jd ?_
      refine w6 1 2 3 5 6 2001 ?_
      refine J_condT rfl ?_
      refine J_skip ?_
      refine J_condT rfl ?_
      refine J_skip ?_
      exact ⟨⟨0, by first | (simp_all [ow1, vKind]; done) | (simp_all [ow1, vKind]; omega), by simp_all [vKd]⟩, ⟨rfl, rfl, rfl, rfl, trivial⟩⟩
    · intro h7
      replace h7 := of_decide_eq_false h7
      refine u rfl rfl asg ?_
      refine jd ?_
      refine w6 1 2 3 5 6 2001 ?_
      refine J_condF rfl ?_
      refine js ?_
      refine JR.runB rfl rfl (r_eqI rfl rfl rfl rfl) ?_ ?_
      · intro h8
        replace h8 := of_decide_eq_true h8
        refine u rfl rfl asg ?_
        refine jd ?_
        refine w6 1 2 3 5 6 2001 ?_
        refine J_condT rfl ?_
        refine J_skip ?_
        refine J_condT rfl ?_
        refine J_skip ?_
        exact ⟨⟨0, by first | (simp_all [ow1, vKind]; done) | (simp_all [ow1, vKind]; omega), by simp_all [vKd]⟩, ⟨rfl, rfl, rfl, rfl, trivial⟩⟩
      · intro h8
        replace h8 := of_decide_eq_false h8
        refine u rfl rfl asg ?_
        refine jd ?_
        refine w6 1 2 3 5 6 2001 ?_
        refine J_condF rfl ?_
        refine js ?_
        refine JR.runB rfl rfl (r_eqI rfl rfl rfl rfl) ?_ ?_
        · intro h9
          replace h9 := of_decide_eq_true h9
          refine u rfl rfl asg ?_
          refine jd ?_
          refine w6 1 2 3 5 6 2001 ?_
          refine J_condT rfl ?_
          refine J_skip ?_
          refine J_condT rfl ?_
          refine J_skip ?_
          exact ⟨⟨0, by first | (simp_all [ow1, vKind]; done) | (simp_all [ow1, vKind]; omega), by simp_all [vKd]⟩, ⟨rfl, rfl, rfl, rfl, trivial⟩⟩
        · intro h9
          replace h9 := of_decide_eq_false h9
          refine u rfl rfl asg ?_
          refine jd ?_
          refine w6 1 2 3 5 6 2001 ?_
          refine J_condF rfl ?_
          refine JR.start ?_
          refine JR.runB rfl rfl (r_eqI rfl rfl rfl rfl) ?_ ?_
          · intro h10
            replace h10 := of_decide_eq_true h10
            refine u rfl rfl asg ?_
            refine jd ?_
            refine w6 1 2 3 5 6 2001 ?_
            refine J_condT rfl ?_
            refine J_skip ?_
            exact ⟨⟨0, by first | (simp_all [ow1, vKind]; done) | (simp_all [ow1, vKind]; omega), by simp_all [vKd]⟩, ⟨rfl, rfl, rfl, rfl, trivial⟩⟩
          · intro h10
            replace h10 := of_decide_eq_false h10
            refine u rfl rfl asg ?_
            refine jd ?_
            refine w6 1 2 3 5 6 2001 ?_
            refine J_condF rfl ?_
            refine js ?_
            refine JR.runB rfl rfl (r_eqI rfl rfl rfl rfl) ?_ ?_
            · intro h12
              replace h12 := of_decide_eq_true h12
              refine u rfl rfl asg ?_
              refine jd ?_
              refine w6 1 2 3 5 11 2001 ?_
              refine J_condT rfl ?_
              refine js ?_
              refine u rfl rfl (fA 1 1) ?_
              refine u rfl rfl ld ?_
              refine JR.runB rfl rfl (r_ltI rfl rfl rfl rfl) ?_ ?_
              · intro h15
                replace h15 := of_decide_eq_true h15
                refine u rfl rfl mv ?_
                refine sk ?_
                refine sk ?_
                refine sk ?_
                refine u rfl rfl pT ?_
                refine jd ?_
                refine w5 1 2 3 20 2001 ?_
                refine J_condT rfl ?_
                refine js ?_
                refine u rfl rfl asg ?_
                refine jd ?_
                refine w4 1 2 3 2001 ?_
                refine J_ret ?_
                refine ⟨.inl rfl, _, rfl, .ofB ?_, trivial⟩
                first | (simp_all [rOwn, ow1, vKind]; done) | (simp_all [rOwn, ow1, vKind]; omega)
              · intro h15
                replace h15 := of_decide_eq_false h15
                refine u rfl rfl mv ?_
                refine u rfl rfl (fA 1 1) ?_
                refine u rfl rfl ld ?_
                refine JR.runB rfl rfl (r_gtI rfl rfl rfl rfl) ?_ ?_
                · intro h19
                  replace h19 := of_decide_eq_true h19
                  refine u rfl rfl pF ?_
                  refine jd ?_
                  refine w5 1 2 3 20 2001 ?_
                  refine J_condT rfl ?_
                  refine js ?_
                  refine u rfl rfl asg ?_
                  refine jd ?_
                  refine w4 1 2 3 2001 ?_
                  refine J_ret ?_
                  refine ⟨.inl rfl, _, rfl, .ofB ?_, trivial⟩
                  first | (simp_all [rOwn, ow1, vKind]; done) | (simp_all [rOwn, ow1, vKind]; omega)
                · intro h19
                  replace h19 := of_decide_eq_false h19
                  refine u rfl rfl pF ?_
                  refine jd ?_
                  refine w5 1 2 3 20 2001 ?_
                  refine J_condF rfl ?_
                  refine J_skip ?_
                  exact ⟨⟨0, by first | (simp_all [ow1, vKind]; done) | (simp_all [ow1, vKind]; omega), by simp_all [vKd]⟩, ⟨rfl, rfl, rfl, rfl, trivial⟩⟩
            · intro h12
              replace h12 := of_decide_eq_false h12
              refine u rfl rfl asg ?_
              refine jd ?_
              refine w6 1 2 3 5 11 2001 ?_
              refine J_condF rfl ?_
              refine J_seq ?_
              refine js ?_
              refine JR.runB rfl rfl (r_eqI rfl rfl rfl rfl) ?_ ?_
              · intro h22
                replace h22 := of_decide_eq_true h22
                refine u rfl rfl asg ?_
                refine jd ?_
                refine w6 1 2 3 5 21 2001 ?_
                refine J_condT rfl ?_
                refine J_skip ?_
                refine J_condT rfl ?_
                refine JR.start ?_
                refine u rfl rfl asg ?_
                refine jd ?_
                exact ⟨⟨2, by first | (simp_all [ow1, vKind]; done) | (simp_all [ow1, vKind]; omega), by simp_all [vKd]⟩, ⟨rfl, rfl, rfl, rfl, trivial⟩⟩
              · intro h22
                replace h22 := of_decide_eq_false h22
                refine u rfl rfl asg ?_
                refine jd ?_
                refine w6 1 2 3 5 21 2001 ?_
                refine J_condF rfl ?_
                refine JR.start ?_
                refine JR.runB rfl rfl (r_eqI rfl rfl rfl rfl) ?_ ?_
                · intro h23
                  replace h23 := of_decide_eq_true h23
                  refine u rfl rfl asg ?_
                  refine jd ?_
                  refine w6 1 2 3 5 21 2001 ?_
                  refine J_condT rfl ?_
                  refine JR.start ?_
                  refine u rfl rfl asg ?_
                  refine jd ?_
                  exact ⟨⟨2, by first | (simp_all [ow1, vKind]; done) | (simp_all [ow1, vKind]; omega), by simp_all [vKd]⟩, ⟨rfl, rfl, rfl, rfl, trivial⟩⟩
                · intro h23
                  replace h23 := of_decide_eq_false h23
                  refine u rfl rfl asg ?_
                  refine jd ?_
                  refine w6 1 2 3 5 21 2001 ?_
                  refine J_condF rfl ?_
                  refine js ?_
                  refine JR.runB rfl rfl (r_eqI rfl rfl rfl rfl) ?_ ?_
                  · intro h25
                    replace h25 := of_decide_eq_true h25
                    refine u rfl rfl asg ?_
                    refine jd ?_
                    refine w5 1 2 3 24 2001 ?_
                    refine J_condT rfl ?_
                    refine js ?_
                    refine u rfl rfl (fA 1 1) ?_
                    refine u rfl rfl ld ?_
                    refine JR.runB rfl rfl (r_ltI rfl rfl rfl rfl) ?_ ?_
                    · intro h28
                      replace h28 := of_decide_eq_true h28
                      refine jd ?_
                      refine w5 1 2 3 28 2001 ?_
                      refine J_condT rfl ?_
                      refine js ?_
                      refine u rfl rfl asg ?_
                      refine jd ?_
                      refine w4 1 2 3 2001 ?_
                      refine J_ret ?_
                      refine ⟨.inl rfl, _, rfl, .ofB ?_, trivial⟩
                      first | (simp_all [rOwn, ow1, vKind]; done) | (simp_all [rOwn, ow1, vKind]; omega)
                    · intro h28
                      replace h28 := of_decide_eq_false h28
                      refine jd ?_
                      refine w5 1 2 3 28 2001 ?_
                      refine J_condF rfl ?_
                      refine J_skip ?_
                      exact ⟨⟨0, by first | (simp_all [ow1, vKind]; done) | (simp_all [ow1, vKind]; omega), by simp_all [vKd]⟩, ⟨rfl, rfl, rfl, rfl, trivial⟩⟩
                  · intro h25
                    replace h25 := of_decide_eq_false h25
                    refine u rfl rfl asg ?_
                    refine jd ?_
                    refine w5 1 2 3 24 2001 ?_
                    refine J_condF rfl ?_
                    refine js ?_
                    refine u rfl rfl asg ?_
                    refine jd ?_
                    refine w4 1 2 3 2001 ?_
                    refine J_ret ?_
                    refine ⟨.inl rfl, _, rfl, .ofB ?_, trivial⟩
                    have e0 : vKind v.kind = false := by simp only [vKind, Bool.and_eq_false_iff, decide_eq_false_iff_not]; omega
                    simp [rOwn, ow1, e0]
  · rintro ⟨n5, how1, e3⟩
    dsimp only
    refine J_cutF (α := { u : Unit // ow2 v = true }) (fun p => []) [(1, _), (2, _), (2001, _)] ⟨rfl, rfl, rfl, trivial⟩ ?_ ?_
    · skip
      refine js ?_
      refine u rfl rfl (fA 8 1) ?_
      refine u rfl rfl ld ?_
      refine u rfl rfl ln0 ?_
      refine u rfl rfl mv ?_
      refine JR.runB rfl rfl (r_neI rfl rfl rfl rfl) ?_ ?_
      · intro h33
        replace h33 := of_decide_eq_false (nT h33)
        refine u rfl rfl mv ?_
        refine sk ?_
        refine sk ?_
        refine sk ?_
        refine sk ?_
        refine u rfl rfl pT ?_
        refine u rfl rfl mv ?_
        refine sk ?_
        refine sk ?_
        refine sk ?_
        refine sk ?_
        refine sk ?_
        refine sk ?_
        refine sk ?_
        refine sk ?_
        refine u rfl rfl pT ?_
        refine jd ?_
        refine w4 1 2 49 2001 ?_
        refine J_condT rfl ?_
        refine js ?_
        refine u rfl rfl asg ?_
        refine jd ?_
        refine w3 1 2 2001 ?_
        refine J_ret ?_
        refine ⟨.inl rfl, _, rfl, .ofB ?_, trivial⟩
        simp_all [rOwn, ow2, vasD_len]
      · intro h33
        replace h33 := of_decide_eq_true (nF h33)
        refine u rfl rfl mv ?_
        refine u rfl rfl (fA 2 1) ?_
        refine u rfl rfl ld ?_
        refine u rfl rfl (r_lenS rfl rfl (by kernel_rfl) rfl) ?_
        refine JR.runB rfl rfl (r_gtI rfl rfl rfl rfl) ?_ ?_
        · intro h38
          replace h38 := of_decide_eq_true h38
          refine u rfl rfl pF ?_
          refine u rfl rfl mv ?_
          refine sk ?_
          refine sk ?_
          refine sk ?_
          refine sk ?_
          refine sk ?_
          refine sk ?_
          refine sk ?_
          refine sk ?_
          refine u rfl rfl pT ?_
          refine jd ?_
          refine w4 1 2 49 2001 ?_
          refine J_condT rfl ?_
          refine js ?_
          refine u rfl rfl asg ?_
          refine jd ?_
          refine w3 1 2 2001 ?_
          refine J_ret ?_
          refine ⟨.inl rfl, _, rfl, .ofB ?_, trivial⟩
          simp only [rOwn, ow2, Bool.and_eq_false_iff, decide_eq_false_iff_not]
          omega
        · intro h38
          replace h38 := of_decide_eq_false h38
          refine u rfl rfl pF ?_
          refine u rfl rfl mv ?_
          refine u rfl rfl (fA 0 1) ?_
          refine u rfl rfl ld ?_
          refine JR.runB rfl rfl (r_neI rfl rfl rfl rfl) ?_ ?_
          · intro h43
            replace h43 := of_decide_eq_false (nT h43)
            refine u rfl rfl mv ?_
            refine u rfl rfl (fA 2 1) ?_
            refine u rfl rfl ld ?_
            refine JR.runB rfl rfl (r_neS rfl rfl rfl rfl) ?_ ?_
            · intro h47
              replace h47 := nT h47
              refine u rfl rfl pT ?_
              refine u rfl rfl pF ?_
              refine jd ?_
              refine w4 1 2 49 2001 ?_
              refine J_condT rfl ?_
              refine js ?_
              refine u rfl rfl asg ?_
              refine jd ?_
              refine w3 1 2 2001 ?_
              refine J_ret ?_
              refine ⟨.inl rfl, _, rfl, .ofB ?_, trivial⟩
              simp_all [rOwn, ow2, vasD_len]
            · intro h47
              replace h47 := nF h47
              refine u rfl rfl pT ?_
              refine u rfl rfl pF ?_
              refine jd ?_
              refine w4 1 2 49 2001 ?_
              refine J_condF rfl ?_
              refine J_skip ?_
              exact ⟨⟨(), by first | (simp_all [ow2, vRest, vLk, vasD_len]; done) | (simp_all [ow2, vRest, vLk, vasD_len]; omega)⟩, ⟨rfl, rfl, rfl, trivial⟩⟩
          · intro h43
            replace h43 := of_decide_eq_true (nF h43)
            refine u rfl rfl mv ?_
            refine sk ?_
            refine sk ?_
            refine sk ?_
            refine u rfl rfl pF ?_
            refine u rfl rfl pF ?_
            refine jd ?_
            refine w4 1 2 49 2001 ?_
            refine J_condF rfl ?_
            refine J_skip ?_
            exact ⟨⟨(), by first | (simp_all [ow2, vRest, vLk, vasD_len]; done) | (simp_all [ow2, vRest, vLk, vasD_len]; omega)⟩, ⟨rfl, rfl, rfl, trivial⟩⟩
    · rintro ⟨_, how2⟩
      dsimp only [List.nil_append]
      refine J_cutF (α := { u : Unit // ow3 v = true }) (fun p => []) [(1, _), (2, _), (2001, _)] ⟨rfl, rfl, rfl, trivial⟩ ?_ ?_
      · skip
        refine js ?_
        refine u rfl rfl (fA 1 1) ?_
        refine u rfl rfl ld ?_
        refine JR.runB rfl rfl (r_neI rfl rfl rfl rfl) ?_ ?_
        · intro h52
          replace h52 := of_decide_eq_false (nT h52)
          refine u rfl rfl mv ?_
          refine u rfl rfl (fA 0 1) ?_
          refine u rfl rfl ld ?_
          refine JR.runB rfl rfl (r_neI rfl rfl rfl rfl) ?_ ?_
          · intro h56
            replace h56 := of_decide_eq_false (nT h56)
            refine u rfl rfl pT ?_
            refine u rfl rfl mv ?_
            refine u rfl rfl (fA 0 1) ?_
            refine u rfl rfl ld ?_
            refine JR.runB rfl rfl (r_neI rfl rfl rfl rfl) ?_ ?_
            · intro h61
              replace h61 := of_decide_eq_false (nT h61)
              refine u rfl rfl pT ?_
              refine u rfl rfl mv ?_
              refine u rfl rfl (fA 0 1) ?_
              refine u rfl rfl ld ?_
              refine JR.runB rfl rfl (r_neI rfl rfl rfl rfl) ?_ ?_
              · intro h66
                replace h66 := of_decide_eq_false (nT h66)
                refine u rfl rfl pT ?_
                refine jd ?_
                refine w4 1 2 67 2001 ?_
                refine J_condT rfl ?_
                refine js ?_
                refine u rfl rfl asg ?_
                refine jd ?_
                refine w3 1 2 2001 ?_
                refine J_ret ?_
                refine ⟨.inl rfl, _, rfl, .ofB ?_, trivial⟩
                simp_all [rOwn, ow3]
              · intro h66
                replace h66 := of_decide_eq_true (nF h66)
                refine u rfl rfl pT ?_
                refine jd ?_
                refine w4 1 2 67 2001 ?_
                refine J_condF rfl ?_
                refine J_skip ?_
                exact ⟨⟨(), by first | (simp_all [ow3, vRest, vLk, vasD_len]; done) | (simp_all [ow3, vRest, vLk, vasD_len]; omega)⟩, ⟨rfl, rfl, rfl, trivial⟩⟩
            · intro h61
              replace h61 := of_decide_eq_true (nF h61)
              refine u rfl rfl pT ?_
              refine u rfl rfl mv ?_
              refine sk ?_
              refine sk ?_
              refine sk ?_
              refine u rfl rfl pF ?_
              refine jd ?_
              refine w4 1 2 67 2001 ?_
              refine J_condF rfl ?_
              refine J_skip ?_
              exact ⟨⟨(), by first | (simp_all [ow3, vRest, vLk, vasD_len]; done) | (simp_all [ow3, vRest, vLk, vasD_len]; omega)⟩, ⟨rfl, rfl, rfl, trivial⟩⟩
          · intro h56
            replace h56 := of_decide_eq_true (nF h56)
            refine u rfl rfl pT ?_
            refine u rfl rfl mv ?_
            refine sk ?_
            refine sk ?_
            refine sk ?_
            refine u rfl rfl pF ?_
            refine u rfl rfl mv ?_
            refine sk ?_
            refine sk ?_
            refine sk ?_
            refine u rfl rfl pF ?_
            refine jd ?_
            refine w4 1 2 67 2001 ?_
            refine J_condF rfl ?_
            refine J_skip ?_
            exact ⟨⟨(), by first | (simp_all [ow3, vRest, vLk, vasD_len]; done) | (simp_all [ow3, vRest, vLk, vasD_len]; omega)⟩, ⟨rfl, rfl, rfl, trivial⟩⟩
        · intro h52
          replace h52 := of_decide_eq_true (nF h52)
          refine u rfl rfl mv ?_
          refine sk ?_
          refine sk ?_
          refine sk ?_
          refine u rfl rfl pF ?_
          refine u rfl rfl mv ?_
          refine sk ?_
          refine sk ?_
          refine sk ?_
          refine u rfl rfl pF ?_
          refine u rfl rfl mv ?_
          refine sk ?_
          refine sk ?_
          refine sk ?_
          refine u rfl rfl pF ?_
          refine jd ?_
          refine w4 1 2 67 2001 ?_
          refine J_condF rfl ?_
          refine J_skip ?_
          exact ⟨⟨(), by first | (simp_all [ow3, vRest, vLk, vasD_len]; done) | (simp_all [ow3, vRest, vLk, vasD_len]; omega)⟩, ⟨rfl, rfl, rfl, trivial⟩⟩
      · rintro ⟨_, how3⟩
        dsimp only [List.nil_append]
        refine J_cutF (α := { u : Unit // ow4 v = true }) (fun p => []) [(1, _), (2, _), (2001, _)] ⟨rfl, rfl, rfl, trivial⟩ ?_ ?_
        · skip
          refine js ?_
          refine u rfl rfl (fA 0 1) ?_
          refine u rfl rfl ld ?_
          refine JR.runB rfl rfl (r_eqI rfl rfl rfl rfl) ?_ ?_
          · intro h70
            replace h70 := of_decide_eq_true h70
            obtain ⟨y, hy⟩ := ow2_kid how2 h70
            have hk1 := vaK_of hy
            refine u rfl rfl mv ?_
            refine u rfl rfl (fA 8 1) ?_
            refine u rfl rfl ld ?_
            refine u rfl rfl (r_indexAddr (e := 30) (sz := 9) rfl rfl (by kernel_rfl) rfl rfl (by decide) (vasD_at (i := 1) hy)) ?_
            refine u rfl rfl (eA 9) ?_
            refine JR.runC rfl rfl (cl (kList y)) rfl ?_ ?_
            · intro h76
              refine u rfl rfl nt ?_
              refine u rfl rfl mv ?_
              refine u rfl rfl (fA 8 1) ?_
              refine u rfl rfl ld ?_
              refine u rfl rfl (r_indexAddr (e := 30) (sz := 9) rfl rfl (by kernel_rfl) rfl rfl (by decide) (vasD_at (i := 1) hy)) ?_
              refine u rfl rfl (fE 3 5) ?_
              refine u rfl rfl (fE 0 1) ?_
              refine u rfl rfl lE ?_
              refine JR.runB rfl rfl (r_eqI rfl rfl rfl rfl) ?_ ?_
              · intro h85
                replace h85 := of_decide_eq_true h85
                refine u rfl rfl pF ?_
                refine u rfl rfl pT ?_
                refine jd ?_
                refine w4 1 2 87 2001 ?_
                refine J_condT rfl ?_
                refine js ?_
                refine u rfl rfl asg ?_
                refine jd ?_
                refine w3 1 2 2001 ?_
                refine J_ret ?_
                refine ⟨.inl rfl, _, rfl, .ofB ?_, trivial⟩
                simp_all [rOwn, ow4, vRest, vLk]
              · intro h85
                replace h85 := of_decide_eq_false h85
                refine u rfl rfl pF ?_
                refine u rfl rfl pT ?_
                refine jd ?_
                refine w4 1 2 87 2001 ?_
                refine J_condF rfl ?_
                refine J_skip ?_
                exact ⟨⟨(), by first | (simp_all [ow4, vRest, vLk, vasD_len]; done) | (simp_all [ow4, vRest, vLk, vasD_len]; omega)⟩, ⟨rfl, rfl, rfl, trivial⟩⟩
            · intro h76
              refine u rfl rfl nt ?_
              refine u rfl rfl mv ?_
              refine sk ?_
              refine sk ?_
              refine sk ?_
              refine sk ?_
              refine sk ?_
              refine sk ?_
              refine sk ?_
              refine u rfl rfl pT ?_
              refine u rfl rfl pT ?_
              refine jd ?_
              refine w4 1 2 87 2001 ?_
              refine J_condT rfl ?_
              refine js ?_
              refine u rfl rfl asg ?_
              refine jd ?_
              refine w3 1 2 2001 ?_
              refine J_ret ?_
              refine ⟨.inl rfl, _, rfl, .ofB ?_, trivial⟩
              simp_all [rOwn, ow4, vRest, vLk]
          · intro h70
            replace h70 := of_decide_eq_false h70
            refine u rfl rfl mv ?_
            refine sk ?_
            refine sk ?_
            refine sk ?_
            refine sk ?_
            refine sk ?_
            refine sk ?_
            refine sk ?_
            refine sk ?_
            refine sk ?_
            refine sk ?_
            refine sk ?_
            refine sk ?_
            refine sk ?_
            refine sk ?_
            refine sk ?_
            refine u rfl rfl pF ?_
            refine jd ?_
            refine w4 1 2 87 2001 ?_
            refine J_condF rfl ?_
            refine J_skip ?_
            exact ⟨⟨(), by first | (simp_all [ow4, vRest, vLk, vasD_len]; done) | (simp_all [ow4, vRest, vLk, vasD_len]; omega)⟩, ⟨rfl, rfl, rfl, trivial⟩⟩
        · rintro ⟨_, how4⟩
          dsimp only [List.nil_append]
          refine J_seq ?_
          refine js ?_
          refine u rfl rfl (fA 3 5) ?_
          refine u rfl rfl (lA 5) ?_
          refine JR.runC rfl rfl (cl (kRNone v.coe (by omega))) rfl ?_ ?_
          · intro h90
            refine jd ?_
            refine w4 1 2 90 2001 ?_
            refine J_condT rfl ?_
            refine js ?_
            refine u rfl rfl asg ?_
            refine jd ?_
            refine w3 1 2 2001 ?_
            refine J_ret ?_
            refine ⟨.inl rfl, _, rfl, .ofB ?_, trivial⟩
            simp_all [rOwn, ow5]
          · intro h90
            refine jd ?_
            refine w4 1 2 90 2001 ?_
            refine J_condF rfl ?_
            refine J_skip ?_
            refine J_seq ?_
            refine js ?_
            refine u rfl rfl (fA 3 5) ?_
            refine u rfl rfl (lA 5) ?_
            refine JR.runC rfl rfl (cl (kRCoR v.coe.size v.coe (by omega) (Nat.le_refl _))) rfl ?_ ?_
            · intro h93
              refine u rfl rfl nt ?_
              refine jd ?_
              refine w4 1 2 94 2001 ?_
              refine J_condF rfl ?_
              refine J_skip ?_
              refine J_seq ?_
              refine js ?_
              refine u rfl rfl (fA 3 5) ?_
              refine u rfl rfl (fA 0 1) ?_
              refine u rfl rfl ld ?_
              refine JR.runB rfl rfl (r_eqI rfl rfl rfl rfl) ?_ ?_
              · intro h98
                replace h98 := of_decide_eq_true h98
                refine jd ?_
                refine w4 1 2 98 2001 ?_
                refine J_condT rfl ?_
                refine js ?_
                refine u rfl rfl (fA 3 5) ?_
                refine u rfl rfl (fA 1 1) ?_
                refine u rfl rfl ld ?_
                refine u rfl rfl (lA 9) ?_
                refine u rfl rfl (cl (kRVHead v)) ?_
                refine JR.runB rfl rfl (r_eqI rfl rfl rfl rfl) ?_ ?_
                · intro h104
                  replace h104 := of_decide_eq_true h104
                  refine u rfl rfl asg ?_
                  refine jD [0, 1, 3, 0, 8, 31, 63] ?_
                  refine w3 1 2 2001 ?_
                  refine J_ret ?_
                  refine ⟨.inl rfl, _, rfl, .ofB ?_, trivial⟩
                  simp_all [rOwn, ow5]
                · intro h104
                  replace h104 := of_decide_eq_false h104
                  refine u rfl rfl asg ?_
                  refine jD [0, 1, 3, 0, 8, 31, 63] ?_
                  refine w3 1 2 2001 ?_
                  refine J_ret ?_
                  refine ⟨.inl rfl, _, rfl, .ofB ?_, trivial⟩
                  simp_all [rOwn, ow5]
              · intro h98
                replace h98 := of_decide_eq_false h98
                refine jd ?_
                refine w4 1 2 98 2001 ?_
                refine J_condF rfl ?_
                refine J_skip ?_
                refine js ?_
                refine u rfl rfl (fA 3 5) ?_
                refine u rfl rfl (fA 0 1) ?_
                refine u rfl rfl ld ?_
                refine u rfl rfl (cl (kRFormer v.coe.kind)) ?_
                refine u rfl rfl (lA 9) ?_
                refine u rfl rfl (cl (kRVHead v)) ?_
                refine JR.runB rfl rfl (r_eqI rfl rfl rfl rfl) ?_ ?_
                · intro h111
                  replace h111 := of_decide_eq_true h111
                  refine u rfl rfl mv ?_
                  refine u rfl rfl (lA 9) ?_
                  refine JR.runC rfl rfl (cl (kKidsOf v)) rfl ?_ ?_
                  · intro h114
                    refine u rfl rfl pT ?_
                    refine u rfl rfl asg ?_
                    refine jD [0, 1, 3, 7, 0, 31, 63, 127, 255, 511, 1023, 2047] ?_
                    refine w1 2 ?_
                    refine J_ret ?_
                    refine ⟨.inl rfl, _, rfl, .ofB ?_, trivial⟩
                    simp_all [rOwn, ow5]
                  · intro h114
                    refine u rfl rfl pT ?_
                    refine u rfl rfl asg ?_
                    refine jD [0, 1, 3, 7, 0, 31, 63, 127, 255, 511, 1023, 2047] ?_
                    refine w1 2 ?_
                    refine J_ret ?_
                    refine ⟨.inl rfl, _, rfl, .ofB ?_, trivial⟩
                    simp_all [rOwn, ow5]
                · intro h111
                  replace h111 := of_decide_eq_false h111
                  refine u rfl rfl mv ?_
                  refine sk ?_
                  refine sk ?_
                  refine u rfl rfl pF ?_
                  refine u rfl rfl asg ?_
                  refine jD [0, 1, 3, 7, 0, 31, 63, 127, 255, 511, 1023, 2047] ?_
                  refine w1 2 ?_
                  refine J_ret ?_
                  refine ⟨.inl rfl, _, rfl, .ofB ?_, trivial⟩
                  simp_all [rOwn, ow5]
            · intro h93
              refine u rfl rfl nt ?_
              refine jd ?_
              refine w4 1 2 94 2001 ?_
              refine J_condT rfl ?_
              refine js ?_
              refine u rfl rfl asg ?_
              refine jd ?_
              refine w3 1 2 2001 ?_
              refine J_ret ?_
              refine ⟨.inl rfl, _, rfl, .ofB ?_, trivial⟩
              simp_all [rOwn, ow5]

theorem kRRight : ∀ (m : Nat) (v : Va), v.Light → m ≤ 1000000000 → v.size ≤ m → Con Tryz.prog 56 [.agg (vaX v)] [] (.c (.lit (.bool (rR m v)))) []
  | 0, v, _, _, h => absurd v.size_pos (by omega)
  | m + 1, v, hL, hm, h => by
    obtain ⟨hs, hc, hkl⟩ := hL.of
    have hk := v.kids_lt
    have hl := vasD_len v.kids
    refine con_intro rfl rfl (by kernel_rfl) (by kernel_rfl) ?_
    refine js ?_
    refine u rfl rfl (r_boxA (x := 2001) rfl rfl rfl rfl) ?_
    refine u rfl rfl asg ?_
    refine jd ?_
    refine w3 1 2 2001 ?_
    refine J_seq ?_
    refine js ?_
    refine u rfl rfl (lA 9) ?_
    refine JR.runC rfl rfl (cl (kOwn v hc hs)) rfl ?_ ?_
    · intro h5
      refine u rfl rfl nt ?_
      refine jd ?_
      refine w4 1 2 6 2001 ?_
      refine J_condF rfl ?_
      refine J_skip ?_
      refine J_seq ?_
      refine js ?_
      refine u rfl rfl asg ?_
      refine jd ?_
      refine w4 1 2 3 2001 ?_
      refine J_block ?_
      refine J_loopF (α := { i : Nat // i ≤ v.kids.length ∧ v.kids.all (rR m) = (v.kids.drop i).all (rR m) }) (fun p => [(3, .c (.lit (.int .i64 (p.1 : Int))))]) [(1, _), (2, _), (2001, _)] (fun p => v.kids.length - p.1) ⟨0, Nat.zero_le _, rfl⟩ ⟨rfl, rfl, rfl, rfl, trivial⟩ ?_
      rintro ⟨i, hi, hI⟩
      dsimp only
      refine J_seq ?_
      refine js ?_
      refine u rfl rfl mv ?_
      refine u rfl rfl (fA 8 1) ?_
      refine u rfl rfl ld ?_
      refine u rfl rfl ln0 ?_
      refine JR.runB rfl rfl (r_ltI rfl rfl rfl rfl) ?_ ?_
      · intro h11
        replace h11 := of_decide_eq_true h11
        obtain ⟨x, hx⟩ := get_some (l := v.kids) (i := i) (by omega)
        have hxs := Va.kid_lt hx
        refine jd ?_
        refine w9 1 2 3 7 8 9 10 11 2001 ?_
        refine J_condT rfl ?_
        refine J_skip ?_
        refine J_seq ?_
        refine J_block ?_
        refine js ?_
        refine u rfl rfl (fA 8 1) ?_
        refine u rfl rfl ld ?_
        refine u rfl rfl mv ?_
        refine u rfl rfl (r_indexAddr (e := 30) (sz := 9) rfl rfl (by kernel_rfl) rfl rfl (by omega) (vasD_at hx)) ?_
        refine u rfl rfl (eA 9) ?_
        refine JR.runC rfl rfl (cl (kRRight m x (hkl hx) (by omega) (by omega))) rfl ?_ ?_
        · intro h19
          refine u rfl rfl nt ?_
          refine jd ?_
          refine w16 1 2 3 7 8 9 10 11 14 15 16 17 18 19 20 2001 ?_
          refine J_condF rfl ?_
          refine J_skip ?_
          refine JR.start ?_
          refine u rfl rfl mv ?_
          refine u rfl rfl (r_addI rfl rfl rfl rfl (by omega)) ?_
          refine u rfl rfl asg ?_
          refine jd ?_
          refine ⟨⟨i + 1, by omega, by rw [hI, allV_step hx (rR m), h19, Bool.true_and]⟩, by simp only; omega, rfl, rfl, rfl, rfl, trivial⟩
        · intro h19
          refine u rfl rfl nt ?_
          refine jd ?_
          refine w16 1 2 3 7 8 9 10 11 14 15 16 17 18 19 20 2001 ?_
          refine J_condT rfl ?_
          refine js ?_
          refine u rfl rfl asg ?_
          refine jd ?_
          refine w16 1 2 3 7 8 9 10 11 14 15 16 17 18 19 20 2001 ?_
          refine J_ret ?_
          refine ⟨.inl rfl, _, rfl, .ofB ?_, trivial⟩
          have e1 : v.kids.all (rR m) = false := by rw [hI, allV_step hx (rR m), h19, Bool.false_and]
          rw [rR, e1, Bool.and_false]
      · intro h11
        replace h11 := of_decide_eq_false h11
        refine jd ?_
        refine w9 1 2 3 7 8 9 10 11 2001 ?_
        refine J_condF rfl ?_
        refine J_exit ?_
        refine js ?_
        refine u rfl rfl asg ?_
        refine jd ?_
        refine w1 2 ?_
        refine J_ret ?_
        refine ⟨.inl rfl, _, rfl, .ofB ?_, trivial⟩
        have e1 : v.kids.all (rR m) = true := by rw [hI, List.drop_eq_nil_of_le (by omega)]; rfl
        rw [rR, e1, Bool.and_true]
        simp_all [vRest]
    · intro h5
      refine u rfl rfl nt ?_
      refine jd ?_
      refine w4 1 2 6 2001 ?_
      refine J_condT rfl ?_
      refine js ?_
      refine u rfl rfl asg ?_
      refine jd ?_
      refine w3 1 2 2001 ?_
      refine J_ret ?_
      refine ⟨.inl rfl, _, rfl, .ofB ?_, trivial⟩
      rw [rR]
      simp_all [vRest]

theorem kTold (v : Va) (hL : v.Light) (h : v.size ≤ 1000000000) : Con Tryz.prog 28 [.agg (vaX v)] [] (.c (.lit (.bool (vTold v)))) [] := by
  refine con_intro rfl rfl (by kernel_rfl) (by kernel_rfl) ?_
  refine js ?_
  refine u rfl rfl (r_boxA (x := 2001) rfl rfl rfl rfl) ?_
  refine u rfl rfl asg ?_
  refine jd ?_
  refine w3 1 2 2001 ?_
  refine js ?_
  refine u rfl rfl (lA 9) ?_
  refine JR.runC rfl rfl (cl (kVRight v.size v hL h (Nat.le_refl _))) rfl ?_ ?_
  · intro h4
    refine u rfl rfl mv ?_
    refine u rfl rfl (lA 9) ?_
    refine JR.runC rfl rfl (cl (kVBare v.size v hL h (Nat.le_refl _))) rfl ?_ ?_
    · intro h7
      refine u rfl rfl pT ?_
      refine u rfl rfl asg ?_
      refine jd ?_
      refine w1 2 ?_
      refine J_ret ?_
      refine ⟨.inl rfl, _, rfl, .ofB ?_, trivial⟩
      simp_all [vTold]
    · intro h7
      refine u rfl rfl pT ?_
      refine u rfl rfl asg ?_
      refine jd ?_
      refine w1 2 ?_
      refine J_ret ?_
      refine ⟨.inl rfl, _, rfl, .ofB ?_, trivial⟩
      simp_all [vTold]
  · intro h4
    refine u rfl rfl mv ?_
    refine sk ?_
    refine sk ?_
    refine u rfl rfl pF ?_
    refine u rfl rfl asg ?_
    refine jd ?_
    refine w1 2 ?_
    refine J_ret ?_
    refine ⟨.inl rfl, _, rfl, .ofB ?_, trivial⟩
    simp_all [vTold]

theorem kRTold (v : Va) (hL : v.Light) (h : v.size ≤ 1000000000) : Con Tryz.prog 30 [.agg (vaX v)] [] (.c (.lit (.bool (rTold v)))) [] := by
  refine con_intro rfl rfl (by kernel_rfl) (by kernel_rfl) ?_
  refine js ?_
  refine u rfl rfl (r_boxA (x := 2001) rfl rfl rfl rfl) ?_
  refine u rfl rfl asg ?_
  refine jd ?_
  refine w3 1 2 2001 ?_
  refine js ?_
  refine u rfl rfl (lA 9) ?_
  refine JR.runC rfl rfl (cl (kRRight v.size v hL h (Nat.le_refl _))) rfl ?_ ?_
  · intro h4
    refine u rfl rfl mv ?_
    refine u rfl rfl (lA 9) ?_
    refine JR.runC rfl rfl (cl (kRtold v.size v hL h (Nat.le_refl _))) rfl ?_ ?_
    · intro h7
      refine u rfl rfl pT ?_
      refine u rfl rfl asg ?_
      refine jd ?_
      refine w1 2 ?_
      refine J_ret ?_
      refine ⟨.inl rfl, _, rfl, .ofB ?_, trivial⟩
      simp_all [rTold]
    · intro h7
      refine u rfl rfl pT ?_
      refine u rfl rfl asg ?_
      refine jd ?_
      refine w1 2 ?_
      refine J_ret ?_
      refine ⟨.inl rfl, _, rfl, .ofB ?_, trivial⟩
      simp_all [rTold]
  · intro h4
    refine u rfl rfl mv ?_
    refine sk ?_
    refine sk ?_
    refine u rfl rfl pF ?_
    refine u rfl rfl asg ?_
    refine jd ?_
    refine w1 2 ?_
    refine J_ret ?_
    refine ⟨.inl rfl, _, rfl, .ofB ?_, trivial⟩
    simp_all [rTold]

end Go.Proofs.YtccdnmjijakofaaGreatDoor
