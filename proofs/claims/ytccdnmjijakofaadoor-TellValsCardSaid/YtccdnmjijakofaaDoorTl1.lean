/- The walk of the law TellVals. -/
import Derived.Test.YtccdnmjijakofaaDoorTl
namespace Go.Proofs.YtccdnmjijakofaaDoor
open Go Go.RowKit
set_option maxRecDepth 100000
set_option maxHeartbeats 1000000
set_option linter.unusedVariables false
set_option linter.unusedSimpArgs false

theorem lTellVals (v : Va) (hvI : v.I) (hvL : v.L) (w : Va) (hwI : w.I) (hwL : w.L) : Con Tryd.prog 3 [.agg (vaX v), .agg (vaX w)] [] (.c (.lit (.bool true))) [] := by
  have hH := kVaHeavy [v, w] (by simp) (fun x hx => by simp only [List.mem_cons, List.not_mem_nil, or_false] at hx; rcases hx with rfl | rfl <;> assumption)
  refine con_intro rfl rfl (by kernel_rfl) (by kernel_rfl) ?_
  refine js ?_
  refine u rfl rfl (r_boxA (x := 2002) rfl rfl rfl rfl) ?_
  refine u rfl rfl (r_boxA (x := 2003) rfl rfl rfl rfl) ?_
  refine u rfl rfl asg ?_
  refine jd ?_
  refine w5 2 3 4 2002 2003 ?_
  refine J_seq ?_
  refine js ?_
  refine u rfl rfl (lA 9) ?_
  refine u rfl rfl (lA 9) ?_
  refine u rfl rfl (r_buildSlice (e := 27) (sz := 9) (zs := [.int .i64 0, .int .i64 0, str [], .int .i64 0, .int .i64 0, .int .i64 0, .bool false, .slice none 0 0, .slice none 0 0]) (vasD [v, w]) rfl rfl (by kernel_rfl) (by kernel_rfl) rfl rfl (by simp only [vasD, vaD_eq]; rfl) (by simp only [vasD, vaD_eq]; rfl)) ?_
  refine JR.runC rfl rfl (cl (hH)) rfl ?_ ?_
  · intro h10
    refine jd ?_
    refine w6 2 3 4 10 2002 2003 ?_
    refine J_condT rfl ?_
    refine js ?_
    refine u rfl rfl asg ?_
    refine jd ?_
    refine w5 2 3 4 2002 2003 ?_
    refine J_ret ?_
    exact ⟨.inl rfl, _, rfl, .refl _, trivial⟩
  · intro h10
    obtain ⟨hs, hl⟩ := not_heavy h10
    have hv1 := hl v (by simp)
    have hw1 := hl w (by simp)
    simp only [Va.sizes] at hs
    have ctv := kRTold v hv1 (by omega)
    have ctw := kRTold w hw1 (by omega)
    rw [rTold_eq] at ctv ctw
    refine jd ?_
    refine w6 2 3 4 10 2002 2003 ?_
    refine J_condF rfl ?_
    refine J_skip ?_
    refine js ?_
    refine u rfl rfl (lA 9) ?_
    refine u rfl rfl (cl (kTval v hvI hv1 (by omega))) ?_
    refine u rfl rfl (lA 9) ?_
    refine u rfl rfl (cl (kTval w hwI hw1 (by omega))) ?_
    refine u rfl rfl asg ?_
    refine u rfl rfl asg ?_
    refine jD [0, 1, 0, 7, 15, 31] ?_
    refine w7 2 3 4 5 6 2002 2003 ?_
    refine J_seq ?_
    refine js ?_
    refine u rfl rfl (lA 9) ?_
    refine JR.runC rfl rfl (cl (ctv)) rfl ?_ ?_
    · intro h16
      refine u rfl rfl nt ?_
      refine u rfl rfl mv ?_
      refine u rfl rfl (lA 9) ?_
      refine JR.runC rfl rfl (cl (ctw)) rfl ?_ ?_
      · intro h20
        refine u rfl rfl nt ?_
        refine u rfl rfl pF ?_
        refine jd ?_
        refine w8 2 3 4 5 6 22 2002 2003 ?_
        refine J_condF rfl ?_
        refine J_skip ?_
        refine js ?_
        refine u rfl rfl mv ?_
        refine u rfl rfl mv ?_
        refine JR.runB rfl rfl (r_eqS rfl rfl rfl rfl) ?_ ?_
        · intro h42
          refine u rfl rfl (lA 9) ?_
          refine u rfl rfl (lA 9) ?_
          refine JR.runC rfl rfl (cl (kVSame v.size v w hv1 (by omega) (Nat.le_refl _))) rfl ?_ ?_
          · intro h45
            refine u rfl rfl (r_eqB rfl rfl (by kernel_rfl) rfl rfl) ?_
            refine u rfl rfl mv ?_
            refine u rfl rfl mv ?_
            refine u rfl rfl (r_lenS rfl rfl (by kernel_rfl) rfl) ?_
            refine JR.runB rfl rfl (r_gtI rfl rfl rfl rfl) ?_ ?_
            · intro h50
              replace h50 := of_decide_eq_true h50
              refine u rfl rfl pT ?_
              refine u rfl rfl mv ?_
              refine u rfl rfl (cl (kWakes27)) ?_
              refine u rfl rfl pT ?_
              refine u rfl rfl asg ?_
              refine jd ?_
              refine w1 4 ?_
              refine J_ret ?_
              exact ⟨.inl rfl, _, rfl, .refl _, trivial⟩
            · intro h50
              replace h50 := of_decide_eq_false h50
              refine u rfl rfl pT ?_
              refine u rfl rfl mv ?_
              refine sk ?_
              refine u rfl rfl pF ?_
              refine u rfl rfl asg ?_
              refine jd ?_
              refine w1 4 ?_
              refine J_ret ?_
              exfalso
              have := tlT_pos hvI h16
              omega
          · intro h45
            refine u rfl rfl (r_eqB rfl rfl (by kernel_rfl) rfl rfl) ?_
            refine u rfl rfl mv ?_
            refine sk ?_
            refine sk ?_
            refine sk ?_
            refine u rfl rfl pF ?_
            refine u rfl rfl mv ?_
            refine sk ?_
            refine u rfl rfl pF ?_
            refine u rfl rfl asg ?_
            refine jd ?_
            refine w1 4 ?_
            refine J_ret ?_
            exfalso
            have := tlT_iff hvI hwI h16 h20
            rw [h42, h45] at this
            cases this
        · intro h42
          refine u rfl rfl (lA 9) ?_
          refine u rfl rfl (lA 9) ?_
          refine JR.runC rfl rfl (cl (kVSame v.size v w hv1 (by omega) (Nat.le_refl _))) rfl ?_ ?_
          · intro h45
            refine u rfl rfl (r_eqB rfl rfl (by kernel_rfl) rfl rfl) ?_
            refine u rfl rfl mv ?_
            refine sk ?_
            refine sk ?_
            refine sk ?_
            refine u rfl rfl pF ?_
            refine u rfl rfl mv ?_
            refine sk ?_
            refine u rfl rfl pF ?_
            refine u rfl rfl asg ?_
            refine jd ?_
            refine w1 4 ?_
            refine J_ret ?_
            exfalso
            have := tlT_iff hvI hwI h16 h20
            rw [h42, h45] at this
            cases this
          · intro h45
            refine u rfl rfl (r_eqB rfl rfl (by kernel_rfl) rfl rfl) ?_
            refine u rfl rfl mv ?_
            refine u rfl rfl mv ?_
            refine u rfl rfl (r_lenS rfl rfl (by kernel_rfl) rfl) ?_
            refine JR.runB rfl rfl (r_gtI rfl rfl rfl rfl) ?_ ?_
            · intro h50
              replace h50 := of_decide_eq_true h50
              refine u rfl rfl pT ?_
              refine u rfl rfl mv ?_
              refine u rfl rfl (cl (kWakes27)) ?_
              refine u rfl rfl pT ?_
              refine u rfl rfl asg ?_
              refine jd ?_
              refine w1 4 ?_
              refine J_ret ?_
              exact ⟨.inl rfl, _, rfl, .refl _, trivial⟩
            · intro h50
              replace h50 := of_decide_eq_false h50
              refine u rfl rfl pT ?_
              refine u rfl rfl mv ?_
              refine sk ?_
              refine u rfl rfl pF ?_
              refine u rfl rfl asg ?_
              refine jd ?_
              refine w1 4 ?_
              refine J_ret ?_
              exfalso
              have := tlT_pos hvI h16
              omega
      · intro h20
        refine u rfl rfl nt ?_
        refine u rfl rfl pF ?_
        refine jd ?_
        refine w8 2 3 4 5 6 22 2002 2003 ?_
        refine J_condT rfl ?_
        refine js ?_
        refine u rfl rfl mv ?_
        refine u rfl rfl (r_lenS rfl rfl (by kernel_rfl) rfl) ?_
        refine JR.runB rfl rfl (r_gtI rfl rfl rfl rfl) ?_ ?_
        · intro h25
          replace h25 := of_decide_eq_true h25
          refine u rfl rfl (lA 9) ?_
          refine u rfl rfl (cl ((by rw [h16] at ctv; exact ctv))) ?_
          refine u rfl rfl (r_eqB rfl rfl (by kernel_rfl) rfl rfl) ?_
          refine u rfl rfl mv ?_
          refine u rfl rfl mv ?_
          refine u rfl rfl (r_lenS rfl rfl (by kernel_rfl) rfl) ?_
          refine JR.runB rfl rfl (r_gtI rfl rfl rfl rfl) ?_ ?_
          · intro h32
            replace h32 := of_decide_eq_true h32
            refine u rfl rfl (lA 9) ?_
            refine u rfl rfl (cl ((by rw [h20] at ctw; exact ctw))) ?_
            refine u rfl rfl (r_eqB rfl rfl (by kernel_rfl) rfl rfl) ?_
            refine u rfl rfl pT ?_
            refine u rfl rfl mv ?_
            refine sk ?_
            refine u rfl rfl pF ?_
            refine u rfl rfl asg ?_
            refine jd ?_
            refine w7 2 3 4 5 6 2002 2003 ?_
            refine J_ret ?_
            exfalso
            have := tlT_not h20
            rw [this] at h32; simp at h32
          · intro h32
            replace h32 := of_decide_eq_false h32
            refine u rfl rfl (lA 9) ?_
            refine u rfl rfl (cl ((by rw [h20] at ctw; exact ctw))) ?_
            refine u rfl rfl (r_eqB rfl rfl (by kernel_rfl) rfl rfl) ?_
            refine u rfl rfl pT ?_
            refine u rfl rfl mv ?_
            refine u rfl rfl (cl (kWakes27)) ?_
            refine u rfl rfl pT ?_
            refine u rfl rfl asg ?_
            refine jd ?_
            refine w7 2 3 4 5 6 2002 2003 ?_
            refine J_ret ?_
            exact ⟨.inl rfl, _, rfl, .refl _, trivial⟩
        · intro h25
          replace h25 := of_decide_eq_false h25
          refine u rfl rfl (lA 9) ?_
          refine u rfl rfl (cl ((by rw [h16] at ctv; exact ctv))) ?_
          refine u rfl rfl (r_eqB rfl rfl (by kernel_rfl) rfl rfl) ?_
          refine u rfl rfl mv ?_
          refine sk ?_
          refine sk ?_
          refine sk ?_
          refine sk ?_
          refine sk ?_
          refine sk ?_
          refine u rfl rfl pF ?_
          refine u rfl rfl mv ?_
          refine sk ?_
          refine u rfl rfl pF ?_
          refine u rfl rfl asg ?_
          refine jd ?_
          refine w7 2 3 4 5 6 2002 2003 ?_
          refine J_ret ?_
          exfalso
          have := tlT_pos hvI h16
          omega
    · intro h16
      refine u rfl rfl nt ?_
      refine u rfl rfl mv ?_
      refine sk ?_
      refine sk ?_
      refine sk ?_
      refine u rfl rfl pT ?_
      refine jd ?_
      refine w8 2 3 4 5 6 22 2002 2003 ?_
      refine J_condT rfl ?_
      refine js ?_
      refine u rfl rfl mv ?_
      refine u rfl rfl (r_lenS rfl rfl (by kernel_rfl) rfl) ?_
      refine JR.runB rfl rfl (r_gtI rfl rfl rfl rfl) ?_ ?_
      · intro h25
        replace h25 := of_decide_eq_true h25
        refine u rfl rfl (lA 9) ?_
        refine u rfl rfl (cl ((by rw [h16] at ctv; exact ctv))) ?_
        refine u rfl rfl (r_eqB rfl rfl (by kernel_rfl) rfl rfl) ?_
        refine u rfl rfl mv ?_
        refine sk ?_
        refine sk ?_
        refine sk ?_
        refine sk ?_
        refine sk ?_
        refine sk ?_
        refine u rfl rfl pF ?_
        refine u rfl rfl mv ?_
        refine sk ?_
        refine u rfl rfl pF ?_
        refine u rfl rfl asg ?_
        refine jd ?_
        refine w7 2 3 4 5 6 2002 2003 ?_
        refine J_ret ?_
        exfalso
        have := tlT_not h16
        rw [this] at h25; simp at h25
      · intro h25
        replace h25 := of_decide_eq_false h25
        refine u rfl rfl (lA 9) ?_
        refine u rfl rfl (cl ((by rw [h16] at ctv; exact ctv))) ?_
        refine u rfl rfl (r_eqB rfl rfl (by kernel_rfl) rfl rfl) ?_
        refine u rfl rfl mv ?_
        refine u rfl rfl mv ?_
        refine u rfl rfl (r_lenS rfl rfl (by kernel_rfl) rfl) ?_
        refine JR.runB rfl rfl (r_gtI rfl rfl rfl rfl) ?_ ?_
        · intro h32
          replace h32 := of_decide_eq_true h32
          refine u rfl rfl (lA 9) ?_
          refine JR.runC rfl rfl (cl (ctw)) rfl ?_ ?_
          · intro h34
            refine u rfl rfl (r_eqB rfl rfl (by kernel_rfl) rfl rfl) ?_
            refine u rfl rfl pT ?_
            refine u rfl rfl mv ?_
            refine u rfl rfl (cl (kWakes27)) ?_
            refine u rfl rfl pT ?_
            refine u rfl rfl asg ?_
            refine jd ?_
            refine w7 2 3 4 5 6 2002 2003 ?_
            refine J_ret ?_
            exact ⟨.inl rfl, _, rfl, .refl _, trivial⟩
          · intro h34
            refine u rfl rfl (r_eqB rfl rfl (by kernel_rfl) rfl rfl) ?_
            refine u rfl rfl pT ?_
            refine u rfl rfl mv ?_
            refine sk ?_
            refine u rfl rfl pF ?_
            refine u rfl rfl asg ?_
            refine jd ?_
            refine w7 2 3 4 5 6 2002 2003 ?_
            refine J_ret ?_
            exfalso
            have := tlT_not h34
            rw [this] at h32; simp at h32
        · intro h32
          replace h32 := of_decide_eq_false h32
          refine u rfl rfl (lA 9) ?_
          refine JR.runC rfl rfl (cl (ctw)) rfl ?_ ?_
          · intro h34
            refine u rfl rfl (r_eqB rfl rfl (by kernel_rfl) rfl rfl) ?_
            refine u rfl rfl pT ?_
            refine u rfl rfl mv ?_
            refine sk ?_
            refine u rfl rfl pF ?_
            refine u rfl rfl asg ?_
            refine jd ?_
            refine w7 2 3 4 5 6 2002 2003 ?_
            refine J_ret ?_
            exfalso
            have := tlT_pos hwI h34
            omega
          · intro h34
            refine u rfl rfl (r_eqB rfl rfl (by kernel_rfl) rfl rfl) ?_
            refine u rfl rfl pT ?_
            refine u rfl rfl mv ?_
            refine u rfl rfl (cl (kWakes27)) ?_
            refine u rfl rfl pT ?_
            refine u rfl rfl asg ?_
            refine jd ?_
            refine w7 2 3 4 5 6 2002 2003 ?_
            refine J_ret ?_
            exact ⟨.inl rfl, _, rfl, .refl _, trivial⟩

end Go.Proofs.YtccdnmjijakofaaDoor
