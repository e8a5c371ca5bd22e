/- The page's texts of layer 27. -/
import Derived.Test.YtccdnmjijakofaaGreatDoorTw
import Derived.Test.YtccdnmjijakofaaGreatDoorRk
import Derived.Test.YtccdnmjijakofaaGreatDoorSh25
namespace Go.Proofs.YtccdnmjijakofaaGreatDoor
open Go Go.RowKit
set_option maxRecDepth 100000
set_option maxHeartbeats 1000000
set_option linter.unusedVariables false
set_option linter.unusedSimpArgs false

theorem kRNum (n : Int) (h : I64 n) : Con Tryz.prog 48 [.c (.lit (.int .i64 n))] [] (.c (.lit (str (mNum n)))) [] := by
  refine con_below (by simp [Flat]) trivial (by simp) fun S w args B hsz harg hS htt hB => ?_
  rw [args_one hsz (lit_val (ρ := fun _ => 0) (harg 0 _ rfl))]
  refine (refNum_any n h.1 (by have := h.2; omega) w).mono ?_
  rintro e w' ⟨rfl, rfl⟩
  exact ⟨_, rfl, Below.refl _ _, fun _ _ _ => .lit _ rfl⟩
theorem kRLong (s : List UInt8) (h : s.length ≤ 200) : Con Tryz.prog 58 [.c (.lit (str s))] [] (.c (.lit (str (mLong s)))) [] := by
  refine con_below (by simp [Flat]) trivial (by simp) fun S w args B hsz harg hS htt hB => ?_
  rw [args_one hsz (lit_val (ρ := fun _ => 0) (harg 0 _ rfl))]
  refine (refLong_any s w (by omega)).mono ?_
  rintro e w' ⟨rfl, hbl⟩
  exact ⟨_, rfl, hbl, fun _ _ _ => .lit _ rfl⟩
theorem kXnum (n : Int) (h : I64 n) : Con Tryz.prog 37 [.c (.lit (.int .i64 n))] [] (.c (.lit (str (mNum n)))) [] := by
  refine con_intro rfl rfl (by kernel_rfl) (by kernel_rfl) ?_
  refine js ?_
  refine u rfl rfl asg ?_
  refine jd ?_
  refine w2 0 2 ?_
  refine js ?_
  refine u rfl rfl mv ?_
  refine u rfl rfl (cl (kRNum n h)) ?_
  refine u rfl rfl asg ?_
  refine jd ?_
  refine w1 2 ?_
  refine J_ret ?_
  exact ⟨.inl rfl, _, rfl, .refl _, trivial⟩

theorem kXspan (a b : Int) (ha : I64 a) (hb : I64 b) : Con Tryz.prog 34 [.agg [.lit (.int .i64 a), .lit (.int .i64 b)]] [] (.c (.lit (str (spT a b)))) [] := by
  have q1 := mNum_20 a
  have q2 := mNum_20 b
  refine con_intro rfl rfl (by kernel_rfl) (by kernel_rfl) ?_
  refine js ?_
  refine u rfl rfl (r_boxA (x := 2001) rfl rfl rfl rfl) ?_
  refine u rfl rfl asg ?_
  refine jd ?_
  refine w3 1 2 2001 ?_
  refine js ?_
  refine u rfl rfl (fA 0 1) ?_
  refine u rfl rfl ld ?_
  refine u rfl rfl (cl (kXnum a ha)) ?_
  refine u rfl rfl (r_catS rfl rfl rfl rfl (by first | omega | (simp only [List.length_append, List.length_cons, List.length_nil]; omega))) ?_
  refine u rfl rfl (fA 1 1) ?_
  refine u rfl rfl ld ?_
  refine u rfl rfl (cl (kXnum b hb)) ?_
  refine u rfl rfl (r_catS rfl rfl rfl rfl (by first | omega | (simp only [List.length_append, List.length_cons, List.length_nil]; omega))) ?_
  refine u rfl rfl asg ?_
  refine jD [0, 1, 3, 7, 0, 16, 55, 127, 255] ?_
  refine w1 2 ?_
  refine J_ret ?_
  exact ⟨.inl rfl, _, rfl, .refl _, trivial⟩

theorem kdT_out {k : Int} (h : k < 0 ∨ 9 < k) : kdT k = [] := by
  unfold kdT
  repeat rw [if_neg (by omega)]
theorem kXkind (k : Int) : Con Tryz.prog 35 [.c (.lit (.int .i64 k))] [] (.c (.lit (str (kdT k)))) [] := by
  by_cases hk : k < 0 ∨ 9 < k
  · rw [kdT_out hk]
    refine con_intro rfl rfl (by kernel_rfl) (by kernel_rfl) ?_
    by_cases h6 : k < 0
    · skip
      refine js ?_
      refine u rfl rfl asg ?_
      refine jd ?_
      refine w2 0 2 ?_
      refine js ?_
      refine u rfl rfl (r_buildArr (len := 10) (sz := 1) (zs := [str [], str [], str [], str [], str [], str [], str [], str [], str [], str []]) [.lit (str []), .lit (str []), .lit (str []), .lit (str []), .lit (str []), .lit (str []), .lit (str []), .lit (str []), .lit (str []), .lit (str [])] rfl rfl (by kernel_rfl) (by kernel_rfl) ⟨.refl _, .refl _, .refl _, .refl _, .refl _, .refl _, .refl _, .refl _, .refl _, .refl _, trivial⟩ rfl rfl) ?_
      refine u rfl rfl (r_alloc (x := 2003) (zs := [str [], str [], str [], str [], str [], str [], str [], str [], str [], str []]) [.lit (str []), .lit (str []), .lit (str []), .lit (str []), .lit (str []), .lit (str []), .lit (str []), .lit (str []), .lit (str []), .lit (str [])] rfl rfl rfl (by kernel_rfl) ⟨.refl _, .refl _, .refl _, .refl _, .refl _, .refl _, .refl _, .refl _, .refl _, .refl _, trivial⟩) ?_
      refine u rfl rfl sA ?_
      refine jd ?_
      refine w4 0 2 3 2003 ?_
      refine J_seq ?_
      refine js ?_
      refine u rfl rfl mv ?_
      refine u rfl rfl ((r_ltI rfl rfl rfl rfl).cast (cast_b (b' := true) (by exact decide_eq_true h6))) ?_
      refine u rfl rfl mv ?_
      refine sk ?_
      refine sk ?_
      refine u rfl rfl pT ?_
      refine jd ?_
      refine w5 0 2 3 10 2003 ?_
      refine J_condT rfl ?_
      refine js ?_
      refine u rfl rfl asg ?_
      refine jd ?_
      refine w4 0 2 3 2003 ?_
      refine J_ret ?_
      exact ⟨.inl rfl, _, rfl, .refl _, trivial⟩
    · skip
      refine js ?_
      refine u rfl rfl asg ?_
      refine jd ?_
      refine w2 0 2 ?_
      refine js ?_
      refine u rfl rfl (r_buildArr (len := 10) (sz := 1) (zs := [str [], str [], str [], str [], str [], str [], str [], str [], str [], str []]) [.lit (str []), .lit (str []), .lit (str []), .lit (str []), .lit (str []), .lit (str []), .lit (str []), .lit (str []), .lit (str []), .lit (str [])] rfl rfl (by kernel_rfl) (by kernel_rfl) ⟨.refl _, .refl _, .refl _, .refl _, .refl _, .refl _, .refl _, .refl _, .refl _, .refl _, trivial⟩ rfl rfl) ?_
      refine u rfl rfl (r_alloc (x := 2003) (zs := [str [], str [], str [], str [], str [], str [], str [], str [], str [], str []]) [.lit (str []), .lit (str []), .lit (str []), .lit (str []), .lit (str []), .lit (str []), .lit (str []), .lit (str []), .lit (str []), .lit (str [])] rfl rfl rfl (by kernel_rfl) ⟨.refl _, .refl _, .refl _, .refl _, .refl _, .refl _, .refl _, .refl _, .refl _, .refl _, trivial⟩) ?_
      refine u rfl rfl sA ?_
      refine jd ?_
      refine w4 0 2 3 2003 ?_
      refine J_seq ?_
      refine js ?_
      refine u rfl rfl mv ?_
      refine u rfl rfl ((r_ltI rfl rfl rfl rfl).cast (cast_b (b' := false) (by exact decide_eq_false h6))) ?_
      refine u rfl rfl mv ?_
      refine u rfl rfl mv ?_
      refine u rfl rfl ((r_gtI rfl rfl rfl rfl).cast (cast_b (b' := true) (by exact decide_eq_true (by omega)))) ?_
      refine u rfl rfl pF ?_
      refine jd ?_
      refine w5 0 2 3 10 2003 ?_
      refine J_condT rfl ?_
      refine js ?_
      refine u rfl rfl asg ?_
      refine jd ?_
      refine w4 0 2 3 2003 ?_
      refine J_ret ?_
      exact ⟨.inl rfl, _, rfl, .refl _, trivial⟩
  · have : k = 0 ∨ k = 1 ∨ k = 2 ∨ k = 3 ∨ k = 4 ∨ k = 5 ∨ k = 6 ∨ k = 7 ∨ k = 8 ∨ k = 9 := by omega
    rcases this with rfl | rfl | rfl | rfl | rfl | rfl | rfl | rfl | rfl | rfl
    · refine con_intro rfl rfl (by kernel_rfl) (by kernel_rfl) ?_
      refine js ?_
      refine u rfl rfl asg ?_
      refine jd ?_
      refine w2 0 2 ?_
      refine js ?_
      refine u rfl rfl (r_buildArr (len := 10) (sz := 1) (zs := [str [], str [], str [], str [], str [], str [], str [], str [], str [], str []]) [.lit (str []), .lit (str []), .lit (str []), .lit (str []), .lit (str []), .lit (str []), .lit (str []), .lit (str []), .lit (str []), .lit (str [])] rfl rfl (by kernel_rfl) (by kernel_rfl) ⟨.refl _, .refl _, .refl _, .refl _, .refl _, .refl _, .refl _, .refl _, .refl _, .refl _, trivial⟩ rfl rfl) ?_
      refine u rfl rfl (r_alloc (x := 2003) (zs := [str [], str [], str [], str [], str [], str [], str [], str [], str [], str []]) [.lit (str []), .lit (str []), .lit (str []), .lit (str []), .lit (str []), .lit (str []), .lit (str []), .lit (str []), .lit (str []), .lit (str [])] rfl rfl rfl (by kernel_rfl) ⟨.refl _, .refl _, .refl _, .refl _, .refl _, .refl _, .refl _, .refl _, .refl _, .refl _, trivial⟩) ?_
      refine u rfl rfl sA ?_
      refine jd ?_
      refine w4 0 2 3 2003 ?_
      refine J_seq ?_
      refine js ?_
      refine u rfl rfl mv ?_
      refine u rfl rfl (r_ltI rfl rfl rfl rfl) ?_
      refine u rfl rfl mv ?_
      refine u rfl rfl mv ?_
      refine u rfl rfl (r_gtI rfl rfl rfl rfl) ?_
      refine u rfl rfl pF ?_
      refine jd ?_
      refine w5 0 2 3 10 2003 ?_
      refine J_condF rfl ?_
      refine J_skip ?_
      refine js ?_
      refine u rfl rfl mv ?_
      refine u rfl rfl (r_indexArr (len := 10) (sz := 1) 0 rfl rfl (by kernel_rfl) rfl rfl (rfl) (by decide) rfl) ?_
      refine u rfl rfl ld ?_
      refine u rfl rfl asg ?_
      refine jd ?_
      refine w1 2 ?_
      refine J_ret ?_
      exact ⟨.inl rfl, _, rfl, .refl _, trivial⟩
    · refine con_intro rfl rfl (by kernel_rfl) (by kernel_rfl) ?_
      refine js ?_
      refine u rfl rfl asg ?_
      refine jd ?_
      refine w2 0 2 ?_
      refine js ?_
      refine u rfl rfl (r_buildArr (len := 10) (sz := 1) (zs := [str [], str [], str [], str [], str [], str [], str [], str [], str [], str []]) [.lit (str []), .lit (str []), .lit (str []), .lit (str []), .lit (str []), .lit (str []), .lit (str []), .lit (str []), .lit (str []), .lit (str [])] rfl rfl (by kernel_rfl) (by kernel_rfl) ⟨.refl _, .refl _, .refl _, .refl _, .refl _, .refl _, .refl _, .refl _, .refl _, .refl _, trivial⟩ rfl rfl) ?_
      refine u rfl rfl (r_alloc (x := 2003) (zs := [str [], str [], str [], str [], str [], str [], str [], str [], str [], str []]) [.lit (str []), .lit (str []), .lit (str []), .lit (str []), .lit (str []), .lit (str []), .lit (str []), .lit (str []), .lit (str []), .lit (str [])] rfl rfl rfl (by kernel_rfl) ⟨.refl _, .refl _, .refl _, .refl _, .refl _, .refl _, .refl _, .refl _, .refl _, .refl _, trivial⟩) ?_
      refine u rfl rfl sA ?_
      refine jd ?_
      refine w4 0 2 3 2003 ?_
      refine J_seq ?_
      refine js ?_
      refine u rfl rfl mv ?_
      refine u rfl rfl (r_ltI rfl rfl rfl rfl) ?_
      refine u rfl rfl mv ?_
      refine u rfl rfl mv ?_
      refine u rfl rfl (r_gtI rfl rfl rfl rfl) ?_
      refine u rfl rfl pF ?_
      refine jd ?_
      refine w5 0 2 3 10 2003 ?_
      refine J_condF rfl ?_
      refine J_skip ?_
      refine js ?_
      refine u rfl rfl mv ?_
      refine u rfl rfl (r_indexArr (len := 10) (sz := 1) 1 rfl rfl (by kernel_rfl) rfl rfl (rfl) (by decide) rfl) ?_
      refine u rfl rfl ld ?_
      refine u rfl rfl asg ?_
      refine jd ?_
      refine w1 2 ?_
      refine J_ret ?_
      exact ⟨.inl rfl, _, rfl, .refl _, trivial⟩
    · refine con_intro rfl rfl (by kernel_rfl) (by kernel_rfl) ?_
      refine js ?_
      refine u rfl rfl asg ?_
      refine jd ?_
      refine w2 0 2 ?_
      refine js ?_
      refine u rfl rfl (r_buildArr (len := 10) (sz := 1) (zs := [str [], str [], str [], str [], str [], str [], str [], str [], str [], str []]) [.lit (str []), .lit (str []), .lit (str []), .lit (str []), .lit (str []), .lit (str []), .lit (str []), .lit (str []), .lit (str []), .lit (str [])] rfl rfl (by kernel_rfl) (by kernel_rfl) ⟨.refl _, .refl _, .refl _, .refl _, .refl _, .refl _, .refl _, .refl _, .refl _, .refl _, trivial⟩ rfl rfl) ?_
      refine u rfl rfl (r_alloc (x := 2003) (zs := [str [], str [], str [], str [], str [], str [], str [], str [], str [], str []]) [.lit (str []), .lit (str []), .lit (str []), .lit (str []), .lit (str []), .lit (str []), .lit (str []), .lit (str []), .lit (str []), .lit (str [])] rfl rfl rfl (by kernel_rfl) ⟨.refl _, .refl _, .refl _, .refl _, .refl _, .refl _, .refl _, .refl _, .refl _, .refl _, trivial⟩) ?_
      refine u rfl rfl sA ?_
      refine jd ?_
      refine w4 0 2 3 2003 ?_
      refine J_seq ?_
      refine js ?_
      refine u rfl rfl mv ?_
      refine u rfl rfl (r_ltI rfl rfl rfl rfl) ?_
      refine u rfl rfl mv ?_
      refine u rfl rfl mv ?_
      refine u rfl rfl (r_gtI rfl rfl rfl rfl) ?_
      refine u rfl rfl pF ?_
      refine jd ?_
      refine w5 0 2 3 10 2003 ?_
      refine J_condF rfl ?_
      refine J_skip ?_
      refine js ?_
      refine u rfl rfl mv ?_
      refine u rfl rfl (r_indexArr (len := 10) (sz := 1) 2 rfl rfl (by kernel_rfl) rfl rfl (rfl) (by decide) rfl) ?_
      refine u rfl rfl ld ?_
      refine u rfl rfl asg ?_
      refine jd ?_
      refine w1 2 ?_
      refine J_ret ?_
      exact ⟨.inl rfl, _, rfl, .refl _, trivial⟩
    · refine con_intro rfl rfl (by kernel_rfl) (by kernel_rfl) ?_
      refine js ?_
      refine u rfl rfl asg ?_
      refine jd ?_
      refine w2 0 2 ?_
      refine js ?_
      refine u rfl rfl (r_buildArr (len := 10) (sz := 1) (zs := [str [], str [], str [], str [], str [], str [], str [], str [], str [], str []]) [.lit (str []), .lit (str []), .lit (str []), .lit (str []), .lit (str []), .lit (str []), .lit (str []), .lit (str []), .lit (str []), .lit (str [])] rfl rfl (by kernel_rfl) (by kernel_rfl) ⟨.refl _, .refl _, .refl _, .refl _, .refl _, .refl _, .refl _, .refl _, .refl _, .refl _, trivial⟩ rfl rfl) ?_
      refine u rfl rfl (r_alloc (x := 2003) (zs := [str [], str [], str [], str [], str [], str [], str [], str [], str [], str []]) [.lit (str []), .lit (str []), .lit (str []), .lit (str []), .lit (str []), .lit (str []), .lit (str []), .lit (str []), .lit (str []), .lit (str [])] rfl rfl rfl (by kernel_rfl) ⟨.refl _, .refl _, .refl _, .refl _, .refl _, .refl _, .refl _, .refl _, .refl _, .refl _, trivial⟩) ?_
      refine u rfl rfl sA ?_
      refine jd ?_
      refine w4 0 2 3 2003 ?_
      refine J_seq ?_
      refine js ?_
      refine u rfl rfl mv ?_
      refine u rfl rfl (r_ltI rfl rfl rfl rfl) ?_
      refine u rfl rfl mv ?_
      refine u rfl rfl mv ?_
      refine u rfl rfl (r_gtI rfl rfl rfl rfl) ?_
      refine u rfl rfl pF ?_
      refine jd ?_
      refine w5 0 2 3 10 2003 ?_
      refine J_condF rfl ?_
      refine J_skip ?_
      refine js ?_
      refine u rfl rfl mv ?_
      refine u rfl rfl (r_indexArr (len := 10) (sz := 1) 3 rfl rfl (by kernel_rfl) rfl rfl (rfl) (by decide) rfl) ?_
      refine u rfl rfl ld ?_
      refine u rfl rfl asg ?_
      refine jd ?_
      refine w1 2 ?_
      refine J_ret ?_
      exact ⟨.inl rfl, _, rfl, .refl _, trivial⟩
    · refine con_intro rfl rfl (by kernel_rfl) (by kernel_rfl) ?_
      refine js ?_
      refine u rfl rfl asg ?_
      refine jd ?_
      refine w2 0 2 ?_
      refine js ?_
      refine u rfl rfl (r_buildArr (len := 10) (sz := 1) (zs := [str [], str [], str [], str [], str [], str [], str [], str [], str [], str []]) [.lit (str []), .lit (str []), .lit (str []), .lit (str []), .lit (str []), .lit (str []), .lit (str []), .lit (str []), .lit (str []), .lit (str [])] rfl rfl (by kernel_rfl) (by kernel_rfl) ⟨.refl _, .refl _, .refl _, .refl _, .refl _, .refl _, .refl _, .refl _, .refl _, .refl _, trivial⟩ rfl rfl) ?_
      refine u rfl rfl (r_alloc (x := 2003) (zs := [str [], str [], str [], str [], str [], str [], str [], str [], str [], str []]) [.lit (str []), .lit (str []), .lit (str []), .lit (str []), .lit (str []), .lit (str []), .lit (str []), .lit (str []), .lit (str []), .lit (str [])] rfl rfl rfl (by kernel_rfl) ⟨.refl _, .refl _, .refl _, .refl _, .refl _, .refl _, .refl _, .refl _, .refl _, .refl _, trivial⟩) ?_
      refine u rfl rfl sA ?_
      refine jd ?_
      refine w4 0 2 3 2003 ?_
      refine J_seq ?_
      refine js ?_
      refine u rfl rfl mv ?_
      refine u rfl rfl (r_ltI rfl rfl rfl rfl) ?_
      refine u rfl rfl mv ?_
      refine u rfl rfl mv ?_
      refine u rfl rfl (r_gtI rfl rfl rfl rfl) ?_
      refine u rfl rfl pF ?_
      refine jd ?_
      refine w5 0 2 3 10 2003 ?_
      refine J_condF rfl ?_
      refine J_skip ?_
      refine js ?_
      refine u rfl rfl mv ?_
      refine u rfl rfl (r_indexArr (len := 10) (sz := 1) 4 rfl rfl (by kernel_rfl) rfl rfl (rfl) (by decide) rfl) ?_
      refine u rfl rfl ld ?_
      refine u rfl rfl asg ?_
      refine jd ?_
      refine w1 2 ?_
      refine J_ret ?_
      exact ⟨.inl rfl, _, rfl, .refl _, trivial⟩
    · refine con_intro rfl rfl (by kernel_rfl) (by kernel_rfl) ?_
      refine js ?_
      refine u rfl rfl asg ?_
      refine jd ?_
      refine w2 0 2 ?_
      refine js ?_
      refine u rfl rfl (r_buildArr (len := 10) (sz := 1) (zs := [str [], str [], str [], str [], str [], str [], str [], str [], str [], str []]) [.lit (str []), .lit (str []), .lit (str []), .lit (str []), .lit (str []), .lit (str []), .lit (str []), .lit (str []), .lit (str []), .lit (str [])] rfl rfl (by kernel_rfl) (by kernel_rfl) ⟨.refl _, .refl _, .refl _, .refl _, .refl _, .refl _, .refl _, .refl _, .refl _, .refl _, trivial⟩ rfl rfl) ?_
      refine u rfl rfl (r_alloc (x := 2003) (zs := [str [], str [], str [], str [], str [], str [], str [], str [], str [], str []]) [.lit (str []), .lit (str []), .lit (str []), .lit (str []), .lit (str []), .lit (str []), .lit (str []), .lit (str []), .lit (str []), .lit (str [])] rfl rfl rfl (by kernel_rfl) ⟨.refl _, .refl _, .refl _, .refl _, .refl _, .refl _, .refl _, .refl _, .refl _, .refl _, trivial⟩) ?_
      refine u rfl rfl sA ?_
      refine jd ?_
      refine w4 0 2 3 2003 ?_
      refine J_seq ?_
      refine js ?_
      refine u rfl rfl mv ?_
      refine u rfl rfl (r_ltI rfl rfl rfl rfl) ?_
      refine u rfl rfl mv ?_
      refine u rfl rfl mv ?_
      refine u rfl rfl (r_gtI rfl rfl rfl rfl) ?_
      refine u rfl rfl pF ?_
      refine jd ?_
      refine w5 0 2 3 10 2003 ?_
      refine J_condF rfl ?_
      refine J_skip ?_
      refine js ?_
      refine u rfl rfl mv ?_
      refine u rfl rfl (r_indexArr (len := 10) (sz := 1) 5 rfl rfl (by kernel_rfl) rfl rfl (rfl) (by decide) rfl) ?_
      refine u rfl rfl ld ?_
      refine u rfl rfl asg ?_
      refine jd ?_
      refine w1 2 ?_
      refine J_ret ?_
      exact ⟨.inl rfl, _, rfl, .refl _, trivial⟩
    · refine con_intro rfl rfl (by kernel_rfl) (by kernel_rfl) ?_
      refine js ?_
      refine u rfl rfl asg ?_
      refine jd ?_
      refine w2 0 2 ?_
      refine js ?_
      refine u rfl rfl (r_buildArr (len := 10) (sz := 1) (zs := [str [], str [], str [], str [], str [], str [], str [], str [], str [], str []]) [.lit (str []), .lit (str []), .lit (str []), .lit (str []), .lit (str []), .lit (str []), .lit (str []), .lit (str []), .lit (str []), .lit (str [])] rfl rfl (by kernel_rfl) (by kernel_rfl) ⟨.refl _, .refl _, .refl _, .refl _, .refl _, .refl _, .refl _, .refl _, .refl _, .refl _, trivial⟩ rfl rfl) ?_
      refine u rfl rfl (r_alloc (x := 2003) (zs := [str [], str [], str [], str [], str [], str [], str [], str [], str [], str []]) [.lit (str []), .lit (str []), .lit (str []), .lit (str []), .lit (str []), .lit (str []), .lit (str []), .lit (str []), .lit (str []), .lit (str [])] rfl rfl rfl (by kernel_rfl) ⟨.refl _, .refl _, .refl _, .refl _, .refl _, .refl _, .refl _, .refl _, .refl _, .refl _, trivial⟩) ?_
      refine u rfl rfl sA ?_
      refine jd ?_
      refine w4 0 2 3 2003 ?_
      refine J_seq ?_
      refine js ?_
      refine u rfl rfl mv ?_
      refine u rfl rfl (r_ltI rfl rfl rfl rfl) ?_
      refine u rfl rfl mv ?_
      refine u rfl rfl mv ?_
      refine u rfl rfl (r_gtI rfl rfl rfl rfl) ?_
      refine u rfl rfl pF ?_
      refine jd ?_
      refine w5 0 2 3 10 2003 ?_
      refine J_condF rfl ?_
      refine J_skip ?_
      refine js ?_
      refine u rfl rfl mv ?_
      refine u rfl rfl (r_indexArr (len := 10) (sz := 1) 6 rfl rfl (by kernel_rfl) rfl rfl (rfl) (by decide) rfl) ?_
      refine u rfl rfl ld ?_
      refine u rfl rfl asg ?_
      refine jd ?_
      refine w1 2 ?_
      refine J_ret ?_
      exact ⟨.inl rfl, _, rfl, .refl _, trivial⟩
    · refine con_intro rfl rfl (by kernel_rfl) (by kernel_rfl) ?_
      refine js ?_
      refine u rfl rfl asg ?_
      refine jd ?_
      refine w2 0 2 ?_
      refine js ?_
      refine u rfl rfl (r_buildArr (len := 10) (sz := 1) (zs := [str [], str [], str [], str [], str [], str [], str [], str [], str [], str []]) [.lit (str []), .lit (str []), .lit (str []), .lit (str []), .lit (str []), .lit (str []), .lit (str []), .lit (str []), .lit (str []), .lit (str [])] rfl rfl (by kernel_rfl) (by kernel_rfl) ⟨.refl _, .refl _, .refl _, .refl _, .refl _, .refl _, .refl _, .refl _, .refl _, .refl _, trivial⟩ rfl rfl) ?_
      refine u rfl rfl (r_alloc (x := 2003) (zs := [str [], str [], str [], str [], str [], str [], str [], str [], str [], str []]) [.lit (str []), .lit (str []), .lit (str []), .lit (str []), .lit (str []), .lit (str []), .lit (str []), .lit (str []), .lit (str []), .lit (str [])] rfl rfl rfl (by kernel_rfl) ⟨.refl _, .refl _, .refl _, .refl _, .refl _, .refl _, .refl _, .refl _, .refl _, .refl _, trivial⟩) ?_
      refine u rfl rfl sA ?_
      refine jd ?_
      refine w4 0 2 3 2003 ?_
      refine J_seq ?_
      refine js ?_
      refine u rfl rfl mv ?_
      refine u rfl rfl (r_ltI rfl rfl rfl rfl) ?_
      refine u rfl rfl mv ?_
      refine u rfl rfl mv ?_
      refine u rfl rfl (r_gtI rfl rfl rfl rfl) ?_
      refine u rfl rfl pF ?_
      refine jd ?_
      refine w5 0 2 3 10 2003 ?_
      refine J_condF rfl ?_
      refine J_skip ?_
      refine js ?_
      refine u rfl rfl mv ?_
      refine u rfl rfl (r_indexArr (len := 10) (sz := 1) 7 rfl rfl (by kernel_rfl) rfl rfl (rfl) (by decide) rfl) ?_
      refine u rfl rfl ld ?_
      refine u rfl rfl asg ?_
      refine jd ?_
      refine w1 2 ?_
      refine J_ret ?_
      exact ⟨.inl rfl, _, rfl, .refl _, trivial⟩
    · refine con_intro rfl rfl (by kernel_rfl) (by kernel_rfl) ?_
      refine js ?_
      refine u rfl rfl asg ?_
      refine jd ?_
      refine w2 0 2 ?_
      refine js ?_
      refine u rfl rfl (r_buildArr (len := 10) (sz := 1) (zs := [str [], str [], str [], str [], str [], str [], str [], str [], str [], str []]) [.lit (str []), .lit (str []), .lit (str []), .lit (str []), .lit (str []), .lit (str []), .lit (str []), .lit (str []), .lit (str []), .lit (str [])] rfl rfl (by kernel_rfl) (by kernel_rfl) ⟨.refl _, .refl _, .refl _, .refl _, .refl _, .refl _, .refl _, .refl _, .refl _, .refl _, trivial⟩ rfl rfl) ?_
      refine u rfl rfl (r_alloc (x := 2003) (zs := [str [], str [], str [], str [], str [], str [], str [], str [], str [], str []]) [.lit (str []), .lit (str []), .lit (str []), .lit (str []), .lit (str []), .lit (str []), .lit (str []), .lit (str []), .lit (str []), .lit (str [])] rfl rfl rfl (by kernel_rfl) ⟨.refl _, .refl _, .refl _, .refl _, .refl _, .refl _, .refl _, .refl _, .refl _, .refl _, trivial⟩) ?_
      refine u rfl rfl sA ?_
      refine jd ?_
      refine w4 0 2 3 2003 ?_
      refine J_seq ?_
      refine js ?_
      refine u rfl rfl mv ?_
      refine u rfl rfl (r_ltI rfl rfl rfl rfl) ?_
      refine u rfl rfl mv ?_
      refine u rfl rfl mv ?_
      refine u rfl rfl (r_gtI rfl rfl rfl rfl) ?_
      refine u rfl rfl pF ?_
      refine jd ?_
      refine w5 0 2 3 10 2003 ?_
      refine J_condF rfl ?_
      refine J_skip ?_
      refine js ?_
      refine u rfl rfl mv ?_
      refine u rfl rfl (r_indexArr (len := 10) (sz := 1) 8 rfl rfl (by kernel_rfl) rfl rfl (rfl) (by decide) rfl) ?_
      refine u rfl rfl ld ?_
      refine u rfl rfl asg ?_
      refine jd ?_
      refine w1 2 ?_
      refine J_ret ?_
      exact ⟨.inl rfl, _, rfl, .refl _, trivial⟩
    · refine con_intro rfl rfl (by kernel_rfl) (by kernel_rfl) ?_
      refine js ?_
      refine u rfl rfl asg ?_
      refine jd ?_
      refine w2 0 2 ?_
      refine js ?_
      refine u rfl rfl (r_buildArr (len := 10) (sz := 1) (zs := [str [], str [], str [], str [], str [], str [], str [], str [], str [], str []]) [.lit (str []), .lit (str []), .lit (str []), .lit (str []), .lit (str []), .lit (str []), .lit (str []), .lit (str []), .lit (str []), .lit (str [])] rfl rfl (by kernel_rfl) (by kernel_rfl) ⟨.refl _, .refl _, .refl _, .refl _, .refl _, .refl _, .refl _, .refl _, .refl _, .refl _, trivial⟩ rfl rfl) ?_
      refine u rfl rfl (r_alloc (x := 2003) (zs := [str [], str [], str [], str [], str [], str [], str [], str [], str [], str []]) [.lit (str []), .lit (str []), .lit (str []), .lit (str []), .lit (str []), .lit (str []), .lit (str []), .lit (str []), .lit (str []), .lit (str [])] rfl rfl rfl (by kernel_rfl) ⟨.refl _, .refl _, .refl _, .refl _, .refl _, .refl _, .refl _, .refl _, .refl _, .refl _, trivial⟩) ?_
      refine u rfl rfl sA ?_
      refine jd ?_
      refine w4 0 2 3 2003 ?_
      refine J_seq ?_
      refine js ?_
      refine u rfl rfl mv ?_
      refine u rfl rfl (r_ltI rfl rfl rfl rfl) ?_
      refine u rfl rfl mv ?_
      refine u rfl rfl mv ?_
      refine u rfl rfl (r_gtI rfl rfl rfl rfl) ?_
      refine u rfl rfl pF ?_
      refine jd ?_
      refine w5 0 2 3 10 2003 ?_
      refine J_condF rfl ?_
      refine J_skip ?_
      refine js ?_
      refine u rfl rfl mv ?_
      refine u rfl rfl (r_indexArr (len := 10) (sz := 1) 9 rfl rfl (by kernel_rfl) rfl rfl (rfl) (by decide) rfl) ?_
      refine u rfl rfl ld ?_
      refine u rfl rfl asg ?_
      refine jd ?_
      refine w1 2 ?_
      refine J_ret ?_
      exact ⟨.inl rfl, _, rfl, .refl _, trivial⟩

theorem kXtype (t : Ty) (hs : t.size ≤ 10000) : Con Tryz.prog 9 [.agg (tyE t)] [] (.c (.lit (str (tyT t)))) [] := by
  have hc := kRight t.size t (by omega) (Nat.le_refl _)
  cases hr : mRight t with
  | false =>
    rw [hr] at hc
    rw [show tyT t = [] by unfold tyT; rw [hr]; rfl]
    refine con_intro rfl rfl (by kernel_rfl) (by kernel_rfl) ?_
    refine js ?_
    refine u rfl rfl (r_boxA (x := 2001) rfl rfl rfl rfl) ?_
    refine u rfl rfl asg ?_
    refine jd ?_
    refine w3 1 2 2001 ?_
    refine J_seq ?_
    refine js ?_
    refine u rfl rfl (lA 3) ?_
    refine u rfl rfl (cl (hc)) ?_
    refine u rfl rfl nt ?_
    refine jd ?_
    refine w4 1 2 5 2001 ?_
    refine J_condT rfl ?_
    refine js ?_
    refine u rfl rfl asg ?_
    refine jd ?_
    refine w3 1 2 2001 ?_
    refine J_ret ?_
    exact ⟨.inl rfl, _, rfl, .refl _, trivial⟩
  | true =>
    rw [hr] at hc
    have h1 := kRCanon t hr (by omega)
    have hcr := canon_right hr (by omega)
    have hcs := canon_size t
    have h2 := kRefText (canon t).size (canon t) (Nat.le_refl _) (by omega) (right_ty _ _ (Nat.le_refl _) hcr)
    rw [tyT_right hr (by omega)]
    refine con_intro rfl rfl (by kernel_rfl) (by kernel_rfl) ?_
    refine js ?_
    refine u rfl rfl (r_boxA (x := 2001) rfl rfl rfl rfl) ?_
    refine u rfl rfl asg ?_
    refine jd ?_
    refine w3 1 2 2001 ?_
    refine J_seq ?_
    refine js ?_
    refine u rfl rfl (lA 3) ?_
    refine u rfl rfl (cl (hc)) ?_
    refine u rfl rfl nt ?_
    refine jd ?_
    refine w4 1 2 5 2001 ?_
    refine J_condF rfl ?_
    refine J_skip ?_
    refine js ?_
    refine u rfl rfl (lA 3) ?_
    refine u rfl rfl (cl (h1)) ?_
    refine u rfl rfl (cl (h2)) ?_
    refine u rfl rfl asg ?_
    refine jd ?_
    refine w1 2 ?_
    refine J_ret ?_
    exact ⟨.inl rfl, _, rfl, .refl _, trivial⟩

theorem kXvlist (m : Nat) (hmm : m ≤ 1000000) (t : Tl) (hL0 : t.isL = true) (hok : t.ok) (hm : t.va.size ≤ m + 1) (IH : ∀ a : Tl, a.va.size ≤ m → a.ok → Con Tryz.prog 31 [.agg (vaX a.va)] [] (.c (.lit (str (a.tx false)))) []) : Con Tryz.prog 31 [.agg (vaX t.va)] [] (.c (.lit (str (91 :: (Tl.rt 0 t ++ [93]))))) [] := by
  have hk : t.va.kind = 6 ∨ t.va.kind = 7 := by
    rcases Tl.isL_cases hL0 with rfl | ⟨a, r, rfl⟩
    · exact .inl rfl
    · exact .inr rfl
  refine con_intro rfl rfl (by kernel_rfl) (by kernel_rfl) ?_
  refine js ?_
  refine u rfl rfl (r_boxA (x := 2001) rfl rfl rfl rfl) ?_
  refine u rfl rfl asg ?_
  refine jd ?_
  refine w3 1 2 2001 ?_
  refine J_seq ?_
  refine js ?_
  refine u rfl rfl (fA 0 1) ?_
  refine u rfl rfl ld ?_
  refine jd ?_
  refine w4 1 2 5 2001 ?_
  refine J_block ?_
  refine js ?_
  refine u rfl rfl ((r_eqI rfl rfl rfl rfl).cast (cast_b (b' := false) (by exact decide_eq_false (by omega)))) ?_
  refine u rfl rfl asg ?_
  refine jd ?_
  refine w5 1 2 5 6 2001 ?_
  refine J_condF rfl ?_
  refine js ?_
  refine u rfl rfl ((r_eqI rfl rfl rfl rfl).cast (cast_b (b' := false) (by exact decide_eq_false (by omega)))) ?_
  refine u rfl rfl asg ?_
  refine jd ?_
  refine w5 1 2 5 11 2001 ?_
  refine J_condF rfl ?_
  refine js ?_
  refine u rfl rfl ((r_eqI rfl rfl rfl rfl).cast (cast_b (b' := false) (by exact decide_eq_false (by omega)))) ?_
  refine u rfl rfl asg ?_
  refine jd ?_
  refine w5 1 2 5 16 2001 ?_
  refine J_condF rfl ?_
  refine js ?_
  refine u rfl rfl ((r_eqI rfl rfl rfl rfl).cast (cast_b (b' := false) (by exact decide_eq_false (by omega)))) ?_
  refine u rfl rfl asg ?_
  refine jd ?_
  refine w5 1 2 5 21 2001 ?_
  refine J_condF rfl ?_
  refine js ?_
  refine u rfl rfl ((r_eqI rfl rfl rfl rfl).cast (cast_b (b' := false) (by exact decide_eq_false (by omega)))) ?_
  refine u rfl rfl asg ?_
  refine jd ?_
  refine w5 1 2 5 23 2001 ?_
  refine J_condF rfl ?_
  refine js ?_
  refine u rfl rfl ((r_eqI rfl rfl rfl rfl).cast (cast_b (b' := false) (by exact decide_eq_false (by omega)))) ?_
  refine u rfl rfl asg ?_
  refine jd ?_
  refine w4 1 2 39 2001 ?_
  refine J_condF rfl ?_
  refine J_skip ?_
  refine js ?_
  refine u rfl rfl asg ?_
  refine jd ?_
  refine w4 1 2 3 2001 ?_
  refine J_seq ?_
  refine J_block ?_
  refine J_loopF (α := { p : Nat × Tl × List UInt8 // p.2.1.isL = true ∧ p.2.1.ok ∧ p.1 + p.2.1.va.size ≤ m + 1 ∧ ((p.1 = 0 ∧ p.2.2 = [91]) ∨ (0 < p.1 ∧ 1 < p.2.2.length)) ∧ p.2.2.length + 604 * p.2.1.va.size ≤ 604 * (m + 2) ∧ 91 :: (Tl.rt 0 t ++ [93]) = p.2.2 ++ (Tl.rt p.1 p.2.1 ++ [93]) }) (fun p => [(3, .c (.lit (str p.1.2.2))), (2001, .var 30 ((vaX p.1.2.1.va).map .d))]) [(1, _), (2, _)] (fun p => p.1.2.1.va.size) ⟨(0, t, [91]), hL0, hok, by simp only; omega, .inl ⟨rfl, rfl⟩, by simp only [List.length_cons, List.length_nil]; omega, rfl⟩ ⟨rfl, rfl, rfl, rfl, trivial⟩ ?_
  rintro ⟨⟨i, z, s⟩, hL, hok', him, hi0, hlen, hE⟩
  dsimp only at hL hok' him hi0 hlen hE ⊢
  rcases Tl.isL_cases hL with rfl | ⟨a, r, rfl⟩
  · rw [Tl.rt_nil, List.nil_append] at hE
    refine J_seq ?_
    refine js ?_
    refine u rfl rfl (fA 0 1) ?_
    refine u rfl rfl ld ?_
    refine u rfl rfl (r_eqI rfl rfl rfl rfl) ?_
    refine jd ?_
    refine w7 1 2 3 41 42 43 2001 ?_
    refine J_condF rfl ?_
    refine J_exit ?_
    refine js ?_
    refine u rfl rfl mv ?_
    refine u rfl rfl (r_catS rfl rfl rfl rfl (by first | omega | (simp only [List.length_append, List.length_cons, List.length_nil]; omega))) ?_
    refine u rfl rfl asg ?_
    refine jd ?_
    refine w1 2 ?_
    refine J_ret ?_
    refine ⟨.inl rfl, _, rfl, .ofS ?_, trivial⟩
    rw [hE]
  · rw [Tl.rt_cons] at hE
    have sz := (show (Tl.cons a r).va.size = 1 + (a.va.size + (r.va.size + 0)) by simp only [Tl.va, Va.size, Va.sizes])
    have la := Tl.tx_len a false hok'.1
    have ra := r.va.size_pos
    have lap : 0 < (a.tx false).length := by obtain ⟨c, l, e, _⟩ := a.tx_head; rw [e]; exact Nat.succ_pos _
    have ca := IH a (by omega) hok'.1
    refine J_seq ?_
    refine js ?_
    refine u rfl rfl (fA 0 1) ?_
    refine u rfl rfl ld ?_
    refine u rfl rfl (r_eqI rfl rfl rfl rfl) ?_
    refine jd ?_
    refine w7 1 2 3 41 42 43 2001 ?_
    refine J_condT rfl ?_
    refine J_skip ?_
    refine J_block ?_
    refine J_seq ?_
    refine js ?_
    refine u rfl rfl mv ?_
    refine u rfl rfl (r_lenS rfl rfl (by kernel_rfl) rfl) ?_
    refine JR.runB rfl rfl (r_gtI rfl rfl rfl rfl) ?_ ?_
    · intro h46
      replace h46 := of_decide_eq_true h46
      have hip : 0 < i := by rcases hi0 with h | h <;> first | exact h.1 | (exfalso; rw [h.2] at h46; simp at h46)
      refine jd ?_
      refine w10 1 2 3 41 42 43 44 45 46 2001 ?_
      refine J_condT rfl ?_
      refine JR.start ?_
      refine u rfl rfl mv ?_
      refine u rfl rfl (r_catS rfl rfl rfl rfl (by first | omega | (simp only [List.length_append, List.length_cons, List.length_nil]; omega))) ?_
      refine u rfl rfl asg ?_
      refine jd ?_
      refine w12 1 2 3 41 42 43 44 45 46 47 48 2001 ?_
      refine js ?_
      refine u rfl rfl mv ?_
      refine u rfl rfl (fA 8 1) ?_
      refine u rfl rfl ld ?_
      refine u rfl rfl (r_indexAddr (e := 30) (sz := 9) rfl rfl (by kernel_rfl) rfl rfl (Int.le_refl 0) (vasD_at (l := [a.va, r.va]) (i := 0) rfl)) ?_
      refine u rfl rfl (eA 9) ?_
      refine u rfl rfl (cl (ca)) ?_
      refine u rfl rfl (r_catS rfl rfl rfl rfl (by first | omega | (simp only [List.length_append, List.length_cons, List.length_nil]; omega))) ?_
      refine u rfl rfl asg ?_
      refine jd ?_
      refine J_weak [(1, _), (2, _), (3, _), (41, _), (42, _), (43, _), (44, _), (45, _), (46, _), (47, _), (48, _), (49, _), (50, _), (51, _), (52, _), (53, _), (54, _), (55, _), (2001, _)] ⟨rfl, rfl, rfl, rfl, rfl, rfl, rfl, rfl, rfl, rfl, rfl, rfl, rfl, rfl, rfl, rfl, rfl, rfl, rfl, trivial⟩ ?_
      refine JR.start ?_
      refine u rfl rfl (fA 8 1) ?_
      refine u rfl rfl ld ?_
      refine u rfl rfl (r_indexAddr (e := 30) (sz := 9) rfl rfl (by kernel_rfl) rfl rfl (by decide) (vasD_at (l := [a.va, r.va]) (i := 1) rfl)) ?_
      refine u rfl rfl (eA 9) ?_
      refine u rfl rfl sA ?_
      refine jd ?_
      refine ⟨⟨(i + 1, r, _), hok'.2.2, hok'.2.1, by simp only; omega, .inr ⟨Nat.succ_pos _, by simp only; simp only [List.length_append, List.length_cons, List.length_nil]; omega⟩, by simp only; simp only [List.length_append, List.length_cons, List.length_nil]; omega, ?_⟩, by simp only; omega, rfl, rfl, rfl, rfl, trivial⟩
      rw [hE]
      simp only [show ¬ i = 0 by omega, if_false]
      simp
    · intro h46
      replace h46 := of_decide_eq_false h46
      have hi00 : s = [91] := by rcases hi0 with h | h <;> first | exact h.2 | (exfalso; omega)
      have hsl : s.length = 1 := by rw [hi00]; rfl
      refine jd ?_
      refine w10 1 2 3 41 42 43 44 45 46 2001 ?_
      refine J_condF rfl ?_
      refine J_skip ?_
      refine js ?_
      refine u rfl rfl mv ?_
      refine u rfl rfl (fA 8 1) ?_
      refine u rfl rfl ld ?_
      refine u rfl rfl (r_indexAddr (e := 30) (sz := 9) rfl rfl (by kernel_rfl) rfl rfl (Int.le_refl 0) (vasD_at (l := [a.va, r.va]) (i := 0) rfl)) ?_
      refine u rfl rfl (eA 9) ?_
      refine u rfl rfl (cl (ca)) ?_
      refine u rfl rfl (r_catS rfl rfl rfl rfl (by first | omega | (simp only [List.length_append, List.length_cons, List.length_nil]; omega))) ?_
      refine u rfl rfl asg ?_
      refine jd ?_
      refine w17 1 2 3 41 42 43 44 45 46 49 50 51 52 53 54 55 2001 ?_
      refine JR.start ?_
      refine u rfl rfl (fA 8 1) ?_
      refine u rfl rfl ld ?_
      refine u rfl rfl (r_indexAddr (e := 30) (sz := 9) rfl rfl (by kernel_rfl) rfl rfl (by decide) (vasD_at (l := [a.va, r.va]) (i := 1) rfl)) ?_
      refine u rfl rfl (eA 9) ?_
      refine u rfl rfl sA ?_
      refine jd ?_
      refine ⟨⟨(i + 1, r, _), hok'.2.2, hok'.2.1, by simp only; omega, .inr ⟨Nat.succ_pos _, by simp only; simp only [List.length_append, List.length_cons, List.length_nil]; omega⟩, by simp only; simp only [List.length_append, List.length_cons, List.length_nil]; omega, ?_⟩, by simp only; omega, rfl, rfl, rfl, rfl, trivial⟩
      rw [hE]
      simp only [show i = 0 by omega, if_true]
      simp

theorem kXval : ∀ (m : Nat) (t : Tl), m ≤ 1000000 → t.va.size ≤ m → t.ok → Con Tryz.prog 31 [.agg (vaX t.va)] [] (.c (.lit (str (t.tx false)))) []
  | 0, t, _, h, _ => absurd t.va.size_pos (by omega)
  | m + 1, t, hmm, hm, hok => by
    have hlist : t.isL = true → Con Tryz.prog 31 [.agg (vaX t.va)] [] (.c (.lit (str (t.tx false)))) [] := fun hL => by
      have := kXvlist m (by omega) t hL hok hm (fun a h1 h2 => kXval m a (by omega) h1 h2)
      rw [← Tl.tx_list hL] at this
      exact this
    cases t with
    | nil => exact hlist rfl
    | cons a b => exact hlist rfl
    | int n =>
      clear hlist
      refine con_intro rfl rfl (by kernel_rfl) (by kernel_rfl) ?_
      refine js ?_
      refine u rfl rfl (r_boxA (x := 2001) rfl rfl rfl rfl) ?_
      refine u rfl rfl asg ?_
      refine jd ?_
      refine w3 1 2 2001 ?_
      refine J_seq ?_
      refine js ?_
      refine u rfl rfl (fA 0 1) ?_
      refine u rfl rfl ld ?_
      refine jd ?_
      refine w4 1 2 5 2001 ?_
      refine J_block ?_
      refine js ?_
      refine u rfl rfl (r_eqI rfl rfl rfl rfl) ?_
      refine u rfl rfl asg ?_
      refine jd ?_
      refine w5 1 2 5 6 2001 ?_
      refine J_condT rfl ?_
      refine js ?_
      refine u rfl rfl (fA 1 1) ?_
      refine u rfl rfl ld ?_
      refine u rfl rfl (cl (kRNum n hok)) ?_
      refine u rfl rfl asg ?_
      refine jd ?_
      refine w3 1 2 2001 ?_
      refine J_ret ?_
      exact ⟨.inl rfl, _, rfl, .of rfl, trivial⟩
    | bool b =>
      clear hlist
      cases b
      · refine con_intro rfl rfl (by kernel_rfl) (by kernel_rfl) ?_
        refine js ?_
        refine u rfl rfl (r_boxA (x := 2001) rfl rfl rfl rfl) ?_
        refine u rfl rfl asg ?_
        refine jd ?_
        refine w3 1 2 2001 ?_
        refine J_seq ?_
        refine js ?_
        refine u rfl rfl (fA 0 1) ?_
        refine u rfl rfl ld ?_
        refine jd ?_
        refine w4 1 2 5 2001 ?_
        refine J_block ?_
        refine js ?_
        refine u rfl rfl (r_eqI rfl rfl rfl rfl) ?_
        refine u rfl rfl asg ?_
        refine jd ?_
        refine w5 1 2 5 6 2001 ?_
        refine J_condF rfl ?_
        refine js ?_
        refine u rfl rfl (r_eqI rfl rfl rfl rfl) ?_
        refine u rfl rfl asg ?_
        refine jd ?_
        refine w5 1 2 5 11 2001 ?_
        refine J_condT rfl ?_
        refine J_seq ?_
        refine js ?_
        refine u rfl rfl (fA 1 1) ?_
        refine u rfl rfl ld ?_
        refine u rfl rfl (r_eqI rfl rfl rfl rfl) ?_
        refine jd ?_
        refine w4 1 2 15 2001 ?_
        refine J_condF rfl ?_
        refine J_skip ?_
        refine js ?_
        refine u rfl rfl asg ?_
        refine jd ?_
        refine w3 1 2 2001 ?_
        refine J_ret ?_
        exact ⟨.inl rfl, _, rfl, .of rfl, trivial⟩
      · refine con_intro rfl rfl (by kernel_rfl) (by kernel_rfl) ?_
        refine js ?_
        refine u rfl rfl (r_boxA (x := 2001) rfl rfl rfl rfl) ?_
        refine u rfl rfl asg ?_
        refine jd ?_
        refine w3 1 2 2001 ?_
        refine J_seq ?_
        refine js ?_
        refine u rfl rfl (fA 0 1) ?_
        refine u rfl rfl ld ?_
        refine jd ?_
        refine w4 1 2 5 2001 ?_
        refine J_block ?_
        refine js ?_
        refine u rfl rfl (r_eqI rfl rfl rfl rfl) ?_
        refine u rfl rfl asg ?_
        refine jd ?_
        refine w5 1 2 5 6 2001 ?_
        refine J_condF rfl ?_
        refine js ?_
        refine u rfl rfl (r_eqI rfl rfl rfl rfl) ?_
        refine u rfl rfl asg ?_
        refine jd ?_
        refine w5 1 2 5 11 2001 ?_
        refine J_condT rfl ?_
        refine J_seq ?_
        refine js ?_
        refine u rfl rfl (fA 1 1) ?_
        refine u rfl rfl ld ?_
        refine u rfl rfl (r_eqI rfl rfl rfl rfl) ?_
        refine jd ?_
        refine w4 1 2 15 2001 ?_
        refine J_condT rfl ?_
        refine js ?_
        refine u rfl rfl asg ?_
        refine jd ?_
        refine w3 1 2 2001 ?_
        refine J_ret ?_
        exact ⟨.inl rfl, _, rfl, .of rfl, trivial⟩
    | str s =>
      clear hlist
      refine con_intro rfl rfl (by kernel_rfl) (by kernel_rfl) ?_
      refine js ?_
      refine u rfl rfl (r_boxA (x := 2001) rfl rfl rfl rfl) ?_
      refine u rfl rfl asg ?_
      refine jd ?_
      refine w3 1 2 2001 ?_
      refine J_seq ?_
      refine js ?_
      refine u rfl rfl (fA 0 1) ?_
      refine u rfl rfl ld ?_
      refine jd ?_
      refine w4 1 2 5 2001 ?_
      refine J_block ?_
      refine js ?_
      refine u rfl rfl (r_eqI rfl rfl rfl rfl) ?_
      refine u rfl rfl asg ?_
      refine jd ?_
      refine w5 1 2 5 6 2001 ?_
      refine J_condF rfl ?_
      refine js ?_
      refine u rfl rfl (r_eqI rfl rfl rfl rfl) ?_
      refine u rfl rfl asg ?_
      refine jd ?_
      refine w5 1 2 5 11 2001 ?_
      refine J_condF rfl ?_
      refine js ?_
      refine u rfl rfl (r_eqI rfl rfl rfl rfl) ?_
      refine u rfl rfl asg ?_
      refine jd ?_
      refine w5 1 2 5 16 2001 ?_
      refine J_condT rfl ?_
      refine js ?_
      refine u rfl rfl (fA 2 1) ?_
      refine u rfl rfl ld ?_
      refine u rfl rfl (cl (kRLong s hok)) ?_
      refine u rfl rfl asg ?_
      refine jd ?_
      refine w3 1 2 2001 ?_
      refine J_ret ?_
      exact ⟨.inl rfl, _, rfl, .of rfl, trivial⟩
    | unit =>
      clear hlist
      refine con_intro rfl rfl (by kernel_rfl) (by kernel_rfl) ?_
      refine js ?_
      refine u rfl rfl (r_boxA (x := 2001) rfl rfl rfl rfl) ?_
      refine u rfl rfl asg ?_
      refine jd ?_
      refine w3 1 2 2001 ?_
      refine J_seq ?_
      refine js ?_
      refine u rfl rfl (fA 0 1) ?_
      refine u rfl rfl ld ?_
      refine jd ?_
      refine w4 1 2 5 2001 ?_
      refine J_block ?_
      refine js ?_
      refine u rfl rfl (r_eqI rfl rfl rfl rfl) ?_
      refine u rfl rfl asg ?_
      refine jd ?_
      refine w5 1 2 5 6 2001 ?_
      refine J_condF rfl ?_
      refine js ?_
      refine u rfl rfl (r_eqI rfl rfl rfl rfl) ?_
      refine u rfl rfl asg ?_
      refine jd ?_
      refine w5 1 2 5 11 2001 ?_
      refine J_condF rfl ?_
      refine js ?_
      refine u rfl rfl (r_eqI rfl rfl rfl rfl) ?_
      refine u rfl rfl asg ?_
      refine jd ?_
      refine w5 1 2 5 16 2001 ?_
      refine J_condF rfl ?_
      refine js ?_
      refine u rfl rfl (r_eqI rfl rfl rfl rfl) ?_
      refine u rfl rfl asg ?_
      refine jd ?_
      refine w5 1 2 5 21 2001 ?_
      refine J_condT rfl ?_
      refine js ?_
      refine u rfl rfl asg ?_
      refine jd ?_
      refine w3 1 2 2001 ?_
      refine J_ret ?_
      exact ⟨.inl rfl, _, rfl, .of rfl, trivial⟩
    | func =>
      clear hlist
      refine con_intro rfl rfl (by kernel_rfl) (by kernel_rfl) ?_
      refine js ?_
      refine u rfl rfl (r_boxA (x := 2001) rfl rfl rfl rfl) ?_
      refine u rfl rfl asg ?_
      refine jd ?_
      refine w3 1 2 2001 ?_
      refine J_seq ?_
      refine js ?_
      refine u rfl rfl (fA 0 1) ?_
      refine u rfl rfl ld ?_
      refine jd ?_
      refine w4 1 2 5 2001 ?_
      refine J_block ?_
      refine js ?_
      refine u rfl rfl (r_eqI rfl rfl rfl rfl) ?_
      refine u rfl rfl asg ?_
      refine jd ?_
      refine w5 1 2 5 6 2001 ?_
      refine J_condF rfl ?_
      refine js ?_
      refine u rfl rfl (r_eqI rfl rfl rfl rfl) ?_
      refine u rfl rfl asg ?_
      refine jd ?_
      refine w5 1 2 5 11 2001 ?_
      refine J_condF rfl ?_
      refine js ?_
      refine u rfl rfl (r_eqI rfl rfl rfl rfl) ?_
      refine u rfl rfl asg ?_
      refine jd ?_
      refine w5 1 2 5 16 2001 ?_
      refine J_condF rfl ?_
      refine js ?_
      refine u rfl rfl (r_eqI rfl rfl rfl rfl) ?_
      refine u rfl rfl asg ?_
      refine jd ?_
      refine w5 1 2 5 21 2001 ?_
      refine J_condF rfl ?_
      refine js ?_
      refine u rfl rfl (r_eqI rfl rfl rfl rfl) ?_
      refine u rfl rfl asg ?_
      refine jd ?_
      refine w5 1 2 5 23 2001 ?_
      refine J_condF rfl ?_
      refine js ?_
      refine u rfl rfl (r_eqI rfl rfl rfl rfl) ?_
      refine u rfl rfl asg ?_
      refine jd ?_
      refine w4 1 2 39 2001 ?_
      refine J_condT rfl ?_
      refine js ?_
      refine u rfl rfl asg ?_
      refine jd ?_
      refine w3 1 2 2001 ?_
      refine J_ret ?_
      exact ⟨.inl rfl, _, rfl, .of rfl, trivial⟩
    | pair a b =>
      clear hlist
      have sz := (show (Tl.pair a b).va.size = 1 + (a.va.size + (b.va.size + 0)) by simp only [Tl.va, Va.size, Va.sizes])
      have la := Tl.tx_len a false hok.1
      have lb := Tl.tx_len b false hok.2
      have ca := kXval m a (by omega) (by omega) hok.1
      have cb := kXval m b (by omega) (by omega) hok.2
      refine con_intro rfl rfl (by kernel_rfl) (by kernel_rfl) ?_
      refine js ?_
      refine u rfl rfl (r_boxA (x := 2001) rfl rfl rfl rfl) ?_
      refine u rfl rfl asg ?_
      refine jd ?_
      refine w3 1 2 2001 ?_
      refine J_seq ?_
      refine js ?_
      refine u rfl rfl (fA 0 1) ?_
      refine u rfl rfl ld ?_
      refine jd ?_
      refine w4 1 2 5 2001 ?_
      refine J_block ?_
      refine js ?_
      refine u rfl rfl (r_eqI rfl rfl rfl rfl) ?_
      refine u rfl rfl asg ?_
      refine jd ?_
      refine w5 1 2 5 6 2001 ?_
      refine J_condF rfl ?_
      refine js ?_
      refine u rfl rfl (r_eqI rfl rfl rfl rfl) ?_
      refine u rfl rfl asg ?_
      refine jd ?_
      refine w5 1 2 5 11 2001 ?_
      refine J_condF rfl ?_
      refine js ?_
      refine u rfl rfl (r_eqI rfl rfl rfl rfl) ?_
      refine u rfl rfl asg ?_
      refine jd ?_
      refine w5 1 2 5 16 2001 ?_
      refine J_condF rfl ?_
      refine js ?_
      refine u rfl rfl (r_eqI rfl rfl rfl rfl) ?_
      refine u rfl rfl asg ?_
      refine jd ?_
      refine w5 1 2 5 21 2001 ?_
      refine J_condF rfl ?_
      refine js ?_
      refine u rfl rfl (r_eqI rfl rfl rfl rfl) ?_
      refine u rfl rfl asg ?_
      refine jd ?_
      refine w5 1 2 5 23 2001 ?_
      refine J_condT rfl ?_
      refine js ?_
      refine u rfl rfl (fA 8 1) ?_
      refine u rfl rfl ld ?_
      refine u rfl rfl (r_indexAddr (e := 30) (sz := 9) rfl rfl (by kernel_rfl) rfl rfl (Int.le_refl 0) (vasD_at (l := [a.va, b.va]) (i := 0) rfl)) ?_
      refine u rfl rfl (eA 9) ?_
      refine u rfl rfl (cl (ca)) ?_
      refine u rfl rfl (r_catS rfl rfl rfl rfl (by first | omega | (simp only [List.length_append, List.length_cons, List.length_nil]; omega))) ?_
      refine u rfl rfl (r_catS rfl rfl rfl rfl (by first | omega | (simp only [List.length_append, List.length_cons, List.length_nil]; omega))) ?_
      refine u rfl rfl (fA 8 1) ?_
      refine u rfl rfl ld ?_
      refine u rfl rfl (r_indexAddr (e := 30) (sz := 9) rfl rfl (by kernel_rfl) rfl rfl (by decide) (vasD_at (l := [a.va, b.va]) (i := 1) rfl)) ?_
      refine u rfl rfl (eA 9) ?_
      refine u rfl rfl (cl (cb)) ?_
      refine u rfl rfl (r_catS rfl rfl rfl rfl (by first | omega | (simp only [List.length_append, List.length_cons, List.length_nil]; omega))) ?_
      refine u rfl rfl (r_catS rfl rfl rfl rfl (by first | omega | (simp only [List.length_append, List.length_cons, List.length_nil]; omega))) ?_
      refine u rfl rfl asg ?_
      refine jD [0, 1, 3, 7, 15, 31, 63, 0, 128, 384, 896, 1951, 4095, 8191, 16383] ?_
      refine w3 1 2 2001 ?_
      refine J_ret ?_
      refine ⟨.inl rfl, _, rfl, .ofS ?_, trivial⟩
      simp [Tl.tx]
theorem kXVal (v : Va) (hI : v.I) (hL : v.Light) (h : v.size ≤ 1000) : Con Tryz.prog 11 [.agg (vaX v)] [] (.c (.lit (str (tlT v)))) [] := by
  have ct := kRTold v hL (by omega)
  rw [rTold_eq] at ct
  cases hv : vTold v with
  | false =>
    rw [hv] at ct
    rw [tlT_not hv]
    refine con_intro rfl rfl (by kernel_rfl) (by kernel_rfl) ?_
    refine js ?_
    refine u rfl rfl (r_boxA (x := 2001) rfl rfl rfl rfl) ?_
    refine u rfl rfl asg ?_
    refine jd ?_
    refine w3 1 2 2001 ?_
    refine J_seq ?_
    refine js ?_
    refine u rfl rfl (lA 9) ?_
    refine u rfl rfl (cl (ct)) ?_
    refine u rfl rfl nt ?_
    refine jd ?_
    refine w4 1 2 5 2001 ?_
    refine J_condT rfl ?_
    refine js ?_
    refine u rfl rfl asg ?_
    refine jd ?_
    refine w3 1 2 2001 ?_
    refine J_ret ?_
    exact ⟨.inl rfl, _, rfl, .refl _, trivial⟩
  | true =>
    rw [hv] at ct
    obtain ⟨t, hok, rfl⟩ := told_of hI hv
    rw [tlT_va hok]
    have hp := kXval t.va.size t (by omega) (Nat.le_refl _) hok
    refine con_intro rfl rfl (by kernel_rfl) (by kernel_rfl) ?_
    refine js ?_
    refine u rfl rfl (r_boxA (x := 2001) rfl rfl rfl rfl) ?_
    refine u rfl rfl asg ?_
    refine jd ?_
    refine w3 1 2 2001 ?_
    refine J_seq ?_
    refine js ?_
    refine u rfl rfl (lA 9) ?_
    refine u rfl rfl (cl (ct)) ?_
    refine u rfl rfl nt ?_
    refine jd ?_
    refine w4 1 2 5 2001 ?_
    refine J_condF rfl ?_
    refine J_skip ?_
    refine js ?_
    refine u rfl rfl (lA 9) ?_
    refine u rfl rfl (cl (hp)) ?_
    refine u rfl rfl asg ?_
    refine jd ?_
    refine w1 2 ?_
    refine J_ret ?_
    exact ⟨.inl rfl, _, rfl, .refl _, trivial⟩

theorem kXbad (a b y l r : Int) (nm : List UInt8) (ha : I64 a) (hb : I64 b) (hn : nm.length ≤ 1000000) : Con Tryz.prog 13 [.agg [.lit (.int .i64 a), .lit (.int .i64 b), .lit (.int .i64 y), .lit (.int .i64 l), .lit (.int .i64 r), .lit (str nm)]] [] (.c (.lit (str (bdT a b y l r nm)))) [] := by
  have q0 := spT_len a b
  have q1 := kdT_len l
  have q2 := kdT_len r
  refine con_intro rfl rfl (by kernel_rfl) (by kernel_rfl) ?_
  refine js ?_
  refine u rfl rfl (r_boxA (x := 2001) rfl rfl rfl rfl) ?_
  refine u rfl rfl asg ?_
  refine jd ?_
  refine w3 1 2 2001 ?_
  refine js ?_
  refine u rfl rfl (fA 0 2) ?_
  refine u rfl rfl (lA 2) ?_
  refine u rfl rfl (cl (kXspan a b ha hb)) ?_
  refine u rfl rfl (r_catS rfl rfl rfl rfl (by first | omega | (simp only [List.length_append, List.length_cons, List.length_nil]; omega))) ?_
  refine u rfl rfl (r_catS rfl rfl rfl rfl (by first | omega | (simp only [List.length_append, List.length_cons, List.length_nil]; omega))) ?_
  refine u rfl rfl asg ?_
  refine jd ?_
  refine w4 1 2 3 2001 ?_
  refine J_seq ?_
  refine js ?_
  refine u rfl rfl (fA 2 1) ?_
  refine u rfl rfl ld ?_
  refine jd ?_
  refine w5 1 2 3 10 2001 ?_
  refine J_block ?_
  refine js ?_
  refine JR.runB rfl rfl (r_eqI rfl rfl rfl rfl) ?_ ?_
  · intro h12
    replace h12 := of_decide_eq_true h12
    refine u rfl rfl asg ?_
    refine jd ?_
    refine w6 1 2 3 10 11 2001 ?_
    refine J_condT rfl ?_
    refine js ?_
    refine u rfl rfl mv ?_
    refine u rfl rfl (fA 3 1) ?_
    refine u rfl rfl ld ?_
    refine u rfl rfl (cl (kXkind l)) ?_
    refine u rfl rfl (r_catS rfl rfl rfl rfl (by first | omega | (simp only [List.length_append, List.length_cons, List.length_nil]; omega))) ?_
    refine u rfl rfl (r_catS rfl rfl rfl rfl (by first | omega | (simp only [List.length_append, List.length_cons, List.length_nil]; omega))) ?_
    refine u rfl rfl (fA 4 1) ?_
    refine u rfl rfl ld ?_
    refine u rfl rfl (cl (kXkind r)) ?_
    refine u rfl rfl (r_catS rfl rfl rfl rfl (by first | omega | (simp only [List.length_append, List.length_cons, List.length_nil]; omega))) ?_
    refine u rfl rfl asg ?_
    refine jD [0, 0, 2, 6, 15, 31, 0, 64, 206, 511, 1023] ?_
    refine w1 2 ?_
    refine J_ret ?_
    refine ⟨.inl rfl, _, rfl, .ofS ?_, trivial⟩
    simp_all [bdT, bdP]
  · intro h12
    replace h12 := of_decide_eq_false h12
    refine u rfl rfl asg ?_
    refine jd ?_
    refine w6 1 2 3 10 11 2001 ?_
    refine J_condF rfl ?_
    refine js ?_
    refine JR.runB rfl rfl (r_eqI rfl rfl rfl rfl) ?_ ?_
    · intro h24
      replace h24 := of_decide_eq_true h24
      refine u rfl rfl asg ?_
      refine jd ?_
      refine w6 1 2 3 10 23 2001 ?_
      refine J_condT rfl ?_
      refine js ?_
      refine u rfl rfl mv ?_
      refine u rfl rfl (r_catS rfl rfl rfl rfl (by first | omega | (simp only [List.length_append, List.length_cons, List.length_nil]; omega))) ?_
      refine u rfl rfl asg ?_
      refine jd ?_
      refine w1 2 ?_
      refine J_ret ?_
      refine ⟨.inl rfl, _, rfl, .ofS ?_, trivial⟩
      simp_all [bdT, bdP]
    · intro h24
      replace h24 := of_decide_eq_false h24
      refine u rfl rfl asg ?_
      refine jd ?_
      refine w6 1 2 3 10 23 2001 ?_
      refine J_condF rfl ?_
      refine js ?_
      refine JR.runB rfl rfl (r_eqI rfl rfl rfl rfl) ?_ ?_
      · intro h28
        replace h28 := of_decide_eq_true h28
        refine u rfl rfl asg ?_
        refine jd ?_
        refine w5 1 2 3 27 2001 ?_
        refine J_condT rfl ?_
        refine js ?_
        refine u rfl rfl mv ?_
        refine u rfl rfl (r_catS rfl rfl rfl rfl (by first | omega | (simp only [List.length_append, List.length_cons, List.length_nil]; omega))) ?_
        refine u rfl rfl (fA 5 1) ?_
        refine u rfl rfl ld ?_
        refine u rfl rfl (r_catS rfl rfl rfl rfl (by first | omega | (simp only [List.length_append, List.length_cons, List.length_nil]; omega))) ?_
        refine u rfl rfl asg ?_
        refine jd ?_
        refine w1 2 ?_
        refine J_ret ?_
        refine ⟨.inl rfl, _, rfl, .ofS ?_, trivial⟩
        simp_all [bdT, bdP]
      · intro h28
        replace h28 := of_decide_eq_false h28
        refine u rfl rfl asg ?_
        refine jd ?_
        refine w5 1 2 3 27 2001 ?_
        refine J_condF rfl ?_
        refine J_skip ?_
        refine js ?_
        refine u rfl rfl asg ?_
        refine jd ?_
        refine w1 2 ?_
        refine J_ret ?_
        refine ⟨.inl rfl, _, rfl, .ofS ?_, trivial⟩
        simp_all [bdT, bdP]

theorem kXresult (k : Int) (v : Va) (n : Int) (g : Bool) (a b st : Int) (l : List Lb) (hI : v.I) (hL : v.Light) (hs : v.size ≤ 1000) (hn : I64 n) (ha : I64 a) (hb : I64 b) (hl : ∀ x, x ∈ l → x.OK) : Con Tryz.prog 15 [.agg [.lit (.int .i64 k), .lit (.int .i64 v.kind), .lit (.int .i64 v.num), .lit (str v.str), .lit (.int .i64 v.coe.kind), .lit (.int .i64 v.coe.head), .lit (.int .i64 v.coe.lab), .lit (.bool v.coe.neg), .sl 5 (cosD v.coe.kids), .sl 9 (vasD v.kids), .lit (.int .i64 n), .lit (.bool g), .lit (.int .i64 a), .lit (.int .i64 b), .lit (.int .i64 st)], .c (.sl 8 (lbR l))] [] (.c (.lit (str (rsT k v n g a b l)))) [] := by
  have q0 := tlT_len hI
  have q1 := mNum_20 n
  have q2 := spT_len a b
  have hll := lbR_len l
  refine con_intro rfl rfl (by kernel_rfl) (by kernel_rfl) ?_
  refine js ?_
  refine u rfl rfl (r_boxA (x := 2002) rfl rfl rfl rfl) ?_
  refine u rfl rfl asg ?_
  refine jd ?_
  refine w4 1 2 4 2002 ?_
  refine J_seq ?_
  refine js ?_
  refine u rfl rfl (fA 0 1) ?_
  refine u rfl rfl ld ?_
  refine jd ?_
  refine w5 1 2 4 8 2002 ?_
  refine J_block ?_
  refine js ?_
  refine JR.runB rfl rfl (r_eqI rfl rfl rfl rfl) ?_ ?_
  · intro h10
    replace h10 := of_decide_eq_true h10
    refine u rfl rfl asg ?_
    refine jd ?_
    refine w6 1 2 4 8 9 2002 ?_
    refine J_condT rfl ?_
    refine js ?_
    refine u rfl rfl (fA 1 9) ?_
    refine u rfl rfl (lA 9) ?_
    refine u rfl rfl (cl (kXVal v hI hL hs)) ?_
    refine u rfl rfl (r_catS rfl rfl rfl rfl (by first | omega | (simp only [List.length_append, List.length_cons, List.length_nil]; omega))) ?_
    refine u rfl rfl asg ?_
    refine jd ?_
    refine w1 4 ?_
    refine J_ret ?_
    refine ⟨.inl rfl, _, rfl, .ofS ?_, trivial⟩
    simp_all [rsT]
  · intro h10
    replace h10 := of_decide_eq_false h10
    refine u rfl rfl asg ?_
    refine jd ?_
    refine w6 1 2 4 8 9 2002 ?_
    refine J_condF rfl ?_
    refine js ?_
    refine JR.runB rfl rfl (r_eqI rfl rfl rfl rfl) ?_ ?_
    · intro h16
      replace h16 := of_decide_eq_true h16
      refine u rfl rfl asg ?_
      refine jd ?_
      refine w6 1 2 4 8 15 2002 ?_
      refine J_condT rfl ?_
      refine js ?_
      refine u rfl rfl (fA 10 1) ?_
      refine u rfl rfl ld ?_
      refine u rfl rfl (cl (kXnum n hn)) ?_
      refine u rfl rfl (r_catS rfl rfl rfl rfl (by first | omega | (simp only [List.length_append, List.length_cons, List.length_nil]; omega))) ?_
      refine u rfl rfl (r_catS rfl rfl rfl rfl (by first | omega | (simp only [List.length_append, List.length_cons, List.length_nil]; omega))) ?_
      refine u rfl rfl asg ?_
      refine jd ?_
      refine w5 1 2 4 5 2002 ?_
      refine J_seq ?_
      refine js ?_
      refine u rfl rfl (fA 11 1) ?_
      refine u rfl rfl ld ?_
      refine jd ?_
      refine w6 1 2 4 5 23 2002 ?_
      cases g
      · skip
        refine J_condF rfl ?_
        refine J_skip ?_
        refine J_seq ?_
        refine js ?_
        refine u rfl rfl (fA 10 1) ?_
        refine u rfl rfl ld ?_
        refine JR.runB rfl rfl (r_geI rfl rfl rfl rfl) ?_ ?_
        · intro h31
          replace h31 := of_decide_eq_true h31
          refine u rfl rfl mv ?_
          refine u rfl rfl (fA 10 1) ?_
          refine u rfl rfl ld ?_
          refine u rfl rfl mv ?_
          refine u rfl rfl ln0 ?_
          refine JR.runB rfl rfl (r_ltI rfl rfl rfl rfl) ?_ ?_
          · intro h37
            replace h37 := of_decide_eq_true h37
            obtain ⟨x, hx⟩ := get_some (l := l) (i := n.toNat) (by omega)
            obtain ⟨hx1, hx2, hx3, hx4⟩ := hl x (List.mem_of_getElem? hx)
            have q3 := spT_len x.a x.b
            have q4 := tyT_len x.f
            have q5 := tyT_len x.t
            refine u rfl rfl pT ?_
            refine jd ?_
            refine w6 1 2 4 5 38 2002 ?_
            refine J_condT rfl ?_
            refine js ?_
            refine u rfl rfl mv ?_
            refine u rfl rfl (fA 10 1) ?_
            refine u rfl rfl ld ?_
            refine u rfl rfl (r_indexAddr (e := 57) (sz := 8) rfl rfl (by kernel_rfl) rfl rfl (by omega) (lbR_at hx)) ?_
            refine u rfl rfl (eA 8) ?_
            refine u rfl rfl (r_alloc (x := 2006) (zs := [.int .i64 0, .int .i64 0, .int .i64 0, .int .i64 0, .slice none 0 0, .int .i64 0, .int .i64 0, .slice none 0 0]) [.lit (.int .i64 0), .lit (.int .i64 0), .lit (.int .i64 0), .lit (.int .i64 0), .sl 3 [], .lit (.int .i64 0), .lit (.int .i64 0), .sl 3 []] rfl rfl rfl (by kernel_rfl) ⟨.refl _, .refl _, .refl _, .refl _, .nil _, .refl _, .refl _, .nil _, trivial⟩) ?_
            refine u rfl rfl sA ?_
            refine jd ?_
            refine w4 4 5 6 2006 ?_
            refine JR.start ?_
            refine u rfl rfl mv ?_
            refine u rfl rfl (r_catS rfl rfl rfl rfl (by first | omega | (simp only [List.length_append, List.length_cons, List.length_nil]; omega))) ?_
            refine u rfl rfl (fA 0 2) ?_
            refine u rfl rfl (lA 2) ?_
            refine u rfl rfl (cl (kXspan x.a x.b hx1 hx2)) ?_
            refine u rfl rfl (r_catS rfl rfl rfl rfl (by first | omega | (simp only [List.length_append, List.length_cons, List.length_nil]; omega))) ?_
            refine u rfl rfl (r_catS rfl rfl rfl rfl (by first | omega | (simp only [List.length_append, List.length_cons, List.length_nil]; omega))) ?_
            refine u rfl rfl (fA 2 3) ?_
            refine u rfl rfl (lA 3) ?_
            refine u rfl rfl (cl (kXtype x.f hx3)) ?_
            refine u rfl rfl (r_catS rfl rfl rfl rfl (by first | omega | (simp only [List.length_append, List.length_cons, List.length_nil]; omega))) ?_
            refine u rfl rfl (r_catS rfl rfl rfl rfl (by first | omega | (simp only [List.length_append, List.length_cons, List.length_nil]; omega))) ?_
            refine u rfl rfl (fA 5 3) ?_
            refine u rfl rfl (lA 3) ?_
            refine u rfl rfl (cl (kXtype x.t hx4)) ?_
            refine u rfl rfl (r_catS rfl rfl rfl rfl (by first | omega | (simp only [List.length_append, List.length_cons, List.length_nil]; omega))) ?_
            refine u rfl rfl asg ?_
            refine jD [0, 1, 0, 4, 12, 31, 63, 0, 128, 412, 1023, 2047, 0, 4096, 13212, 32767, 65535] ?_
            refine w2 4 5 ?_
            refine js ?_
            refine u rfl rfl mv ?_
            refine u rfl rfl asg ?_
            refine jd ?_
            refine w1 4 ?_
            refine J_ret ?_
            refine ⟨.inl rfl, _, rfl, .ofS ?_, trivial⟩
            have hc : 0 ≤ n ∧ n < l.length := by omega
            simp only [rsT, h10, h16, if_neg, if_pos, hc, and_self, not_false_eq_true, if_true, if_false, hx, Option.getD_some]
            simp [rsB, rsL]
          · intro h37
            replace h37 := of_decide_eq_false h37
            refine u rfl rfl pT ?_
            refine jd ?_
            refine w6 1 2 4 5 38 2002 ?_
            refine J_condF rfl ?_
            refine J_skip ?_
            refine js ?_
            refine u rfl rfl mv ?_
            refine u rfl rfl asg ?_
            refine jd ?_
            refine w1 4 ?_
            refine J_ret ?_
            refine ⟨.inl rfl, _, rfl, .ofS ?_, trivial⟩
            have hc : ¬ (0 ≤ n ∧ n < l.length) := by omega
            simp [rsT, h10, h16, hc, rsB]
        · intro h31
          replace h31 := of_decide_eq_false h31
          refine u rfl rfl mv ?_
          refine sk ?_
          refine sk ?_
          refine sk ?_
          refine sk ?_
          refine sk ?_
          refine u rfl rfl pF ?_
          refine jd ?_
          refine w6 1 2 4 5 38 2002 ?_
          refine J_condF rfl ?_
          refine J_skip ?_
          refine js ?_
          refine u rfl rfl mv ?_
          refine u rfl rfl asg ?_
          refine jd ?_
          refine w1 4 ?_
          refine J_ret ?_
          refine ⟨.inl rfl, _, rfl, .ofS ?_, trivial⟩
          have hc : ¬ (0 ≤ n ∧ n < l.length) := by omega
          simp [rsT, h10, h16, hc, rsB]
      · skip
        refine J_condT rfl ?_
        refine JR.start ?_
        refine u rfl rfl (fA 10 1) ?_
        refine u rfl rfl ld ?_
        refine u rfl rfl (cl (kXnum n hn)) ?_
        refine u rfl rfl (r_catS rfl rfl rfl rfl (by first | omega | (simp only [List.length_append, List.length_cons, List.length_nil]; omega))) ?_
        refine u rfl rfl (r_catS rfl rfl rfl rfl (by first | omega | (simp only [List.length_append, List.length_cons, List.length_nil]; omega))) ?_
        refine u rfl rfl asg ?_
        refine jd ?_
        refine w5 1 2 4 5 2002 ?_
        refine J_seq ?_
        refine js ?_
        refine u rfl rfl (fA 10 1) ?_
        refine u rfl rfl ld ?_
        refine JR.runB rfl rfl (r_geI rfl rfl rfl rfl) ?_ ?_
        · intro h31
          replace h31 := of_decide_eq_true h31
          refine u rfl rfl mv ?_
          refine u rfl rfl (fA 10 1) ?_
          refine u rfl rfl ld ?_
          refine u rfl rfl mv ?_
          refine u rfl rfl ln0 ?_
          refine JR.runB rfl rfl (r_ltI rfl rfl rfl rfl) ?_ ?_
          · intro h37
            replace h37 := of_decide_eq_true h37
            obtain ⟨x, hx⟩ := get_some (l := l) (i := n.toNat) (by omega)
            obtain ⟨hx1, hx2, hx3, hx4⟩ := hl x (List.mem_of_getElem? hx)
            have q3 := spT_len x.a x.b
            have q4 := tyT_len x.f
            have q5 := tyT_len x.t
            refine u rfl rfl pT ?_
            refine jd ?_
            refine w6 1 2 4 5 38 2002 ?_
            refine J_condT rfl ?_
            refine js ?_
            refine u rfl rfl mv ?_
            refine u rfl rfl (fA 10 1) ?_
            refine u rfl rfl ld ?_
            refine u rfl rfl (r_indexAddr (e := 57) (sz := 8) rfl rfl (by kernel_rfl) rfl rfl (by omega) (lbR_at hx)) ?_
            refine u rfl rfl (eA 8) ?_
            refine u rfl rfl (r_alloc (x := 2006) (zs := [.int .i64 0, .int .i64 0, .int .i64 0, .int .i64 0, .slice none 0 0, .int .i64 0, .int .i64 0, .slice none 0 0]) [.lit (.int .i64 0), .lit (.int .i64 0), .lit (.int .i64 0), .lit (.int .i64 0), .sl 3 [], .lit (.int .i64 0), .lit (.int .i64 0), .sl 3 []] rfl rfl rfl (by kernel_rfl) ⟨.refl _, .refl _, .refl _, .refl _, .nil _, .refl _, .refl _, .nil _, trivial⟩) ?_
            refine u rfl rfl sA ?_
            refine jd ?_
            refine w4 4 5 6 2006 ?_
            refine JR.start ?_
            refine u rfl rfl mv ?_
            refine u rfl rfl (r_catS rfl rfl rfl rfl (by first | omega | (simp only [List.length_append, List.length_cons, List.length_nil]; omega))) ?_
            refine u rfl rfl (fA 0 2) ?_
            refine u rfl rfl (lA 2) ?_
            refine u rfl rfl (cl (kXspan x.a x.b hx1 hx2)) ?_
            refine u rfl rfl (r_catS rfl rfl rfl rfl (by first | omega | (simp only [List.length_append, List.length_cons, List.length_nil]; omega))) ?_
            refine u rfl rfl (r_catS rfl rfl rfl rfl (by first | omega | (simp only [List.length_append, List.length_cons, List.length_nil]; omega))) ?_
            refine u rfl rfl (fA 2 3) ?_
            refine u rfl rfl (lA 3) ?_
            refine u rfl rfl (cl (kXtype x.f hx3)) ?_
            refine u rfl rfl (r_catS rfl rfl rfl rfl (by first | omega | (simp only [List.length_append, List.length_cons, List.length_nil]; omega))) ?_
            refine u rfl rfl (r_catS rfl rfl rfl rfl (by first | omega | (simp only [List.length_append, List.length_cons, List.length_nil]; omega))) ?_
            refine u rfl rfl (fA 5 3) ?_
            refine u rfl rfl (lA 3) ?_
            refine u rfl rfl (cl (kXtype x.t hx4)) ?_
            refine u rfl rfl (r_catS rfl rfl rfl rfl (by first | omega | (simp only [List.length_append, List.length_cons, List.length_nil]; omega))) ?_
            refine u rfl rfl asg ?_
            refine jD [0, 1, 0, 4, 12, 31, 63, 0, 128, 412, 1023, 2047, 0, 4096, 13212, 32767, 65535] ?_
            refine w2 4 5 ?_
            refine js ?_
            refine u rfl rfl mv ?_
            refine u rfl rfl asg ?_
            refine jd ?_
            refine w1 4 ?_
            refine J_ret ?_
            refine ⟨.inl rfl, _, rfl, .ofS ?_, trivial⟩
            have hc : 0 ≤ n ∧ n < l.length := by omega
            simp only [rsT, h10, h16, if_neg, if_pos, hc, and_self, not_false_eq_true, if_true, if_false, hx, Option.getD_some]
            simp [rsB, rsL]
          · intro h37
            replace h37 := of_decide_eq_false h37
            refine u rfl rfl pT ?_
            refine jd ?_
            refine w6 1 2 4 5 38 2002 ?_
            refine J_condF rfl ?_
            refine J_skip ?_
            refine js ?_
            refine u rfl rfl mv ?_
            refine u rfl rfl asg ?_
            refine jd ?_
            refine w1 4 ?_
            refine J_ret ?_
            refine ⟨.inl rfl, _, rfl, .ofS ?_, trivial⟩
            have hc : ¬ (0 ≤ n ∧ n < l.length) := by omega
            simp [rsT, h10, h16, hc, rsB]
        · intro h31
          replace h31 := of_decide_eq_false h31
          refine u rfl rfl mv ?_
          refine sk ?_
          refine sk ?_
          refine sk ?_
          refine sk ?_
          refine sk ?_
          refine u rfl rfl pF ?_
          refine jd ?_
          refine w6 1 2 4 5 38 2002 ?_
          refine J_condF rfl ?_
          refine J_skip ?_
          refine js ?_
          refine u rfl rfl mv ?_
          refine u rfl rfl asg ?_
          refine jd ?_
          refine w1 4 ?_
          refine J_ret ?_
          refine ⟨.inl rfl, _, rfl, .ofS ?_, trivial⟩
          have hc : ¬ (0 ≤ n ∧ n < l.length) := by omega
          simp [rsT, h10, h16, hc, rsB]
    · intro h16
      replace h16 := of_decide_eq_false h16
      refine u rfl rfl asg ?_
      refine jd ?_
      refine w6 1 2 4 8 15 2002 ?_
      refine J_condF rfl ?_
      refine js ?_
      refine JR.runB rfl rfl (r_eqI rfl rfl rfl rfl) ?_ ?_
      · intro h62
        replace h62 := of_decide_eq_true h62
        refine u rfl rfl asg ?_
        refine jd ?_
        refine w5 2 4 8 61 2002 ?_
        refine J_condT rfl ?_
        refine js ?_
        refine u rfl rfl (fA 12 2) ?_
        refine u rfl rfl (lA 2) ?_
        refine u rfl rfl (cl (kXspan a b ha hb)) ?_
        refine u rfl rfl (r_catS rfl rfl rfl rfl (by first | omega | (simp only [List.length_append, List.length_cons, List.length_nil]; omega))) ?_
        refine u rfl rfl asg ?_
        refine jd ?_
        refine w1 4 ?_
        refine J_ret ?_
        refine ⟨.inl rfl, _, rfl, .ofS ?_, trivial⟩
        simp_all [rsT]
      · intro h62
        replace h62 := of_decide_eq_false h62
        refine u rfl rfl asg ?_
        refine jd ?_
        refine w5 2 4 8 61 2002 ?_
        refine J_condF rfl ?_
        refine js ?_
        refine JR.runB rfl rfl (r_eqI rfl rfl rfl rfl) ?_ ?_
        · intro h68
          replace h68 := of_decide_eq_true h68
          refine u rfl rfl asg ?_
          refine jd ?_
          refine w5 2 4 8 67 2002 ?_
          refine J_condT rfl ?_
          refine js ?_
          refine u rfl rfl (fA 12 2) ?_
          refine u rfl rfl (lA 2) ?_
          refine u rfl rfl (cl (kXspan a b ha hb)) ?_
          refine u rfl rfl (r_catS rfl rfl rfl rfl (by first | omega | (simp only [List.length_append, List.length_cons, List.length_nil]; omega))) ?_
          refine u rfl rfl asg ?_
          refine jd ?_
          refine w1 4 ?_
          refine J_ret ?_
          refine ⟨.inl rfl, _, rfl, .ofS ?_, trivial⟩
          simp_all [rsT]
        · intro h68
          replace h68 := of_decide_eq_false h68
          refine u rfl rfl asg ?_
          refine jd ?_
          refine w5 2 4 8 67 2002 ?_
          refine J_condF rfl ?_
          refine js ?_
          refine JR.runB rfl rfl (r_eqI rfl rfl rfl rfl) ?_ ?_
          · intro h74
            replace h74 := of_decide_eq_true h74
            refine u rfl rfl asg ?_
            refine jd ?_
            refine w3 4 8 73 ?_
            refine J_condT rfl ?_
            refine js ?_
            refine u rfl rfl asg ?_
            refine jd ?_
            refine w1 4 ?_
            refine J_ret ?_
            refine ⟨.inl rfl, _, rfl, .ofS ?_, trivial⟩
            simp_all [rsT]
          · intro h74
            replace h74 := of_decide_eq_false h74
            refine u rfl rfl asg ?_
            refine jd ?_
            refine w3 4 8 73 ?_
            refine J_condF rfl ?_
            refine js ?_
            refine JR.runB rfl rfl (r_eqI rfl rfl rfl rfl) ?_ ?_
            · intro h76
              replace h76 := of_decide_eq_true h76
              refine u rfl rfl asg ?_
              refine jd ?_
              refine w2 4 75 ?_
              refine J_condT rfl ?_
              refine js ?_
              refine u rfl rfl asg ?_
              refine jd ?_
              refine w1 4 ?_
              refine J_ret ?_
              refine ⟨.inl rfl, _, rfl, .ofS ?_, trivial⟩
              simp_all [rsT]
            · intro h76
              replace h76 := of_decide_eq_false h76
              refine u rfl rfl asg ?_
              refine jd ?_
              refine w2 4 75 ?_
              refine J_condF rfl ?_
              refine J_skip ?_
              refine js ?_
              refine u rfl rfl asg ?_
              refine jd ?_
              refine w1 4 ?_
              refine J_ret ?_
              refine ⟨.inl rfl, _, rfl, .ofS ?_, trivial⟩
              simp_all [rsT]

theorem kXoutcome (ok at0 ba bb y bl br : Int) (nm : List UInt8) (t : Ty) (k : Int) (v : Va) (n : Int) (g : Bool) (a b st : Int) (l : List Lb) (hI : v.I) (hL : v.Light) (hs : v.size ≤ 1000) (hn : I64 n) (ha : I64 a) (hb : I64 b) (hl : ∀ x, x ∈ l → x.OK) (hat : I64 at0) (hba : I64 ba) (hbb : I64 bb) (hnm : nm.length ≤ 1000) (ht : t.size ≤ 10000) : Con Tryz.prog 18 [.agg [.lit (.int .i64 ok), .lit (.int .i64 at0), .lit (.int .i64 ba), .lit (.int .i64 bb), .lit (.int .i64 y), .lit (.int .i64 bl), .lit (.int .i64 br), .lit (str nm), .lit (.int .i64 t.kind), .lit (.int .i64 t.num), .sl 3 (tysD t.kids), .sl 8 (lbR l), .lit (.int .i64 k), .lit (.int .i64 v.kind), .lit (.int .i64 v.num), .lit (str v.str), .lit (.int .i64 v.coe.kind), .lit (.int .i64 v.coe.head), .lit (.int .i64 v.coe.lab), .lit (.bool v.coe.neg), .sl 5 (cosD v.coe.kids), .sl 9 (vasD v.kids), .lit (.int .i64 n), .lit (.bool g), .lit (.int .i64 a), .lit (.int .i64 b), .lit (.int .i64 st)]] [] (.c (.lit (str (ocT ok at0 (bdT ba bb y bl br nm) t (rsT k v n g a b l))))) [] := by
  have q0 := mNum_20 at0
  have q1 := bdT_len ba bb y bl br nm
  have q2 := tyT_len t
  have q3 := rsT_len (k := k) (n := n) (a := a) (b := b) (g := g) hI hs hl
  refine con_intro rfl rfl (by kernel_rfl) (by kernel_rfl) ?_
  refine js ?_
  refine u rfl rfl (r_boxA (x := 2001) rfl rfl rfl rfl) ?_
  refine u rfl rfl asg ?_
  refine jd ?_
  refine w3 1 2 2001 ?_
  refine J_seq ?_
  refine js ?_
  refine u rfl rfl (fA 0 1) ?_
  refine u rfl rfl ld ?_
  refine jd ?_
  refine w4 1 2 4 2001 ?_
  refine J_block ?_
  refine js ?_
  refine JR.runB rfl rfl (r_eqI rfl rfl rfl rfl) ?_ ?_
  · intro h6
    replace h6 := of_decide_eq_true h6
    refine u rfl rfl asg ?_
    refine jd ?_
    refine w5 1 2 4 5 2001 ?_
    refine J_condT rfl ?_
    refine js ?_
    refine u rfl rfl (fA 1 1) ?_
    refine u rfl rfl ld ?_
    refine u rfl rfl (cl (kXnum at0 hat)) ?_
    refine u rfl rfl (r_catS rfl rfl rfl rfl (by first | omega | (simp only [List.length_append, List.length_cons, List.length_nil]; omega))) ?_
    refine u rfl rfl (r_catS rfl rfl rfl rfl (by first | omega | (simp only [List.length_append, List.length_cons, List.length_nil]; omega))) ?_
    refine u rfl rfl asg ?_
    refine jd ?_
    refine w1 2 ?_
    refine J_ret ?_
    refine ⟨.inl rfl, _, rfl, .ofS ?_, trivial⟩
    simp_all [ocT]
  · intro h6
    replace h6 := of_decide_eq_false h6
    refine u rfl rfl asg ?_
    refine jd ?_
    refine w5 1 2 4 5 2001 ?_
    refine J_condF rfl ?_
    refine js ?_
    refine JR.runB rfl rfl (r_eqI rfl rfl rfl rfl) ?_ ?_
    · intro h13
      replace h13 := of_decide_eq_true h13
      refine u rfl rfl asg ?_
      refine jd ?_
      refine w5 1 2 4 12 2001 ?_
      refine J_condT rfl ?_
      refine js ?_
      refine u rfl rfl asg ?_
      refine jd ?_
      refine w1 2 ?_
      refine J_ret ?_
      refine ⟨.inl rfl, _, rfl, .ofS ?_, trivial⟩
      simp_all [ocT]
    · intro h13
      replace h13 := of_decide_eq_false h13
      refine u rfl rfl asg ?_
      refine jd ?_
      refine w5 1 2 4 12 2001 ?_
      refine J_condF rfl ?_
      refine js ?_
      refine JR.runB rfl rfl (r_eqI rfl rfl rfl rfl) ?_ ?_
      · intro h15
        replace h15 := of_decide_eq_true h15
        refine u rfl rfl asg ?_
        refine jd ?_
        refine w5 1 2 4 14 2001 ?_
        refine J_condT rfl ?_
        refine js ?_
        refine u rfl rfl asg ?_
        refine jd ?_
        refine w1 2 ?_
        refine J_ret ?_
        refine ⟨.inl rfl, _, rfl, .ofS ?_, trivial⟩
        simp_all [ocT]
      · intro h15
        replace h15 := of_decide_eq_false h15
        refine u rfl rfl asg ?_
        refine jd ?_
        refine w5 1 2 4 14 2001 ?_
        refine J_condF rfl ?_
        refine js ?_
        refine JR.runB rfl rfl (r_eqI rfl rfl rfl rfl) ?_ ?_
        · intro h17
          replace h17 := of_decide_eq_true h17
          refine u rfl rfl asg ?_
          refine jd ?_
          refine w5 1 2 4 16 2001 ?_
          refine J_condT rfl ?_
          refine js ?_
          refine u rfl rfl (fA 2 6) ?_
          refine u rfl rfl (lA 6) ?_
          refine u rfl rfl (cl (kXbad ba bb y bl br nm hba hbb (by omega))) ?_
          refine u rfl rfl (r_catS rfl rfl rfl rfl (by first | omega | (simp only [List.length_append, List.length_cons, List.length_nil]; omega))) ?_
          refine u rfl rfl asg ?_
          refine jd ?_
          refine w1 2 ?_
          refine J_ret ?_
          refine ⟨.inl rfl, _, rfl, .ofS ?_, trivial⟩
          simp_all [ocT]
        · intro h17
          replace h17 := of_decide_eq_false h17
          refine u rfl rfl asg ?_
          refine jd ?_
          refine w5 1 2 4 16 2001 ?_
          refine J_condF rfl ?_
          refine js ?_
          refine JR.runB rfl rfl (r_eqI rfl rfl rfl rfl) ?_ ?_
          · intro h23
            replace h23 := of_decide_eq_true h23
            refine u rfl rfl asg ?_
            refine jd ?_
            refine w4 1 2 22 2001 ?_
            refine J_condT rfl ?_
            refine js ?_
            refine u rfl rfl (fA 8 3) ?_
            refine u rfl rfl (lA 3) ?_
            refine u rfl rfl (cl (kXtype t ht)) ?_
            refine u rfl rfl (r_catS rfl rfl rfl rfl (by first | omega | (simp only [List.length_append, List.length_cons, List.length_nil]; omega))) ?_
            refine u rfl rfl (r_catS rfl rfl rfl rfl (by first | omega | (simp only [List.length_append, List.length_cons, List.length_nil]; omega))) ?_
            refine u rfl rfl (fA 12 15) ?_
            refine u rfl rfl (lA 15) ?_
            refine u rfl rfl (fA 11 1) ?_
            refine u rfl rfl ld ?_
            refine u rfl rfl (cl (kXresult k v n g a b st l hI hL hs hn ha hb hl)) ?_
            refine u rfl rfl (r_catS rfl rfl rfl rfl (by first | omega | (simp only [List.length_append, List.length_cons, List.length_nil]; omega))) ?_
            refine u rfl rfl (r_catS rfl rfl rfl rfl (by first | omega | (simp only [List.length_append, List.length_cons, List.length_nil]; omega))) ?_
            refine u rfl rfl asg ?_
            refine jD [0, 1, 3, 7, 15, 0, 32, 0, 128, 487, 1023, 2047, 4095] ?_
            refine w1 2 ?_
            refine J_ret ?_
            refine ⟨.inl rfl, _, rfl, .ofS ?_, trivial⟩
            simp_all [ocT]
          · intro h23
            replace h23 := of_decide_eq_false h23
            refine u rfl rfl asg ?_
            refine jd ?_
            refine w4 1 2 22 2001 ?_
            refine J_condF rfl ?_
            refine J_skip ?_
            refine js ?_
            refine u rfl rfl asg ?_
            refine jd ?_
            refine w1 2 ?_
            refine J_ret ?_
            refine ⟨.inl rfl, _, rfl, .ofS ?_, trivial⟩
            simp_all [ocT]

def lbSmall (x : Lb) : Bool := tySmall x.f && tySmall x.t
def lbHeavy (l : List Lb) : Bool := decide (20 < l.length) || !(l.all lbSmall)
theorem allL_step {l : List Lb} {i : Nat} {x : Lb} (hx : l[i]? = some x) (p : Lb → Bool) : (l.drop i).all p = (p x && (l.drop (i + 1)).all p) := by rw [drop_get hx, List.all_cons]
theorem kLbHeavy (l : List Lb) : Con Tryz.prog 7 [.c (.sl 8 (lbR l))] [] (.c (.lit (.bool (lbHeavy l)))) [] := by
  have hl := lbR_len l
  refine con_intro rfl rfl (by kernel_rfl) (by kernel_rfl) ?_
  refine js ?_
  refine u rfl rfl asg ?_
  refine jd ?_
  refine w2 0 2 ?_
  refine J_seq ?_
  refine js ?_
  refine u rfl rfl mv ?_
  refine u rfl rfl ln0 ?_
  refine JR.runB rfl rfl (r_gtI rfl rfl rfl rfl) ?_ ?_
  · intro h6
    replace h6 := of_decide_eq_true h6
    refine jd ?_
    refine w3 0 2 6 ?_
    refine J_condT rfl ?_
    refine js ?_
    refine u rfl rfl asg ?_
    refine jd ?_
    refine w2 0 2 ?_
    refine J_ret ?_
    refine ⟨.inl rfl, _, rfl, .ofB ?_, trivial⟩
    rw [lbHeavy, show decide (20 < l.length) = true from decide_eq_true (by omega)]
    rfl
  · intro h6
    replace h6 := of_decide_eq_false h6
    refine jd ?_
    refine w3 0 2 6 ?_
    refine J_condF rfl ?_
    refine J_skip ?_
    refine J_seq ?_
    refine js ?_
    refine u rfl rfl asg ?_
    refine jd ?_
    refine w3 0 2 3 ?_
    refine J_block ?_
    refine J_loopF (α := { i : Nat // i ≤ l.length ∧ l.all lbSmall = (l.drop i).all lbSmall }) (fun p => [(3, .c (.lit (.int .i64 (p.1 : Int))))]) [(0, _), (2, _)] (fun p => l.length - p.1) ⟨0, Nat.zero_le _, rfl⟩ ⟨rfl, rfl, rfl, trivial⟩ ?_
    rintro ⟨i, hi, hI⟩
    dsimp only
    refine J_seq ?_
    refine js ?_
    refine u rfl rfl mv ?_
    refine u rfl rfl mv ?_
    refine u rfl rfl ln0 ?_
    refine JR.runB rfl rfl (r_ltI rfl rfl rfl rfl) ?_ ?_
    · intro h10
      replace h10 := of_decide_eq_true h10
      obtain ⟨x, hx⟩ := get_some (l := l) (i := i) (by omega)
      have hxi : (lbR l)[((i : Nat) : Int).toNat]? = some (lbX x) := lbR_at (by simpa using hx)
      have hsm : (tySmall x.f && tySmall x.t) = [x.f, x.t].all tySmall := by simp
      refine jd ?_
      refine w7 0 2 3 7 8 9 10 ?_
      refine J_condT rfl ?_
      refine J_skip ?_
      refine J_seq ?_
      refine J_block ?_
      refine js ?_
      refine u rfl rfl mv ?_
      refine u rfl rfl mv ?_
      refine u rfl rfl (r_indexAddr (e := 57) (sz := 8) rfl rfl (by kernel_rfl) rfl rfl (by omega) (hxi)) ?_
      refine u rfl rfl (fE 2 3) ?_
      refine u rfl rfl (eA 3) ?_
      refine u rfl rfl mv ?_
      refine u rfl rfl mv ?_
      refine u rfl rfl (r_indexAddr (e := 57) (sz := 8) rfl rfl (by kernel_rfl) rfl rfl (by omega) (hxi)) ?_
      refine u rfl rfl (fE 5 3) ?_
      refine u rfl rfl (eA 3) ?_
      refine u rfl rfl (r_buildSlice (e := 24) (sz := 3) (zs := zt) (tysD [x.f, x.t]) rfl rfl (by kernel_rfl) (by kernel_rfl) rfl rfl (by simp only [tysD, tyD_eq]; rfl) (by simp only [tysD, tyD_eq]; rfl)) ?_
      refine JR.runC rfl rfl (cl (kSmall [x.f, x.t] (by simp))) rfl ?_ ?_
      · intro h24
        refine u rfl rfl nt ?_
        refine jD [0, 0, 3, 7, 15, 0, 0, 96, 224, 480, 1023, 2047, 4095] ?_
        refine J_weak [(0, _), (2, _), (3, _), (7, _), (8, _), (9, _), (10, _), (13, _), (14, _), (15, _), (16, _), (17, _), (18, _), (19, _), (20, _), (21, _), (22, _), (23, _), (24, _), (25, _)] ⟨rfl, rfl, rfl, rfl, rfl, rfl, rfl, rfl, rfl, rfl, rfl, rfl, rfl, rfl, rfl, rfl, rfl, rfl, rfl, rfl, trivial⟩ ?_
        refine J_condF rfl ?_
        refine J_skip ?_
        refine JR.start ?_
        refine u rfl rfl mv ?_
        refine u rfl rfl (r_addI rfl rfl rfl rfl (by omega)) ?_
        refine u rfl rfl asg ?_
        refine jd ?_
        refine ⟨⟨i + 1, by omega, by rw [hI, allL_step hx, lbSmall, hsm, h24, Bool.true_and]⟩, by simp only; omega, rfl, rfl, rfl, trivial⟩
      · intro h24
        refine u rfl rfl nt ?_
        refine jD [0, 0, 3, 7, 15, 0, 0, 96, 224, 480, 1023, 2047, 4095] ?_
        refine J_weak [(0, _), (2, _), (3, _), (7, _), (8, _), (9, _), (10, _), (13, _), (14, _), (15, _), (16, _), (17, _), (18, _), (19, _), (20, _), (21, _), (22, _), (23, _), (24, _), (25, _)] ⟨rfl, rfl, rfl, rfl, rfl, rfl, rfl, rfl, rfl, rfl, rfl, rfl, rfl, rfl, rfl, rfl, rfl, rfl, rfl, rfl, trivial⟩ ?_
        refine J_condT rfl ?_
        refine js ?_
        refine u rfl rfl asg ?_
        refine jd ?_
        refine J_weak [(0, _), (2, _), (3, _), (7, _), (8, _), (9, _), (10, _), (13, _), (14, _), (15, _), (16, _), (17, _), (18, _), (19, _), (20, _), (21, _), (22, _), (23, _), (24, _), (25, _)] ⟨rfl, rfl, rfl, rfl, rfl, rfl, rfl, rfl, rfl, rfl, rfl, rfl, rfl, rfl, rfl, rfl, rfl, rfl, rfl, rfl, trivial⟩ ?_
        refine J_ret ?_
        refine ⟨.inl rfl, _, rfl, .ofB ?_, trivial⟩
        rw [lbHeavy, hI, allL_step hx, lbSmall, hsm, h24]
        simp
    · intro h10
      replace h10 := of_decide_eq_false h10
      refine jd ?_
      refine w7 0 2 3 7 8 9 10 ?_
      refine J_condF rfl ?_
      refine J_exit ?_
      refine js ?_
      refine u rfl rfl asg ?_
      refine jd ?_
      refine w1 2 ?_
      refine J_ret ?_
      refine ⟨.inl rfl, _, rfl, .ofB ?_, trivial⟩
      rw [lbHeavy, hI, List.drop_eq_nil_of_le (by omega), show decide (20 < l.length) = false from decide_eq_false (by omega)]
      rfl

end Go.Proofs.YtccdnmjijakofaaGreatDoor
