/- The law's own look at places: inside. -/
import Derived.Test.YtlagglkpbnbmeaaGd2
namespace Go.Proofs.Ytlagglkpbnbmeaa
open Go Go.RowKit
set_option maxRecDepth 100000
set_option maxHeartbeats 4000000
set_option linter.unusedVariables false
set_option linter.unusedSimpArgs false

def opsD (pats : List Pa) (i : Nat) : List (Option Pa) := (none :: pats.map some).drop i
theorem opsD_0 (pats : List Pa) : opsD pats 0 = none :: opsD pats 1 := by simp [opsD]
theorem opsD_z (pats : List Pa) {i : Nat} (h : i = 0) : opsD pats i = none :: opsD pats (i + 1) := by subst h; exact opsD_0 pats
theorem opsD_out {pats : List Pa} {i : Nat} (h : pats.length < i) : opsD pats i = [] := by unfold opsD; exact List.drop_eq_nil_of_le (by simp; omega)
theorem opsD_in {pats : List Pa} {i : Nat} {p : Pa} (h0 : 0 < i) (h : pats[i - 1]? = some p) : opsD pats i = some p :: opsD pats (i + 1) := by
  obtain ⟨j, rfl⟩ : ∃ j, i = j + 1 := ⟨i - 1, by omega⟩
  rw [Nat.add_sub_cancel] at h
  unfold opsD
  rw [List.drop_succ_cons, List.drop_succ_cons, ← List.map_drop, ← List.map_drop, drop_get3 h]
  rfl
theorem insE_eq (N : Int) (e : Ex) : insE N e = (decide (0 ≤ e.fr) && decide (e.fr < e.to) && decide (e.to ≤ N) && insL N e.to e.fr (opsD e.pats 0) e.kids) := by
  cases e; rw [insE]; rfl
theorem kidsK {n : Nat} {e : Ex} (h : ExK n e) : e.kids.length ≤ n ∧ e.pats.length ≤ n ∧ ∀ x, x ∈ e.kids → ExK n x := by
  cases h with
  | mk _ _ _ _ _ hp hl _ hk => exact ⟨hl, hp, hk⟩
theorem kid_size {e x : Ex} (h : x ∈ e.kids) : SizeOf.sizeOf x < SizeOf.sizeOf e := by
  cases e
  have := List.sizeOf_lt_of_mem h
  simp [Ex.kids] at this ⊢
  omega

theorem tInside {n : Nat} (hn : n ≤ 1000000000) (N : Int) : ∀ (m : Nat) (e : Ex), SizeOf.sizeOf e ≤ m → ExK n e → Con Try.prog 7 [.agg (exX e), .c (.lit (.int .i64 N))] [] (.c (.lit (.bool (insE N e)))) []
  | 0, e, h, _ => absurd h (by cases e; simp)
  | m + 1, e, hm, he => by
    obtain ⟨hkl, hpl, hkk⟩ := kidsK he
    have hl := exsD_len e.kids
    have hp := pasD_len3 e.pats
    rw [insE_eq]
    refine con_intro rfl rfl (by kernel_rfl) (by kernel_rfl) ?_
    refine js ?_
    refine u rfl rfl (r_boxA (x := 2002) rfl rfl rfl rfl) ?_
    refine u rfl rfl asg ?_
    refine jd ?_
    refine w4 1 2 4 2002 ?_
    refine J_seq ?_
    refine js ?_
    refine u rfl rfl (fA 1 2) ?_
    refine u rfl rfl (fA 0 1) ?_
    refine u rfl rfl ld ?_
    refine JR.runB rfl rfl (r_ltI rfl rfl rfl rfl) ?_ ?_
    · intro h12
      replace h12 := of_decide_eq_true h12
      refine u rfl rfl mv ?_
      refine sk ?_
      refine sk ?_
      refine sk ?_
      refine sk ?_
      refine sk ?_
      refine sk ?_
      refine sk ?_
      refine u rfl rfl pT ?_
      refine u rfl rfl mv ?_
      refine sk ?_
      refine sk ?_
      refine sk ?_
      refine sk ?_
      refine sk ?_
      refine u rfl rfl pT ?_
      refine jd ?_
      refine w5 1 2 4 28 2002 ?_
      refine J_condT rfl ?_
      refine js ?_
      refine u rfl rfl asg ?_
      refine jd ?_
      refine w4 1 2 4 2002 ?_
      refine J_ret ?_
      refine ⟨.inl rfl, _, rfl, .ofB ?_, trivial⟩
      simp only [show decide (0 ≤ e.fr) = false from decide_eq_false (by omega), Bool.false_and, Bool.and_false]
    · intro h12
      replace h12 := of_decide_eq_false h12
      refine u rfl rfl mv ?_
      refine u rfl rfl (fA 1 2) ?_
      refine u rfl rfl (fA 0 1) ?_
      refine u rfl rfl ld ?_
      refine u rfl rfl (fA 1 2) ?_
      refine u rfl rfl (fA 1 1) ?_
      refine u rfl rfl ld ?_
      refine JR.runB rfl rfl (r_geI rfl rfl rfl rfl) ?_ ?_
      · intro h20
        replace h20 := of_decide_eq_true h20
        refine u rfl rfl pF ?_
        refine u rfl rfl mv ?_
        refine sk ?_
        refine sk ?_
        refine sk ?_
        refine sk ?_
        refine sk ?_
        refine u rfl rfl pT ?_
        refine jd ?_
        refine w5 1 2 4 28 2002 ?_
        refine J_condT rfl ?_
        refine js ?_
        refine u rfl rfl asg ?_
        refine jd ?_
        refine w4 1 2 4 2002 ?_
        refine J_ret ?_
        refine ⟨.inl rfl, _, rfl, .ofB ?_, trivial⟩
        simp only [show decide (e.fr < e.to) = false from decide_eq_false (by omega), Bool.false_and, Bool.and_false]
      · intro h20
        replace h20 := of_decide_eq_false h20
        refine u rfl rfl pF ?_
        refine u rfl rfl mv ?_
        refine u rfl rfl (fA 1 2) ?_
        refine u rfl rfl (fA 1 1) ?_
        refine u rfl rfl ld ?_
        refine u rfl rfl mv ?_
        refine JR.runB rfl rfl (r_gtI rfl rfl rfl rfl) ?_ ?_
        · intro h27
          replace h27 := of_decide_eq_true h27
          refine u rfl rfl pF ?_
          refine jd ?_
          refine w5 1 2 4 28 2002 ?_
          refine J_condT rfl ?_
          refine js ?_
          refine u rfl rfl asg ?_
          refine jd ?_
          refine w4 1 2 4 2002 ?_
          refine J_ret ?_
          refine ⟨.inl rfl, _, rfl, .ofB ?_, trivial⟩
          simp only [show decide (e.to ≤ N) = false from decide_eq_false (by omega), Bool.false_and, Bool.and_false]
        · intro h27
          replace h27 := of_decide_eq_false h27
          refine u rfl rfl pF ?_
          refine jd ?_
          refine w5 1 2 4 28 2002 ?_
          refine J_condF rfl ?_
          refine J_skip ?_
          refine js ?_
          refine u rfl rfl (fA 1 2) ?_
          refine u rfl rfl (fA 0 1) ?_
          refine u rfl rfl ld ?_
          refine u rfl rfl asg ?_
          refine jd ?_
          refine w5 1 2 4 5 2002 ?_
          refine J_seq ?_
          refine js ?_
          refine u rfl rfl asg ?_
          refine jd ?_
          refine w6 1 2 4 5 6 2002 ?_
          refine J_block ?_
          refine J_loopF (α := { q : Nat × Int // q.1 ≤ e.kids.length ∧ insL N e.to e.fr (opsD e.pats 0) e.kids = insL N e.to q.2 (opsD e.pats q.1) (e.kids.drop q.1) }) (fun p => [(6, .c (.lit (.int .i64 (p.1.1 : Int)))), (5, .c (.lit (.int .i64 p.1.2)))]) [(1, _), (2, _), (4, _), (2002, _)] (fun p => e.kids.length - p.1.1) ⟨(0, e.fr), Nat.zero_le _, rfl⟩ ⟨rfl, rfl, rfl, rfl, rfl, rfl, trivial⟩ ?_
          rintro ⟨⟨i, s1⟩, hi, hI⟩
          dsimp only at hi hI ⊢
          refine J_seq ?_
          refine js ?_
          refine u rfl rfl mv ?_
          refine u rfl rfl (fA 15 1) ?_
          refine u rfl rfl ld ?_
          refine u rfl rfl ln0 ?_
          refine JR.runB rfl rfl (r_ltI rfl rfl rfl rfl) ?_ ?_
          · intro h36
            replace h36 := of_decide_eq_true h36
            obtain ⟨x, hx⟩ := get_some3 (l := e.kids) (i := i) (by omega)
            have hxm := List.mem_of_getElem? hx
            have hcx := tInside hn N m x (by have := kid_size hxm; omega) (hkk x hxm)
            conv at hI => rhs; rw [drop_get3 hx]
            refine jd ?_
            refine w11 1 2 4 5 6 32 33 34 35 36 2002 ?_
            refine J_condT rfl ?_
            refine J_skip ?_
            refine J_seq ?_
            refine J_block ?_
            refine J_seq ?_
            refine js ?_
            refine u rfl rfl mv ?_
            refine JR.runB rfl rfl (r_gtI rfl rfl rfl rfl) ?_ ?_
            · intro h40
              replace h40 := of_decide_eq_true h40
              refine u rfl rfl mv ?_
              refine u rfl rfl mv ?_
              refine u rfl rfl (fA 14 1) ?_
              refine u rfl rfl ld ?_
              refine u rfl rfl ln0 ?_
              refine JR.runB rfl rfl (r_leI rfl rfl rfl rfl) ?_ ?_
              · intro h46
                replace h46 := of_decide_eq_true h46
                obtain ⟨p, hp2⟩ := get_some3 (l := e.pats) (i := i - 1) (by omega)
                conv at hI => rhs; rw [opsD_in (by omega) hp2, insL_some]
                refine u rfl rfl pT ?_
                refine jd ?_
                refine J_weak [(1, _), (2, _), (4, _), (5, _), (6, _), (32, _), (33, _), (34, _), (35, _), (36, _), (39, _), (40, _), (41, _), (42, _), (43, _), (44, _), (45, _), (46, _), (47, _), (2002, _)] ⟨rfl, rfl, rfl, rfl, rfl, rfl, rfl, rfl, rfl, rfl, rfl, rfl, rfl, rfl, rfl, rfl, rfl, rfl, rfl, rfl, trivial⟩ ?_
                refine J_condT rfl ?_
                refine js ?_
                refine u rfl rfl (fA 14 1) ?_
                refine u rfl rfl ld ?_
                refine u rfl rfl mv ?_
                refine u rfl rfl (r_subI rfl rfl rfl rfl (by omega)) ?_
                refine u rfl rfl (r_indexAddr (e := 54) (sz := 7) rfl rfl (by kernel_rfl) rfl rfl (by omega) ((show (pasD e.pats)[((i : Int) - 1).toNat]? = some (paX p) from (by rw [show ((i : Int) - 1).toNat = ((i - 1 : Nat) : Int).toNat by omega]; exact pas_at3 hp2)))) ?_
                refine u rfl rfl (fE 1 2) ?_
                refine u rfl rfl (eA 2) ?_
                refine u rfl rfl (r_alloc (x := 2007) (zs := [.int .i64 0, .int .i64 0]) [.lit (.int .i64 0), .lit (.int .i64 0)] rfl rfl rfl (by kernel_rfl) ⟨.refl _, .refl _, trivial⟩) ?_
                refine u rfl rfl sA ?_
                refine jd ?_
                refine J_weak [(1, _), (2, _), (4, _), (5, _), (6, _), (7, _), (32, _), (33, _), (34, _), (35, _), (36, _), (39, _), (40, _), (41, _), (42, _), (43, _), (44, _), (45, _), (46, _), (47, _), (48, _), (49, _), (50, _), (51, _), (52, _), (53, _), (54, _), (2002, _), (2007, _)] ⟨rfl, rfl, rfl, rfl, rfl, rfl, rfl, rfl, rfl, rfl, rfl, rfl, rfl, rfl, rfl, rfl, rfl, rfl, rfl, rfl, rfl, rfl, rfl, rfl, rfl, rfl, rfl, rfl, rfl, trivial⟩ ?_
                refine J_seq ?_
                refine js ?_
                refine u rfl rfl (fA 0 1) ?_
                refine u rfl rfl ld ?_
                refine u rfl rfl mv ?_
                refine JR.runB rfl rfl (r_ltI rfl rfl rfl rfl) ?_ ?_
                · intro h58
                  replace h58 := of_decide_eq_true h58
                  refine u rfl rfl mv ?_
                  refine sk ?_
                  refine sk ?_
                  refine sk ?_
                  refine sk ?_
                  refine sk ?_
                  refine u rfl rfl pT ?_
                  refine jd ?_
                  refine J_weak [(1, _), (2, _), (4, _), (5, _), (6, _), (7, _), (32, _), (33, _), (34, _), (35, _), (36, _), (39, _), (40, _), (41, _), (42, _), (43, _), (44, _), (45, _), (46, _), (47, _), (48, _), (49, _), (50, _), (51, _), (52, _), (53, _), (54, _), (55, _), (56, _), (57, _), (58, _), (59, _), (65, _), (2002, _), (2007, _)] ⟨rfl, rfl, rfl, rfl, rfl, rfl, rfl, rfl, rfl, rfl, rfl, rfl, rfl, rfl, rfl, rfl, rfl, rfl, rfl, rfl, rfl, rfl, rfl, rfl, rfl, rfl, rfl, rfl, rfl, rfl, rfl, rfl, rfl, rfl, rfl, trivial⟩ ?_
                  refine J_condT rfl ?_
                  refine js ?_
                  refine u rfl rfl asg ?_
                  refine jd ?_
                  refine J_weak [(1, _), (2, _), (4, _), (5, _), (6, _), (7, _), (32, _), (33, _), (34, _), (35, _), (36, _), (39, _), (40, _), (41, _), (42, _), (43, _), (44, _), (45, _), (46, _), (47, _), (48, _), (49, _), (50, _), (51, _), (52, _), (53, _), (54, _), (55, _), (56, _), (57, _), (58, _), (59, _), (65, _), (2002, _), (2007, _)] ⟨rfl, rfl, rfl, rfl, rfl, rfl, rfl, rfl, rfl, rfl, rfl, rfl, rfl, rfl, rfl, rfl, rfl, rfl, rfl, rfl, rfl, rfl, rfl, rfl, rfl, rfl, rfl, rfl, rfl, rfl, rfl, rfl, rfl, rfl, rfl, trivial⟩ ?_
                  refine J_ret ?_
                  refine ⟨.inl rfl, _, rfl, .ofB ?_, trivial⟩
                  rw [hI]
                  simp only [show decide (s1 ≤ p.fr) = false from decide_eq_false (by omega), Bool.false_and, Bool.and_false]
                · intro h58
                  replace h58 := of_decide_eq_false h58
                  refine u rfl rfl mv ?_
                  refine u rfl rfl (fA 1 1) ?_
                  refine u rfl rfl ld ?_
                  refine u rfl rfl (fA 0 1) ?_
                  refine u rfl rfl ld ?_
                  refine JR.runB rfl rfl (r_leI rfl rfl rfl rfl) ?_ ?_
                  · intro h64
                    replace h64 := of_decide_eq_true h64
                    refine u rfl rfl pF ?_
                    refine jd ?_
                    refine J_weak [(1, _), (2, _), (4, _), (5, _), (6, _), (7, _), (32, _), (33, _), (34, _), (35, _), (36, _), (39, _), (40, _), (41, _), (42, _), (43, _), (44, _), (45, _), (46, _), (47, _), (48, _), (49, _), (50, _), (51, _), (52, _), (53, _), (54, _), (55, _), (56, _), (57, _), (58, _), (59, _), (60, _), (61, _), (62, _), (63, _), (64, _), (65, _), (2002, _), (2007, _)] ⟨rfl, rfl, rfl, rfl, rfl, rfl, rfl, rfl, rfl, rfl, rfl, rfl, rfl, rfl, rfl, rfl, rfl, rfl, rfl, rfl, rfl, rfl, rfl, rfl, rfl, rfl, rfl, rfl, rfl, rfl, rfl, rfl, rfl, rfl, rfl, rfl, rfl, rfl, rfl, rfl, trivial⟩ ?_
                    refine J_condT rfl ?_
                    refine js ?_
                    refine u rfl rfl asg ?_
                    refine jd ?_
                    refine J_weak [(1, _), (2, _), (4, _), (5, _), (6, _), (7, _), (32, _), (33, _), (34, _), (35, _), (36, _), (39, _), (40, _), (41, _), (42, _), (43, _), (44, _), (45, _), (46, _), (47, _), (48, _), (49, _), (50, _), (51, _), (52, _), (53, _), (54, _), (55, _), (56, _), (57, _), (58, _), (59, _), (60, _), (61, _), (62, _), (63, _), (64, _), (65, _), (2002, _), (2007, _)] ⟨rfl, rfl, rfl, rfl, rfl, rfl, rfl, rfl, rfl, rfl, rfl, rfl, rfl, rfl, rfl, rfl, rfl, rfl, rfl, rfl, rfl, rfl, rfl, rfl, rfl, rfl, rfl, rfl, rfl, rfl, rfl, rfl, rfl, rfl, rfl, rfl, rfl, rfl, rfl, rfl, trivial⟩ ?_
                    refine J_ret ?_
                    refine ⟨.inl rfl, _, rfl, .ofB ?_, trivial⟩
                    rw [hI]
                    simp only [show decide (p.fr < p.to) = false from decide_eq_false (by omega), Bool.false_and, Bool.and_false]
                  · intro h64
                    replace h64 := of_decide_eq_false h64
                    refine u rfl rfl pF ?_
                    refine jd ?_
                    refine J_weak [(1, _), (2, _), (4, _), (5, _), (6, _), (7, _), (32, _), (33, _), (34, _), (35, _), (36, _), (39, _), (40, _), (41, _), (42, _), (43, _), (44, _), (45, _), (46, _), (47, _), (48, _), (49, _), (50, _), (51, _), (52, _), (53, _), (54, _), (55, _), (56, _), (57, _), (58, _), (59, _), (60, _), (61, _), (62, _), (63, _), (64, _), (65, _), (2002, _), (2007, _)] ⟨rfl, rfl, rfl, rfl, rfl, rfl, rfl, rfl, rfl, rfl, rfl, rfl, rfl, rfl, rfl, rfl, rfl, rfl, rfl, rfl, rfl, rfl, rfl, rfl, rfl, rfl, rfl, rfl, rfl, rfl, rfl, rfl, rfl, rfl, rfl, rfl, rfl, rfl, rfl, rfl, trivial⟩ ?_
                    refine J_condF rfl ?_
                    refine J_skip ?_
                    refine JR.start ?_
                    refine u rfl rfl (fA 1 1) ?_
                    refine u rfl rfl ld ?_
                    refine u rfl rfl asg ?_
                    refine jd ?_
                    refine J_weak [(1, _), (2, _), (4, _), (5, _), (6, _), (7, _), (32, _), (33, _), (34, _), (35, _), (36, _), (39, _), (40, _), (41, _), (42, _), (43, _), (44, _), (45, _), (46, _), (47, _), (48, _), (49, _), (50, _), (51, _), (52, _), (53, _), (54, _), (55, _), (56, _), (57, _), (58, _), (59, _), (60, _), (61, _), (62, _), (63, _), (64, _), (65, _), (66, _), (67, _), (2002, _), (2007, _)] ⟨rfl, rfl, rfl, rfl, rfl, rfl, rfl, rfl, rfl, rfl, rfl, rfl, rfl, rfl, rfl, rfl, rfl, rfl, rfl, rfl, rfl, rfl, rfl, rfl, rfl, rfl, rfl, rfl, rfl, rfl, rfl, rfl, rfl, rfl, rfl, rfl, rfl, rfl, rfl, rfl, rfl, rfl, trivial⟩ ?_
                    refine js ?_
                    refine u rfl rfl (fA 15 1) ?_
                    refine u rfl rfl ld ?_
                    refine u rfl rfl mv ?_
                    refine u rfl rfl (r_indexAddr (e := 31) (sz := 16) rfl rfl (by kernel_rfl) rfl rfl (by omega) (exs_at3 hx)) ?_
                    refine u rfl rfl (eA 16) ?_
                    refine u rfl rfl (r_alloc (x := 2008) (zs := zx) dx rfl rfl rfl (by kernel_rfl) kx) ?_
                    refine u rfl rfl sA ?_
                    refine jd ?_
                    refine J_weak [(1, _), (2, _), (4, _), (5, _), (6, _), (7, _), (8, _), (32, _), (33, _), (34, _), (35, _), (36, _), (39, _), (40, _), (41, _), (42, _), (43, _), (44, _), (45, _), (46, _), (47, _), (48, _), (49, _), (50, _), (51, _), (52, _), (53, _), (54, _), (55, _), (56, _), (57, _), (58, _), (59, _), (60, _), (61, _), (62, _), (63, _), (64, _), (65, _), (66, _), (67, _), (68, _), (69, _), (70, _), (71, _), (72, _), (2002, _), (2007, _), (2008, _)] ⟨rfl, rfl, rfl, rfl, rfl, rfl, rfl, rfl, rfl, rfl, rfl, rfl, rfl, rfl, rfl, rfl, rfl, rfl, rfl, rfl, rfl, rfl, rfl, rfl, rfl, rfl, rfl, rfl, rfl, rfl, rfl, rfl, rfl, rfl, rfl, rfl, rfl, rfl, rfl, rfl, rfl, rfl, rfl, rfl, rfl, rfl, rfl, rfl, rfl, trivial⟩ ?_
                    refine J_seq ?_
                    refine js ?_
                    refine u rfl rfl (fA 1 2) ?_
                    refine u rfl rfl (fA 0 1) ?_
                    refine u rfl rfl ld ?_
                    refine u rfl rfl mv ?_
                    refine JR.runB rfl rfl (r_ltI rfl rfl rfl rfl) ?_ ?_
                    · intro h77
                      replace h77 := of_decide_eq_true h77
                      refine u rfl rfl mv ?_
                      refine sk ?_
                      refine sk ?_
                      refine sk ?_
                      refine sk ?_
                      refine sk ?_
                      refine sk ?_
                      refine sk ?_
                      refine u rfl rfl pT ?_
                      refine u rfl rfl mv ?_
                      refine sk ?_
                      refine sk ?_
                      refine sk ?_
                      refine sk ?_
                      refine u rfl rfl pT ?_
                      refine jd ?_
                      refine J_weak [(1, _), (2, _), (4, _), (5, _), (6, _), (7, _), (8, _), (32, _), (33, _), (34, _), (35, _), (36, _), (39, _), (40, _), (41, _), (42, _), (43, _), (44, _), (45, _), (46, _), (47, _), (48, _), (49, _), (50, _), (51, _), (52, _), (53, _), (54, _), (55, _), (56, _), (57, _), (58, _), (59, _), (60, _), (61, _), (62, _), (63, _), (64, _), (65, _), (66, _), (67, _), (68, _), (69, _), (70, _), (71, _), (72, _), (73, _), (74, _), (75, _), (76, _), (77, _), (78, _), (86, _), (87, _), (92, _), (2002, _), (2007, _), (2008, _)] ⟨rfl, rfl, rfl, rfl, rfl, rfl, rfl, rfl, rfl, rfl, rfl, rfl, rfl, rfl, rfl, rfl, rfl, rfl, rfl, rfl, rfl, rfl, rfl, rfl, rfl, rfl, rfl, rfl, rfl, rfl, rfl, rfl, rfl, rfl, rfl, rfl, rfl, rfl, rfl, rfl, rfl, rfl, rfl, rfl, rfl, rfl, rfl, rfl, rfl, rfl, rfl, rfl, rfl, rfl, rfl, rfl, rfl, rfl, trivial⟩ ?_
                      refine J_condT rfl ?_
                      refine js ?_
                      refine u rfl rfl asg ?_
                      refine jd ?_
                      refine J_weak [(1, _), (2, _), (4, _), (5, _), (6, _), (7, _), (8, _), (32, _), (33, _), (34, _), (35, _), (36, _), (39, _), (40, _), (41, _), (42, _), (43, _), (44, _), (45, _), (46, _), (47, _), (48, _), (49, _), (50, _), (51, _), (52, _), (53, _), (54, _), (55, _), (56, _), (57, _), (58, _), (59, _), (60, _), (61, _), (62, _), (63, _), (64, _), (65, _), (66, _), (67, _), (68, _), (69, _), (70, _), (71, _), (72, _), (73, _), (74, _), (75, _), (76, _), (77, _), (78, _), (86, _), (87, _), (92, _), (2002, _), (2007, _), (2008, _)] ⟨rfl, rfl, rfl, rfl, rfl, rfl, rfl, rfl, rfl, rfl, rfl, rfl, rfl, rfl, rfl, rfl, rfl, rfl, rfl, rfl, rfl, rfl, rfl, rfl, rfl, rfl, rfl, rfl, rfl, rfl, rfl, rfl, rfl, rfl, rfl, rfl, rfl, rfl, rfl, rfl, rfl, rfl, rfl, rfl, rfl, rfl, rfl, rfl, rfl, rfl, rfl, rfl, rfl, rfl, rfl, rfl, rfl, rfl, trivial⟩ ?_
                      refine J_ret ?_
                      refine ⟨.inl rfl, _, rfl, .ofB ?_, trivial⟩
                      rw [hI]
                      simp only [show decide (p.to ≤ x.fr) = false from decide_eq_false (by omega), Bool.false_and, Bool.and_false]
                    · intro h77
                      replace h77 := of_decide_eq_false h77
                      refine u rfl rfl mv ?_
                      refine u rfl rfl (fA 1 2) ?_
                      refine u rfl rfl (fA 1 1) ?_
                      refine u rfl rfl ld ?_
                      refine u rfl rfl (fA 1 2) ?_
                      refine u rfl rfl (fA 1 1) ?_
                      refine u rfl rfl ld ?_
                      refine JR.runB rfl rfl (r_gtI rfl rfl rfl rfl) ?_ ?_
                      · intro h85
                        replace h85 := of_decide_eq_true h85
                        refine u rfl rfl pF ?_
                        refine u rfl rfl mv ?_
                        refine sk ?_
                        refine sk ?_
                        refine sk ?_
                        refine sk ?_
                        refine u rfl rfl pT ?_
                        refine jd ?_
                        refine J_weak [(1, _), (2, _), (4, _), (5, _), (6, _), (7, _), (8, _), (32, _), (33, _), (34, _), (35, _), (36, _), (39, _), (40, _), (41, _), (42, _), (43, _), (44, _), (45, _), (46, _), (47, _), (48, _), (49, _), (50, _), (51, _), (52, _), (53, _), (54, _), (55, _), (56, _), (57, _), (58, _), (59, _), (60, _), (61, _), (62, _), (63, _), (64, _), (65, _), (66, _), (67, _), (68, _), (69, _), (70, _), (71, _), (72, _), (73, _), (74, _), (75, _), (76, _), (77, _), (78, _), (79, _), (80, _), (81, _), (82, _), (83, _), (84, _), (85, _), (86, _), (87, _), (92, _), (2002, _), (2007, _), (2008, _)] ⟨rfl, rfl, rfl, rfl, rfl, rfl, rfl, rfl, rfl, rfl, rfl, rfl, rfl, rfl, rfl, rfl, rfl, rfl, rfl, rfl, rfl, rfl, rfl, rfl, rfl, rfl, rfl, rfl, rfl, rfl, rfl, rfl, rfl, rfl, rfl, rfl, rfl, rfl, rfl, rfl, rfl, rfl, rfl, rfl, rfl, rfl, rfl, rfl, rfl, rfl, rfl, rfl, rfl, rfl, rfl, rfl, rfl, rfl, rfl, rfl, rfl, rfl, rfl, rfl, rfl, trivial⟩ ?_
                        refine J_condT rfl ?_
                        refine js ?_
                        refine u rfl rfl asg ?_
                        refine jd ?_
                        refine J_weak [(1, _), (2, _), (4, _), (5, _), (6, _), (7, _), (8, _), (32, _), (33, _), (34, _), (35, _), (36, _), (39, _), (40, _), (41, _), (42, _), (43, _), (44, _), (45, _), (46, _), (47, _), (48, _), (49, _), (50, _), (51, _), (52, _), (53, _), (54, _), (55, _), (56, _), (57, _), (58, _), (59, _), (60, _), (61, _), (62, _), (63, _), (64, _), (65, _), (66, _), (67, _), (68, _), (69, _), (70, _), (71, _), (72, _), (73, _), (74, _), (75, _), (76, _), (77, _), (78, _), (79, _), (80, _), (81, _), (82, _), (83, _), (84, _), (85, _), (86, _), (87, _), (92, _), (2002, _), (2007, _), (2008, _)] ⟨rfl, rfl, rfl, rfl, rfl, rfl, rfl, rfl, rfl, rfl, rfl, rfl, rfl, rfl, rfl, rfl, rfl, rfl, rfl, rfl, rfl, rfl, rfl, rfl, rfl, rfl, rfl, rfl, rfl, rfl, rfl, rfl, rfl, rfl, rfl, rfl, rfl, rfl, rfl, rfl, rfl, rfl, rfl, rfl, rfl, rfl, rfl, rfl, rfl, rfl, rfl, rfl, rfl, rfl, rfl, rfl, rfl, rfl, rfl, rfl, rfl, rfl, rfl, rfl, rfl, trivial⟩ ?_
                        refine J_ret ?_
                        refine ⟨.inl rfl, _, rfl, .ofB ?_, trivial⟩
                        rw [hI]
                        simp only [show decide (x.to ≤ e.to) = false from decide_eq_false (by omega), Bool.false_and, Bool.and_false]
                      · intro h85
                        replace h85 := of_decide_eq_false h85
                        refine u rfl rfl pF ?_
                        refine u rfl rfl mv ?_
                        refine u rfl rfl (lA 16) ?_
                        refine u rfl rfl mv ?_
                        refine JR.runC rfl rfl (cl (hcx)) rfl ?_ ?_
                        · intro h90
                          refine u rfl rfl nt ?_
                          refine u rfl rfl pF ?_
                          refine jd ?_
                          refine J_weak [(1, _), (2, _), (4, _), (5, _), (6, _), (7, _), (8, _), (32, _), (33, _), (34, _), (35, _), (36, _), (39, _), (40, _), (41, _), (42, _), (43, _), (44, _), (45, _), (46, _), (47, _), (48, _), (49, _), (50, _), (51, _), (52, _), (53, _), (54, _), (55, _), (56, _), (57, _), (58, _), (59, _), (60, _), (61, _), (62, _), (63, _), (64, _), (65, _), (66, _), (67, _), (68, _), (69, _), (70, _), (71, _), (72, _), (73, _), (74, _), (75, _), (76, _), (77, _), (78, _), (79, _), (80, _), (81, _), (82, _), (83, _), (84, _), (85, _), (86, _), (87, _), (88, _), (89, _), (90, _), (91, _), (92, _), (2002, _), (2007, _), (2008, _)] ⟨rfl, rfl, rfl, rfl, rfl, rfl, rfl, rfl, rfl, rfl, rfl, rfl, rfl, rfl, rfl, rfl, rfl, rfl, rfl, rfl, rfl, rfl, rfl, rfl, rfl, rfl, rfl, rfl, rfl, rfl, rfl, rfl, rfl, rfl, rfl, rfl, rfl, rfl, rfl, rfl, rfl, rfl, rfl, rfl, rfl, rfl, rfl, rfl, rfl, rfl, rfl, rfl, rfl, rfl, rfl, rfl, rfl, rfl, rfl, rfl, rfl, rfl, rfl, rfl, rfl, rfl, rfl, rfl, rfl, trivial⟩ ?_
                          refine J_condF rfl ?_
                          refine J_skip ?_
                          refine JR.start ?_
                          refine u rfl rfl (fA 1 2) ?_
                          refine u rfl rfl (fA 1 1) ?_
                          refine u rfl rfl ld ?_
                          refine u rfl rfl asg ?_
                          refine jd ?_
                          refine J_weak [(1, _), (2, _), (4, _), (5, _), (6, _), (7, _), (8, _), (32, _), (33, _), (34, _), (35, _), (36, _), (39, _), (40, _), (41, _), (42, _), (43, _), (44, _), (45, _), (46, _), (47, _), (48, _), (49, _), (50, _), (51, _), (52, _), (53, _), (54, _), (55, _), (56, _), (57, _), (58, _), (59, _), (60, _), (61, _), (62, _), (63, _), (64, _), (65, _), (66, _), (67, _), (68, _), (69, _), (70, _), (71, _), (72, _), (73, _), (74, _), (75, _), (76, _), (77, _), (78, _), (79, _), (80, _), (81, _), (82, _), (83, _), (84, _), (85, _), (86, _), (87, _), (88, _), (89, _), (90, _), (91, _), (92, _), (93, _), (94, _), (95, _), (2002, _), (2007, _), (2008, _)] ⟨rfl, rfl, rfl, rfl, rfl, rfl, rfl, rfl, rfl, rfl, rfl, rfl, rfl, rfl, rfl, rfl, rfl, rfl, rfl, rfl, rfl, rfl, rfl, rfl, rfl, rfl, rfl, rfl, rfl, rfl, rfl, rfl, rfl, rfl, rfl, rfl, rfl, rfl, rfl, rfl, rfl, rfl, rfl, rfl, rfl, rfl, rfl, rfl, rfl, rfl, rfl, rfl, rfl, rfl, rfl, rfl, rfl, rfl, rfl, rfl, rfl, rfl, rfl, rfl, rfl, rfl, rfl, rfl, rfl, rfl, rfl, rfl, trivial⟩ ?_
                          refine JR.start ?_
                          refine u rfl rfl mv ?_
                          refine u rfl rfl (r_addI rfl rfl rfl rfl (by omega)) ?_
                          refine u rfl rfl asg ?_
                          refine jd ?_
                          rw [h90] at hI
                          simp only [show decide (s1 ≤ p.fr) = true from decide_eq_true (by omega), show decide (p.fr < p.to) = true from decide_eq_true (by omega), show decide (p.to ≤ x.fr) = true from decide_eq_true (by omega), show decide (x.to ≤ e.to) = true from decide_eq_true (by omega), Bool.true_and] at hI
                          refine ⟨⟨(i + 1, x.to), by dsimp only; omega, hI⟩, by dsimp only; omega, rfl, rfl, rfl, rfl, rfl, rfl, trivial⟩
                        · intro h90
                          refine u rfl rfl nt ?_
                          refine u rfl rfl pF ?_
                          refine jd ?_
                          refine J_weak [(1, _), (2, _), (4, _), (5, _), (6, _), (7, _), (8, _), (32, _), (33, _), (34, _), (35, _), (36, _), (39, _), (40, _), (41, _), (42, _), (43, _), (44, _), (45, _), (46, _), (47, _), (48, _), (49, _), (50, _), (51, _), (52, _), (53, _), (54, _), (55, _), (56, _), (57, _), (58, _), (59, _), (60, _), (61, _), (62, _), (63, _), (64, _), (65, _), (66, _), (67, _), (68, _), (69, _), (70, _), (71, _), (72, _), (73, _), (74, _), (75, _), (76, _), (77, _), (78, _), (79, _), (80, _), (81, _), (82, _), (83, _), (84, _), (85, _), (86, _), (87, _), (88, _), (89, _), (90, _), (91, _), (92, _), (2002, _), (2007, _), (2008, _)] ⟨rfl, rfl, rfl, rfl, rfl, rfl, rfl, rfl, rfl, rfl, rfl, rfl, rfl, rfl, rfl, rfl, rfl, rfl, rfl, rfl, rfl, rfl, rfl, rfl, rfl, rfl, rfl, rfl, rfl, rfl, rfl, rfl, rfl, rfl, rfl, rfl, rfl, rfl, rfl, rfl, rfl, rfl, rfl, rfl, rfl, rfl, rfl, rfl, rfl, rfl, rfl, rfl, rfl, rfl, rfl, rfl, rfl, rfl, rfl, rfl, rfl, rfl, rfl, rfl, rfl, rfl, rfl, rfl, rfl, trivial⟩ ?_
                          refine J_condT rfl ?_
                          refine js ?_
                          refine u rfl rfl asg ?_
                          refine jd ?_
                          refine J_weak [(1, _), (2, _), (4, _), (5, _), (6, _), (7, _), (8, _), (32, _), (33, _), (34, _), (35, _), (36, _), (39, _), (40, _), (41, _), (42, _), (43, _), (44, _), (45, _), (46, _), (47, _), (48, _), (49, _), (50, _), (51, _), (52, _), (53, _), (54, _), (55, _), (56, _), (57, _), (58, _), (59, _), (60, _), (61, _), (62, _), (63, _), (64, _), (65, _), (66, _), (67, _), (68, _), (69, _), (70, _), (71, _), (72, _), (73, _), (74, _), (75, _), (76, _), (77, _), (78, _), (79, _), (80, _), (81, _), (82, _), (83, _), (84, _), (85, _), (86, _), (87, _), (88, _), (89, _), (90, _), (91, _), (92, _), (2002, _), (2007, _), (2008, _)] ⟨rfl, rfl, rfl, rfl, rfl, rfl, rfl, rfl, rfl, rfl, rfl, rfl, rfl, rfl, rfl, rfl, rfl, rfl, rfl, rfl, rfl, rfl, rfl, rfl, rfl, rfl, rfl, rfl, rfl, rfl, rfl, rfl, rfl, rfl, rfl, rfl, rfl, rfl, rfl, rfl, rfl, rfl, rfl, rfl, rfl, rfl, rfl, rfl, rfl, rfl, rfl, rfl, rfl, rfl, rfl, rfl, rfl, rfl, rfl, rfl, rfl, rfl, rfl, rfl, rfl, rfl, rfl, rfl, rfl, trivial⟩ ?_
                          refine J_ret ?_
                          refine ⟨.inl rfl, _, rfl, .ofB ?_, trivial⟩
                          rw [hI]
                          simp only [h90, Bool.false_and, Bool.and_false]
              · intro h46
                replace h46 := of_decide_eq_false h46
                conv at hI => rhs; rw [opsD_out (pats := e.pats) (i := i) (by omega), insL_none, ← opsD_out (pats := e.pats) (i := i + 1) (by omega)]
                refine u rfl rfl pT ?_
                refine jd ?_
                refine J_weak [(1, _), (2, _), (4, _), (5, _), (6, _), (32, _), (33, _), (34, _), (35, _), (36, _), (39, _), (40, _), (41, _), (42, _), (43, _), (44, _), (45, _), (46, _), (47, _), (2002, _)] ⟨rfl, rfl, rfl, rfl, rfl, rfl, rfl, rfl, rfl, rfl, rfl, rfl, rfl, rfl, rfl, rfl, rfl, rfl, rfl, rfl, trivial⟩ ?_
                refine J_condF rfl ?_
                refine J_skip ?_
                refine js ?_
                refine u rfl rfl (fA 15 1) ?_
                refine u rfl rfl ld ?_
                refine u rfl rfl mv ?_
                refine u rfl rfl (r_indexAddr (e := 31) (sz := 16) rfl rfl (by kernel_rfl) rfl rfl (by omega) (exs_at3 hx)) ?_
                refine u rfl rfl (eA 16) ?_
                refine u rfl rfl (r_alloc (x := 2008) (zs := zx) dx rfl rfl rfl (by kernel_rfl) kx) ?_
                refine u rfl rfl sA ?_
                refine jd ?_
                refine J_weak [(1, _), (2, _), (4, _), (5, _), (6, _), (8, _), (32, _), (33, _), (34, _), (35, _), (36, _), (39, _), (40, _), (41, _), (42, _), (43, _), (44, _), (45, _), (46, _), (47, _), (68, _), (69, _), (70, _), (71, _), (72, _), (2002, _), (2008, _)] ⟨rfl, rfl, rfl, rfl, rfl, rfl, rfl, rfl, rfl, rfl, rfl, rfl, rfl, rfl, rfl, rfl, rfl, rfl, rfl, rfl, rfl, rfl, rfl, rfl, rfl, rfl, rfl, trivial⟩ ?_
                refine J_seq ?_
                refine js ?_
                refine u rfl rfl (fA 1 2) ?_
                refine u rfl rfl (fA 0 1) ?_
                refine u rfl rfl ld ?_
                refine u rfl rfl mv ?_
                refine JR.runB rfl rfl (r_ltI rfl rfl rfl rfl) ?_ ?_
                · intro h77
                  replace h77 := of_decide_eq_true h77
                  refine u rfl rfl mv ?_
                  refine sk ?_
                  refine sk ?_
                  refine sk ?_
                  refine sk ?_
                  refine sk ?_
                  refine sk ?_
                  refine sk ?_
                  refine u rfl rfl pT ?_
                  refine u rfl rfl mv ?_
                  refine sk ?_
                  refine sk ?_
                  refine sk ?_
                  refine sk ?_
                  refine u rfl rfl pT ?_
                  refine jd ?_
                  refine J_weak [(1, _), (2, _), (4, _), (5, _), (6, _), (8, _), (32, _), (33, _), (34, _), (35, _), (36, _), (39, _), (40, _), (41, _), (42, _), (43, _), (44, _), (45, _), (46, _), (47, _), (68, _), (69, _), (70, _), (71, _), (72, _), (73, _), (74, _), (75, _), (76, _), (77, _), (78, _), (86, _), (87, _), (92, _), (2002, _), (2008, _)] ⟨rfl, rfl, rfl, rfl, rfl, rfl, rfl, rfl, rfl, rfl, rfl, rfl, rfl, rfl, rfl, rfl, rfl, rfl, rfl, rfl, rfl, rfl, rfl, rfl, rfl, rfl, rfl, rfl, rfl, rfl, rfl, rfl, rfl, rfl, rfl, rfl, trivial⟩ ?_
                  refine J_condT rfl ?_
                  refine js ?_
                  refine u rfl rfl asg ?_
                  refine jd ?_
                  refine J_weak [(1, _), (2, _), (4, _), (5, _), (6, _), (8, _), (32, _), (33, _), (34, _), (35, _), (36, _), (39, _), (40, _), (41, _), (42, _), (43, _), (44, _), (45, _), (46, _), (47, _), (68, _), (69, _), (70, _), (71, _), (72, _), (73, _), (74, _), (75, _), (76, _), (77, _), (78, _), (86, _), (87, _), (92, _), (2002, _), (2008, _)] ⟨rfl, rfl, rfl, rfl, rfl, rfl, rfl, rfl, rfl, rfl, rfl, rfl, rfl, rfl, rfl, rfl, rfl, rfl, rfl, rfl, rfl, rfl, rfl, rfl, rfl, rfl, rfl, rfl, rfl, rfl, rfl, rfl, rfl, rfl, rfl, rfl, trivial⟩ ?_
                  refine J_ret ?_
                  refine ⟨.inl rfl, _, rfl, .ofB ?_, trivial⟩
                  rw [hI]
                  simp only [show decide (s1 ≤ x.fr) = false from decide_eq_false (by omega), Bool.false_and, Bool.and_false]
                · intro h77
                  replace h77 := of_decide_eq_false h77
                  refine u rfl rfl mv ?_
                  refine u rfl rfl (fA 1 2) ?_
                  refine u rfl rfl (fA 1 1) ?_
                  refine u rfl rfl ld ?_
                  refine u rfl rfl (fA 1 2) ?_
                  refine u rfl rfl (fA 1 1) ?_
                  refine u rfl rfl ld ?_
                  refine JR.runB rfl rfl (r_gtI rfl rfl rfl rfl) ?_ ?_
                  · intro h85
                    replace h85 := of_decide_eq_true h85
                    refine u rfl rfl pF ?_
                    refine u rfl rfl mv ?_
                    refine sk ?_
                    refine sk ?_
                    refine sk ?_
                    refine sk ?_
                    refine u rfl rfl pT ?_
                    refine jd ?_
                    refine J_weak [(1, _), (2, _), (4, _), (5, _), (6, _), (8, _), (32, _), (33, _), (34, _), (35, _), (36, _), (39, _), (40, _), (41, _), (42, _), (43, _), (44, _), (45, _), (46, _), (47, _), (68, _), (69, _), (70, _), (71, _), (72, _), (73, _), (74, _), (75, _), (76, _), (77, _), (78, _), (79, _), (80, _), (81, _), (82, _), (83, _), (84, _), (85, _), (86, _), (87, _), (92, _), (2002, _), (2008, _)] ⟨rfl, rfl, rfl, rfl, rfl, rfl, rfl, rfl, rfl, rfl, rfl, rfl, rfl, rfl, rfl, rfl, rfl, rfl, rfl, rfl, rfl, rfl, rfl, rfl, rfl, rfl, rfl, rfl, rfl, rfl, rfl, rfl, rfl, rfl, rfl, rfl, rfl, rfl, rfl, rfl, rfl, rfl, rfl, trivial⟩ ?_
                    refine J_condT rfl ?_
                    refine js ?_
                    refine u rfl rfl asg ?_
                    refine jd ?_
                    refine J_weak [(1, _), (2, _), (4, _), (5, _), (6, _), (8, _), (32, _), (33, _), (34, _), (35, _), (36, _), (39, _), (40, _), (41, _), (42, _), (43, _), (44, _), (45, _), (46, _), (47, _), (68, _), (69, _), (70, _), (71, _), (72, _), (73, _), (74, _), (75, _), (76, _), (77, _), (78, _), (79, _), (80, _), (81, _), (82, _), (83, _), (84, _), (85, _), (86, _), (87, _), (92, _), (2002, _), (2008, _)] ⟨rfl, rfl, rfl, rfl, rfl, rfl, rfl, rfl, rfl, rfl, rfl, rfl, rfl, rfl, rfl, rfl, rfl, rfl, rfl, rfl, rfl, rfl, rfl, rfl, rfl, rfl, rfl, rfl, rfl, rfl, rfl, rfl, rfl, rfl, rfl, rfl, rfl, rfl, rfl, rfl, rfl, rfl, rfl, trivial⟩ ?_
                    refine J_ret ?_
                    refine ⟨.inl rfl, _, rfl, .ofB ?_, trivial⟩
                    rw [hI]
                    simp only [show decide (x.to ≤ e.to) = false from decide_eq_false (by omega), Bool.false_and, Bool.and_false]
                  · intro h85
                    replace h85 := of_decide_eq_false h85
                    refine u rfl rfl pF ?_
                    refine u rfl rfl mv ?_
                    refine u rfl rfl (lA 16) ?_
                    refine u rfl rfl mv ?_
                    refine JR.runC rfl rfl (cl (hcx)) rfl ?_ ?_
                    · intro h90
                      refine u rfl rfl nt ?_
                      refine u rfl rfl pF ?_
                      refine jd ?_
                      refine J_weak [(1, _), (2, _), (4, _), (5, _), (6, _), (8, _), (32, _), (33, _), (34, _), (35, _), (36, _), (39, _), (40, _), (41, _), (42, _), (43, _), (44, _), (45, _), (46, _), (47, _), (68, _), (69, _), (70, _), (71, _), (72, _), (73, _), (74, _), (75, _), (76, _), (77, _), (78, _), (79, _), (80, _), (81, _), (82, _), (83, _), (84, _), (85, _), (86, _), (87, _), (88, _), (89, _), (90, _), (91, _), (92, _), (2002, _), (2008, _)] ⟨rfl, rfl, rfl, rfl, rfl, rfl, rfl, rfl, rfl, rfl, rfl, rfl, rfl, rfl, rfl, rfl, rfl, rfl, rfl, rfl, rfl, rfl, rfl, rfl, rfl, rfl, rfl, rfl, rfl, rfl, rfl, rfl, rfl, rfl, rfl, rfl, rfl, rfl, rfl, rfl, rfl, rfl, rfl, rfl, rfl, rfl, rfl, trivial⟩ ?_
                      refine J_condF rfl ?_
                      refine J_skip ?_
                      refine JR.start ?_
                      refine u rfl rfl (fA 1 2) ?_
                      refine u rfl rfl (fA 1 1) ?_
                      refine u rfl rfl ld ?_
                      refine u rfl rfl asg ?_
                      refine jd ?_
                      refine J_weak [(1, _), (2, _), (4, _), (5, _), (6, _), (8, _), (32, _), (33, _), (34, _), (35, _), (36, _), (39, _), (40, _), (41, _), (42, _), (43, _), (44, _), (45, _), (46, _), (47, _), (68, _), (69, _), (70, _), (71, _), (72, _), (73, _), (74, _), (75, _), (76, _), (77, _), (78, _), (79, _), (80, _), (81, _), (82, _), (83, _), (84, _), (85, _), (86, _), (87, _), (88, _), (89, _), (90, _), (91, _), (92, _), (93, _), (94, _), (95, _), (2002, _), (2008, _)] ⟨rfl, rfl, rfl, rfl, rfl, rfl, rfl, rfl, rfl, rfl, rfl, rfl, rfl, rfl, rfl, rfl, rfl, rfl, rfl, rfl, rfl, rfl, rfl, rfl, rfl, rfl, rfl, rfl, rfl, rfl, rfl, rfl, rfl, rfl, rfl, rfl, rfl, rfl, rfl, rfl, rfl, rfl, rfl, rfl, rfl, rfl, rfl, rfl, rfl, rfl, trivial⟩ ?_
                      refine JR.start ?_
                      refine u rfl rfl mv ?_
                      refine u rfl rfl (r_addI rfl rfl rfl rfl (by omega)) ?_
                      refine u rfl rfl asg ?_
                      refine jd ?_
                      rw [h90] at hI
                      simp only [show decide (s1 ≤ x.fr) = true from decide_eq_true (by omega), show decide (x.to ≤ e.to) = true from decide_eq_true (by omega), Bool.true_and] at hI
                      refine ⟨⟨(i + 1, x.to), by dsimp only; omega, hI⟩, by dsimp only; omega, rfl, rfl, rfl, rfl, rfl, rfl, trivial⟩
                    · intro h90
                      refine u rfl rfl nt ?_
                      refine u rfl rfl pF ?_
                      refine jd ?_
                      refine J_weak [(1, _), (2, _), (4, _), (5, _), (6, _), (8, _), (32, _), (33, _), (34, _), (35, _), (36, _), (39, _), (40, _), (41, _), (42, _), (43, _), (44, _), (45, _), (46, _), (47, _), (68, _), (69, _), (70, _), (71, _), (72, _), (73, _), (74, _), (75, _), (76, _), (77, _), (78, _), (79, _), (80, _), (81, _), (82, _), (83, _), (84, _), (85, _), (86, _), (87, _), (88, _), (89, _), (90, _), (91, _), (92, _), (2002, _), (2008, _)] ⟨rfl, rfl, rfl, rfl, rfl, rfl, rfl, rfl, rfl, rfl, rfl, rfl, rfl, rfl, rfl, rfl, rfl, rfl, rfl, rfl, rfl, rfl, rfl, rfl, rfl, rfl, rfl, rfl, rfl, rfl, rfl, rfl, rfl, rfl, rfl, rfl, rfl, rfl, rfl, rfl, rfl, rfl, rfl, rfl, rfl, rfl, rfl, trivial⟩ ?_
                      refine J_condT rfl ?_
                      refine js ?_
                      refine u rfl rfl asg ?_
                      refine jd ?_
                      refine J_weak [(1, _), (2, _), (4, _), (5, _), (6, _), (8, _), (32, _), (33, _), (34, _), (35, _), (36, _), (39, _), (40, _), (41, _), (42, _), (43, _), (44, _), (45, _), (46, _), (47, _), (68, _), (69, _), (70, _), (71, _), (72, _), (73, _), (74, _), (75, _), (76, _), (77, _), (78, _), (79, _), (80, _), (81, _), (82, _), (83, _), (84, _), (85, _), (86, _), (87, _), (88, _), (89, _), (90, _), (91, _), (92, _), (2002, _), (2008, _)] ⟨rfl, rfl, rfl, rfl, rfl, rfl, rfl, rfl, rfl, rfl, rfl, rfl, rfl, rfl, rfl, rfl, rfl, rfl, rfl, rfl, rfl, rfl, rfl, rfl, rfl, rfl, rfl, rfl, rfl, rfl, rfl, rfl, rfl, rfl, rfl, rfl, rfl, rfl, rfl, rfl, rfl, rfl, rfl, rfl, rfl, rfl, rfl, trivial⟩ ?_
                      refine J_ret ?_
                      refine ⟨.inl rfl, _, rfl, .ofB ?_, trivial⟩
                      rw [hI]
                      simp only [h90, Bool.false_and, Bool.and_false]
            · intro h40
              replace h40 := of_decide_eq_false h40
              have hi0 : i = 0 := by omega
              conv at hI => rhs; rw [opsD_z e.pats hi0, insL_non1]
              refine u rfl rfl mv ?_
              refine sk ?_
              refine sk ?_
              refine sk ?_
              refine sk ?_
              refine sk ?_
              refine u rfl rfl pF ?_
              refine jd ?_
              refine w15 1 2 4 5 6 32 33 34 35 36 39 40 41 47 2002 ?_
              refine J_condF rfl ?_
              refine J_skip ?_
              refine js ?_
              refine u rfl rfl (fA 15 1) ?_
              refine u rfl rfl ld ?_
              refine u rfl rfl mv ?_
              refine u rfl rfl (r_indexAddr (e := 31) (sz := 16) rfl rfl (by kernel_rfl) rfl rfl (by omega) (exs_at3 hx)) ?_
              refine u rfl rfl (eA 16) ?_
              refine u rfl rfl (r_alloc (x := 2008) (zs := zx) dx rfl rfl rfl (by kernel_rfl) kx) ?_
              refine u rfl rfl sA ?_
              refine jd ?_
              refine J_weak [(1, _), (2, _), (4, _), (5, _), (6, _), (8, _), (32, _), (33, _), (34, _), (35, _), (36, _), (39, _), (40, _), (41, _), (47, _), (68, _), (69, _), (70, _), (71, _), (72, _), (2002, _), (2008, _)] ⟨rfl, rfl, rfl, rfl, rfl, rfl, rfl, rfl, rfl, rfl, rfl, rfl, rfl, rfl, rfl, rfl, rfl, rfl, rfl, rfl, rfl, rfl, trivial⟩ ?_
              refine J_seq ?_
              refine js ?_
              refine u rfl rfl (fA 1 2) ?_
              refine u rfl rfl (fA 0 1) ?_
              refine u rfl rfl ld ?_
              refine u rfl rfl mv ?_
              refine JR.runB rfl rfl (r_ltI rfl rfl rfl rfl) ?_ ?_
              · intro h77
                replace h77 := of_decide_eq_true h77
                refine u rfl rfl mv ?_
                refine sk ?_
                refine sk ?_
                refine sk ?_
                refine sk ?_
                refine sk ?_
                refine sk ?_
                refine sk ?_
                refine u rfl rfl pT ?_
                refine u rfl rfl mv ?_
                refine sk ?_
                refine sk ?_
                refine sk ?_
                refine sk ?_
                refine u rfl rfl pT ?_
                refine jd ?_
                refine J_weak [(1, _), (2, _), (4, _), (5, _), (6, _), (8, _), (32, _), (33, _), (34, _), (35, _), (36, _), (39, _), (40, _), (41, _), (47, _), (68, _), (69, _), (70, _), (71, _), (72, _), (73, _), (74, _), (75, _), (76, _), (77, _), (78, _), (86, _), (87, _), (92, _), (2002, _), (2008, _)] ⟨rfl, rfl, rfl, rfl, rfl, rfl, rfl, rfl, rfl, rfl, rfl, rfl, rfl, rfl, rfl, rfl, rfl, rfl, rfl, rfl, rfl, rfl, rfl, rfl, rfl, rfl, rfl, rfl, rfl, rfl, rfl, trivial⟩ ?_
                refine J_condT rfl ?_
                refine js ?_
                refine u rfl rfl asg ?_
                refine jd ?_
                refine J_weak [(1, _), (2, _), (4, _), (5, _), (6, _), (8, _), (32, _), (33, _), (34, _), (35, _), (36, _), (39, _), (40, _), (41, _), (47, _), (68, _), (69, _), (70, _), (71, _), (72, _), (73, _), (74, _), (75, _), (76, _), (77, _), (78, _), (86, _), (87, _), (92, _), (2002, _), (2008, _)] ⟨rfl, rfl, rfl, rfl, rfl, rfl, rfl, rfl, rfl, rfl, rfl, rfl, rfl, rfl, rfl, rfl, rfl, rfl, rfl, rfl, rfl, rfl, rfl, rfl, rfl, rfl, rfl, rfl, rfl, rfl, rfl, trivial⟩ ?_
                refine J_ret ?_
                refine ⟨.inl rfl, _, rfl, .ofB ?_, trivial⟩
                rw [hI]
                simp only [show decide (s1 ≤ x.fr) = false from decide_eq_false (by omega), Bool.false_and, Bool.and_false]
              · intro h77
                replace h77 := of_decide_eq_false h77
                refine u rfl rfl mv ?_
                refine u rfl rfl (fA 1 2) ?_
                refine u rfl rfl (fA 1 1) ?_
                refine u rfl rfl ld ?_
                refine u rfl rfl (fA 1 2) ?_
                refine u rfl rfl (fA 1 1) ?_
                refine u rfl rfl ld ?_
                refine JR.runB rfl rfl (r_gtI rfl rfl rfl rfl) ?_ ?_
                · intro h85
                  replace h85 := of_decide_eq_true h85
                  refine u rfl rfl pF ?_
                  refine u rfl rfl mv ?_
                  refine sk ?_
                  refine sk ?_
                  refine sk ?_
                  refine sk ?_
                  refine u rfl rfl pT ?_
                  refine jd ?_
                  refine J_weak [(1, _), (2, _), (4, _), (5, _), (6, _), (8, _), (32, _), (33, _), (34, _), (35, _), (36, _), (39, _), (40, _), (41, _), (47, _), (68, _), (69, _), (70, _), (71, _), (72, _), (73, _), (74, _), (75, _), (76, _), (77, _), (78, _), (79, _), (80, _), (81, _), (82, _), (83, _), (84, _), (85, _), (86, _), (87, _), (92, _), (2002, _), (2008, _)] ⟨rfl, rfl, rfl, rfl, rfl, rfl, rfl, rfl, rfl, rfl, rfl, rfl, rfl, rfl, rfl, rfl, rfl, rfl, rfl, rfl, rfl, rfl, rfl, rfl, rfl, rfl, rfl, rfl, rfl, rfl, rfl, rfl, rfl, rfl, rfl, rfl, rfl, rfl, trivial⟩ ?_
                  refine J_condT rfl ?_
                  refine js ?_
                  refine u rfl rfl asg ?_
                  refine jd ?_
                  refine J_weak [(1, _), (2, _), (4, _), (5, _), (6, _), (8, _), (32, _), (33, _), (34, _), (35, _), (36, _), (39, _), (40, _), (41, _), (47, _), (68, _), (69, _), (70, _), (71, _), (72, _), (73, _), (74, _), (75, _), (76, _), (77, _), (78, _), (79, _), (80, _), (81, _), (82, _), (83, _), (84, _), (85, _), (86, _), (87, _), (92, _), (2002, _), (2008, _)] ⟨rfl, rfl, rfl, rfl, rfl, rfl, rfl, rfl, rfl, rfl, rfl, rfl, rfl, rfl, rfl, rfl, rfl, rfl, rfl, rfl, rfl, rfl, rfl, rfl, rfl, rfl, rfl, rfl, rfl, rfl, rfl, rfl, rfl, rfl, rfl, rfl, rfl, rfl, trivial⟩ ?_
                  refine J_ret ?_
                  refine ⟨.inl rfl, _, rfl, .ofB ?_, trivial⟩
                  rw [hI]
                  simp only [show decide (x.to ≤ e.to) = false from decide_eq_false (by omega), Bool.false_and, Bool.and_false]
                · intro h85
                  replace h85 := of_decide_eq_false h85
                  refine u rfl rfl pF ?_
                  refine u rfl rfl mv ?_
                  refine u rfl rfl (lA 16) ?_
                  refine u rfl rfl mv ?_
                  refine JR.runC rfl rfl (cl (hcx)) rfl ?_ ?_
                  · intro h90
                    refine u rfl rfl nt ?_
                    refine u rfl rfl pF ?_
                    refine jd ?_
                    refine J_weak [(1, _), (2, _), (4, _), (5, _), (6, _), (8, _), (32, _), (33, _), (34, _), (35, _), (36, _), (39, _), (40, _), (41, _), (47, _), (68, _), (69, _), (70, _), (71, _), (72, _), (73, _), (74, _), (75, _), (76, _), (77, _), (78, _), (79, _), (80, _), (81, _), (82, _), (83, _), (84, _), (85, _), (86, _), (87, _), (88, _), (89, _), (90, _), (91, _), (92, _), (2002, _), (2008, _)] ⟨rfl, rfl, rfl, rfl, rfl, rfl, rfl, rfl, rfl, rfl, rfl, rfl, rfl, rfl, rfl, rfl, rfl, rfl, rfl, rfl, rfl, rfl, rfl, rfl, rfl, rfl, rfl, rfl, rfl, rfl, rfl, rfl, rfl, rfl, rfl, rfl, rfl, rfl, rfl, rfl, rfl, rfl, trivial⟩ ?_
                    refine J_condF rfl ?_
                    refine J_skip ?_
                    refine JR.start ?_
                    refine u rfl rfl (fA 1 2) ?_
                    refine u rfl rfl (fA 1 1) ?_
                    refine u rfl rfl ld ?_
                    refine u rfl rfl asg ?_
                    refine jd ?_
                    refine J_weak [(1, _), (2, _), (4, _), (5, _), (6, _), (8, _), (32, _), (33, _), (34, _), (35, _), (36, _), (39, _), (40, _), (41, _), (47, _), (68, _), (69, _), (70, _), (71, _), (72, _), (73, _), (74, _), (75, _), (76, _), (77, _), (78, _), (79, _), (80, _), (81, _), (82, _), (83, _), (84, _), (85, _), (86, _), (87, _), (88, _), (89, _), (90, _), (91, _), (92, _), (93, _), (94, _), (95, _), (2002, _), (2008, _)] ⟨rfl, rfl, rfl, rfl, rfl, rfl, rfl, rfl, rfl, rfl, rfl, rfl, rfl, rfl, rfl, rfl, rfl, rfl, rfl, rfl, rfl, rfl, rfl, rfl, rfl, rfl, rfl, rfl, rfl, rfl, rfl, rfl, rfl, rfl, rfl, rfl, rfl, rfl, rfl, rfl, rfl, rfl, rfl, rfl, rfl, trivial⟩ ?_
                    refine JR.start ?_
                    refine u rfl rfl mv ?_
                    refine u rfl rfl (r_addI rfl rfl rfl rfl (by omega)) ?_
                    refine u rfl rfl asg ?_
                    refine jd ?_
                    rw [h90] at hI
                    simp only [show decide (s1 ≤ x.fr) = true from decide_eq_true (by omega), show decide (x.to ≤ e.to) = true from decide_eq_true (by omega), Bool.true_and] at hI
                    refine ⟨⟨(i + 1, x.to), by dsimp only; omega, hI⟩, by dsimp only; omega, rfl, rfl, rfl, rfl, rfl, rfl, trivial⟩
                  · intro h90
                    refine u rfl rfl nt ?_
                    refine u rfl rfl pF ?_
                    refine jd ?_
                    refine J_weak [(1, _), (2, _), (4, _), (5, _), (6, _), (8, _), (32, _), (33, _), (34, _), (35, _), (36, _), (39, _), (40, _), (41, _), (47, _), (68, _), (69, _), (70, _), (71, _), (72, _), (73, _), (74, _), (75, _), (76, _), (77, _), (78, _), (79, _), (80, _), (81, _), (82, _), (83, _), (84, _), (85, _), (86, _), (87, _), (88, _), (89, _), (90, _), (91, _), (92, _), (2002, _), (2008, _)] ⟨rfl, rfl, rfl, rfl, rfl, rfl, rfl, rfl, rfl, rfl, rfl, rfl, rfl, rfl, rfl, rfl, rfl, rfl, rfl, rfl, rfl, rfl, rfl, rfl, rfl, rfl, rfl, rfl, rfl, rfl, rfl, rfl, rfl, rfl, rfl, rfl, rfl, rfl, rfl, rfl, rfl, rfl, trivial⟩ ?_
                    refine J_condT rfl ?_
                    refine js ?_
                    refine u rfl rfl asg ?_
                    refine jd ?_
                    refine J_weak [(1, _), (2, _), (4, _), (5, _), (6, _), (8, _), (32, _), (33, _), (34, _), (35, _), (36, _), (39, _), (40, _), (41, _), (47, _), (68, _), (69, _), (70, _), (71, _), (72, _), (73, _), (74, _), (75, _), (76, _), (77, _), (78, _), (79, _), (80, _), (81, _), (82, _), (83, _), (84, _), (85, _), (86, _), (87, _), (88, _), (89, _), (90, _), (91, _), (92, _), (2002, _), (2008, _)] ⟨rfl, rfl, rfl, rfl, rfl, rfl, rfl, rfl, rfl, rfl, rfl, rfl, rfl, rfl, rfl, rfl, rfl, rfl, rfl, rfl, rfl, rfl, rfl, rfl, rfl, rfl, rfl, rfl, rfl, rfl, rfl, rfl, rfl, rfl, rfl, rfl, rfl, rfl, rfl, rfl, rfl, rfl, trivial⟩ ?_
                    refine J_ret ?_
                    refine ⟨.inl rfl, _, rfl, .ofB ?_, trivial⟩
                    rw [hI]
                    simp only [h90, Bool.false_and, Bool.and_false]
          · intro h36
            replace h36 := of_decide_eq_false h36
            refine jd ?_
            refine w11 1 2 4 5 6 32 33 34 35 36 2002 ?_
            refine J_condF rfl ?_
            refine J_exit ?_
            refine js ?_
            refine u rfl rfl asg ?_
            refine jd ?_
            refine w1 4 ?_
            refine J_ret ?_
            refine ⟨.inl rfl, _, rfl, .ofB ?_, trivial⟩
            rw [hI, List.drop_eq_nil_of_le (by omega), insL_nil, decide_eq_true (show 0 ≤ e.fr by omega), decide_eq_true (show e.fr < e.to by omega), decide_eq_true (show e.to ≤ N by omega)]
            rfl

end Go.Proofs.Ytlagglkpbnbmeaa
