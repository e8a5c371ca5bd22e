/- The program's tree: what is right of one pattern; patterns. -/
import Derived.Test.YtlagglkpbnbmeaaRi1
import Derived.Test.YtlagglkpbnbmeaaEw
namespace Go.Proofs.Ytlagglkpbnbmeaa
open Go Go.RowKit
set_option maxRecDepth 100000
set_option maxHeartbeats 4000000
set_option linter.unusedVariables false
set_option linter.unusedSimpArgs false

theorem wName (s : List UInt8) (hs : s.length ≤ 1000000000) : Con Try.prog 30 [.c (.lit (str s))] [] (.c (.lit (.bool (mName s)))) [] := by
  refine con_below (by simp [Flat]) trivial (by simp) fun S w args B hsz harg hS htt hB => ?_
  have h0 := harg 0 _ rfl
  have hargs : args = #[str s] := by
    apply Array.ext
    · simpa using hsz
    · intro i h1 h2
      have : i = 0 := by simp at h2; omega
      subst this
      have h3 : args.getD 0 undef = str s := lit_val (ρ := fun _ => 0) (show FV S _ w (.c (.lit (str s))) _ from h0)
      simp only [Array.getD_eq_getD_getElem?, Array.getElem?_eq_getElem h1, Option.getD_some] at h3
      rw [h3]; rfl
  rw [hargs]
  refine (wordName_any s w (by omega)).mono ?_
  rintro e w' ⟨rfl, rfl⟩
  exact ⟨_, rfl, Below.refl _ _, fun S' _ _ => .lit _ rfl⟩
/-- what fields a pattern of a kind has: a name, a number, a text; how many kids -/
def paSh (k : Int) : Option (Bool × Bool × Bool × Nat) :=
  if k = 1 ∨ k = 6 ∨ k = 8 then some (false, false, false, 0) else if k = 2 then some (true, false, false, 0) else if k = 3 ∨ k = 4 then some (false, true, false, 0)
  else if k = 5 then some (false, false, true, 0) else if k = 7 ∨ k = 9 then some (false, false, false, 2) else none
/-- is one pattern right, whatever its kids are? -/
def okPa (p : Pa) : Bool := match paSh p.kind with
  | none => false
  | some (a, b, c, d) => (if a then mName p.nm else decide (p.nm = [])) && (b || decide (p.n = 0)) && (decide (p.kind ≠ 4) || decide (p.n = 0) || decide (p.n = 1)) && (if c then decide (p.s.length ≤ 200) else decide (p.s = [])) && decide (p.kids.length = d)

theorem tOnePat {n : Nat} (hn : n ≤ 1000000000) {p : Pa} (hp : PaK n p) : Con Try.prog 53 [.agg (paX p)] [] (.c (.lit (.bool (okPa p)))) [] := by
  have hl := pasD_len3 p.kids
  have hnm : p.nm.length ≤ n := by cases hp; assumption
  have hsl : p.s.length ≤ n := by cases hp; assumption
  refine con_intro rfl rfl (by kernel_rfl) (by kernel_rfl) ?_
  refine js ?_
  refine u rfl rfl (r_boxA (x := 2001) rfl rfl rfl rfl) ?_
  refine u rfl rfl asg ?_
  refine jd ?_
  refine w3 1 2 2001 ?_
  refine js ?_
  refine u rfl rfl (fA 0 1) ?_
  refine u rfl rfl ld ?_
  refine u rfl rfl (fA 1 2) ?_
  refine u rfl rfl (lA 2) ?_
  refine u rfl rfl (fA 6 1) ?_
  refine u rfl rfl ld ?_
  refine u rfl rfl (r_build (zs := zp) (qs := [(0, 1), (1, 2), (3, 1), (4, 1), (5, 1), (6, 1)]) dp rfl rfl (by kernel_rfl) (by kernel_rfl) kp rfl rfl) ?_
  refine u rfl rfl (r_alloc (x := 2003) (zs := zp) dp rfl rfl rfl (by kernel_rfl) kp) ?_
  refine u rfl rfl sA ?_
  refine u rfl rfl asg ?_
  refine jd ?_
  refine w6 1 2 3 4 2001 2003 ?_
  refine J_seq ?_
  refine js ?_
  refine u rfl rfl (fA 0 1) ?_
  refine u rfl rfl ld ?_
  refine jd ?_
  refine w7 1 2 3 4 13 2001 2003 ?_
  refine J_block ?_
  refine J_seq ?_
  refine js ?_
  refine JR.runB rfl rfl (r_eqI rfl rfl rfl rfl) ?_ ?_
  · intro h15
    replace h15 := of_decide_eq_true h15
    refine u rfl rfl asg ?_
    refine jd ?_
    refine w8 1 2 3 4 13 14 2001 2003 ?_
    refine J_condT rfl ?_
    refine J_skip ?_
    refine J_condT rfl ?_
    refine J_skip ?_
    refine js ?_
    refine u rfl rfl (fA 6 1) ?_
    refine u rfl rfl ld ?_
    refine u rfl rfl ln0 ?_
    refine u rfl rfl mv ?_
    refine JR.runB rfl rfl (r_eqI rfl rfl rfl rfl) ?_ ?_
    · intro h61
      replace h61 := of_decide_eq_true h61
      refine u rfl rfl mv ?_
      refine u rfl rfl (fA 3 1) ?_
      refine u rfl rfl ld ?_
      refine u rfl rfl (fA 3 1) ?_
      refine u rfl rfl ld ?_
      refine JR.runB rfl rfl (r_eqS rfl rfl rfl rfl) ?_ ?_
      · intro h67
        refine u rfl rfl pT ?_
        refine u rfl rfl mv ?_
        refine u rfl rfl (fA 4 1) ?_
        refine u rfl rfl ld ?_
        refine u rfl rfl (fA 4 1) ?_
        refine u rfl rfl ld ?_
        refine JR.runB rfl rfl (r_eqI rfl rfl rfl rfl) ?_ ?_
        · intro h74
          replace h74 := of_decide_eq_true h74
          refine u rfl rfl pT ?_
          refine u rfl rfl mv ?_
          refine u rfl rfl (fA 5 1) ?_
          refine u rfl rfl ld ?_
          refine u rfl rfl (fA 5 1) ?_
          refine u rfl rfl ld ?_
          refine JR.runB rfl rfl (r_eqS rfl rfl rfl rfl) ?_ ?_
          · intro h81
            refine u rfl rfl pT ?_
            refine u rfl rfl asg ?_
            refine jd ?_
            refine w1 2 ?_
            refine J_ret ?_
            refine ⟨.inl rfl, _, rfl, .ofB ?_, trivial⟩
            replace h74 := h74.symm
            first | (simp_all [okPa, paSh]; done) | (simp_all [okPa, paSh]; omega)
          · intro h81
            refine u rfl rfl pT ?_
            refine u rfl rfl asg ?_
            refine jd ?_
            refine w1 2 ?_
            refine J_ret ?_
            refine ⟨.inl rfl, _, rfl, .ofB ?_, trivial⟩
            replace h74 := h74.symm
            first | (simp_all [okPa, paSh]; done) | (simp_all [okPa, paSh]; omega)
        · intro h74
          replace h74 := of_decide_eq_false h74
          refine u rfl rfl pT ?_
          refine u rfl rfl mv ?_
          refine sk ?_
          refine sk ?_
          refine sk ?_
          refine sk ?_
          refine sk ?_
          refine u rfl rfl pF ?_
          refine u rfl rfl asg ?_
          refine jd ?_
          refine w1 2 ?_
          refine J_ret ?_
          refine ⟨.inl rfl, _, rfl, .ofB ?_, trivial⟩
          first | (simp_all [okPa, paSh]; done) | (simp_all [okPa, paSh]; omega)
      · intro h67
        refine u rfl rfl pT ?_
        refine u rfl rfl mv ?_
        refine sk ?_
        refine sk ?_
        refine sk ?_
        refine sk ?_
        refine sk ?_
        refine u rfl rfl pF ?_
        refine u rfl rfl mv ?_
        refine sk ?_
        refine sk ?_
        refine sk ?_
        refine sk ?_
        refine sk ?_
        refine u rfl rfl pF ?_
        refine u rfl rfl asg ?_
        refine jd ?_
        refine w1 2 ?_
        refine J_ret ?_
        refine ⟨.inl rfl, _, rfl, .ofB ?_, trivial⟩
        first | (simp_all [okPa, paSh]; done) | (simp_all [okPa, paSh]; omega)
    · intro h61
      replace h61 := of_decide_eq_false h61
      refine u rfl rfl mv ?_
      refine sk ?_
      refine sk ?_
      refine sk ?_
      refine sk ?_
      refine sk ?_
      refine u rfl rfl pF ?_
      refine u rfl rfl mv ?_
      refine sk ?_
      refine sk ?_
      refine sk ?_
      refine sk ?_
      refine sk ?_
      refine u rfl rfl pF ?_
      refine u rfl rfl mv ?_
      refine sk ?_
      refine sk ?_
      refine sk ?_
      refine sk ?_
      refine sk ?_
      refine u rfl rfl pF ?_
      refine u rfl rfl asg ?_
      refine jd ?_
      refine w1 2 ?_
      refine J_ret ?_
      refine ⟨.inl rfl, _, rfl, .ofB ?_, trivial⟩
      first | (simp_all [okPa, paSh]; done) | (simp_all [okPa, paSh]; omega)
  · intro h15
    replace h15 := of_decide_eq_false h15
    refine u rfl rfl asg ?_
    refine jd ?_
    refine w8 1 2 3 4 13 14 2001 2003 ?_
    refine J_condF rfl ?_
    refine js ?_
    refine JR.runB rfl rfl (r_eqI rfl rfl rfl rfl) ?_ ?_
    · intro h16
      replace h16 := of_decide_eq_true h16
      refine u rfl rfl asg ?_
      refine jd ?_
      refine w8 1 2 3 4 13 14 2001 2003 ?_
      refine J_condT rfl ?_
      refine J_skip ?_
      refine J_condT rfl ?_
      refine J_skip ?_
      refine js ?_
      refine u rfl rfl (fA 6 1) ?_
      refine u rfl rfl ld ?_
      refine u rfl rfl ln0 ?_
      refine u rfl rfl mv ?_
      refine JR.runB rfl rfl (r_eqI rfl rfl rfl rfl) ?_ ?_
      · intro h61
        replace h61 := of_decide_eq_true h61
        refine u rfl rfl mv ?_
        refine u rfl rfl (fA 3 1) ?_
        refine u rfl rfl ld ?_
        refine u rfl rfl (fA 3 1) ?_
        refine u rfl rfl ld ?_
        refine JR.runB rfl rfl (r_eqS rfl rfl rfl rfl) ?_ ?_
        · intro h67
          refine u rfl rfl pT ?_
          refine u rfl rfl mv ?_
          refine u rfl rfl (fA 4 1) ?_
          refine u rfl rfl ld ?_
          refine u rfl rfl (fA 4 1) ?_
          refine u rfl rfl ld ?_
          refine JR.runB rfl rfl (r_eqI rfl rfl rfl rfl) ?_ ?_
          · intro h74
            replace h74 := of_decide_eq_true h74
            refine u rfl rfl pT ?_
            refine u rfl rfl mv ?_
            refine u rfl rfl (fA 5 1) ?_
            refine u rfl rfl ld ?_
            refine u rfl rfl (fA 5 1) ?_
            refine u rfl rfl ld ?_
            refine JR.runB rfl rfl (r_eqS rfl rfl rfl rfl) ?_ ?_
            · intro h81
              refine u rfl rfl pT ?_
              refine u rfl rfl asg ?_
              refine jd ?_
              refine w1 2 ?_
              refine J_ret ?_
              refine ⟨.inl rfl, _, rfl, .ofB ?_, trivial⟩
              replace h74 := h74.symm
              first | (simp_all [okPa, paSh]; done) | (simp_all [okPa, paSh]; omega)
            · intro h81
              refine u rfl rfl pT ?_
              refine u rfl rfl asg ?_
              refine jd ?_
              refine w1 2 ?_
              refine J_ret ?_
              refine ⟨.inl rfl, _, rfl, .ofB ?_, trivial⟩
              replace h74 := h74.symm
              first | (simp_all [okPa, paSh]; done) | (simp_all [okPa, paSh]; omega)
          · intro h74
            replace h74 := of_decide_eq_false h74
            refine u rfl rfl pT ?_
            refine u rfl rfl mv ?_
            refine sk ?_
            refine sk ?_
            refine sk ?_
            refine sk ?_
            refine sk ?_
            refine u rfl rfl pF ?_
            refine u rfl rfl asg ?_
            refine jd ?_
            refine w1 2 ?_
            refine J_ret ?_
            refine ⟨.inl rfl, _, rfl, .ofB ?_, trivial⟩
            first | (simp_all [okPa, paSh]; done) | (simp_all [okPa, paSh]; omega)
        · intro h67
          refine u rfl rfl pT ?_
          refine u rfl rfl mv ?_
          refine sk ?_
          refine sk ?_
          refine sk ?_
          refine sk ?_
          refine sk ?_
          refine u rfl rfl pF ?_
          refine u rfl rfl mv ?_
          refine sk ?_
          refine sk ?_
          refine sk ?_
          refine sk ?_
          refine sk ?_
          refine u rfl rfl pF ?_
          refine u rfl rfl asg ?_
          refine jd ?_
          refine w1 2 ?_
          refine J_ret ?_
          refine ⟨.inl rfl, _, rfl, .ofB ?_, trivial⟩
          first | (simp_all [okPa, paSh]; done) | (simp_all [okPa, paSh]; omega)
      · intro h61
        replace h61 := of_decide_eq_false h61
        refine u rfl rfl mv ?_
        refine sk ?_
        refine sk ?_
        refine sk ?_
        refine sk ?_
        refine sk ?_
        refine u rfl rfl pF ?_
        refine u rfl rfl mv ?_
        refine sk ?_
        refine sk ?_
        refine sk ?_
        refine sk ?_
        refine sk ?_
        refine u rfl rfl pF ?_
        refine u rfl rfl mv ?_
        refine sk ?_
        refine sk ?_
        refine sk ?_
        refine sk ?_
        refine sk ?_
        refine u rfl rfl pF ?_
        refine u rfl rfl asg ?_
        refine jd ?_
        refine w1 2 ?_
        refine J_ret ?_
        refine ⟨.inl rfl, _, rfl, .ofB ?_, trivial⟩
        first | (simp_all [okPa, paSh]; done) | (simp_all [okPa, paSh]; omega)
    · intro h16
      replace h16 := of_decide_eq_false h16
      refine u rfl rfl asg ?_
      refine jd ?_
      refine w8 1 2 3 4 13 14 2001 2003 ?_
      refine J_condF rfl ?_
      refine JR.start ?_
      refine JR.runB rfl rfl (r_eqI rfl rfl rfl rfl) ?_ ?_
      · intro h17
        replace h17 := of_decide_eq_true h17
        refine u rfl rfl asg ?_
        refine jd ?_
        refine w8 1 2 3 4 13 14 2001 2003 ?_
        refine J_condT rfl ?_
        refine J_skip ?_
        refine js ?_
        refine u rfl rfl (fA 6 1) ?_
        refine u rfl rfl ld ?_
        refine u rfl rfl ln0 ?_
        refine u rfl rfl mv ?_
        refine JR.runB rfl rfl (r_eqI rfl rfl rfl rfl) ?_ ?_
        · intro h61
          replace h61 := of_decide_eq_true h61
          refine u rfl rfl mv ?_
          refine u rfl rfl (fA 3 1) ?_
          refine u rfl rfl ld ?_
          refine u rfl rfl (fA 3 1) ?_
          refine u rfl rfl ld ?_
          refine JR.runB rfl rfl (r_eqS rfl rfl rfl rfl) ?_ ?_
          · intro h67
            refine u rfl rfl pT ?_
            refine u rfl rfl mv ?_
            refine u rfl rfl (fA 4 1) ?_
            refine u rfl rfl ld ?_
            refine u rfl rfl (fA 4 1) ?_
            refine u rfl rfl ld ?_
            refine JR.runB rfl rfl (r_eqI rfl rfl rfl rfl) ?_ ?_
            · intro h74
              replace h74 := of_decide_eq_true h74
              refine u rfl rfl pT ?_
              refine u rfl rfl mv ?_
              refine u rfl rfl (fA 5 1) ?_
              refine u rfl rfl ld ?_
              refine u rfl rfl (fA 5 1) ?_
              refine u rfl rfl ld ?_
              refine JR.runB rfl rfl (r_eqS rfl rfl rfl rfl) ?_ ?_
              · intro h81
                refine u rfl rfl pT ?_
                refine u rfl rfl asg ?_
                refine jd ?_
                refine w1 2 ?_
                refine J_ret ?_
                refine ⟨.inl rfl, _, rfl, .ofB ?_, trivial⟩
                replace h74 := h74.symm
                first | (simp_all [okPa, paSh]; done) | (simp_all [okPa, paSh]; omega)
              · intro h81
                refine u rfl rfl pT ?_
                refine u rfl rfl asg ?_
                refine jd ?_
                refine w1 2 ?_
                refine J_ret ?_
                refine ⟨.inl rfl, _, rfl, .ofB ?_, trivial⟩
                replace h74 := h74.symm
                first | (simp_all [okPa, paSh]; done) | (simp_all [okPa, paSh]; omega)
            · intro h74
              replace h74 := of_decide_eq_false h74
              refine u rfl rfl pT ?_
              refine u rfl rfl mv ?_
              refine sk ?_
              refine sk ?_
              refine sk ?_
              refine sk ?_
              refine sk ?_
              refine u rfl rfl pF ?_
              refine u rfl rfl asg ?_
              refine jd ?_
              refine w1 2 ?_
              refine J_ret ?_
              refine ⟨.inl rfl, _, rfl, .ofB ?_, trivial⟩
              first | (simp_all [okPa, paSh]; done) | (simp_all [okPa, paSh]; omega)
          · intro h67
            refine u rfl rfl pT ?_
            refine u rfl rfl mv ?_
            refine sk ?_
            refine sk ?_
            refine sk ?_
            refine sk ?_
            refine sk ?_
            refine u rfl rfl pF ?_
            refine u rfl rfl mv ?_
            refine sk ?_
            refine sk ?_
            refine sk ?_
            refine sk ?_
            refine sk ?_
            refine u rfl rfl pF ?_
            refine u rfl rfl asg ?_
            refine jd ?_
            refine w1 2 ?_
            refine J_ret ?_
            refine ⟨.inl rfl, _, rfl, .ofB ?_, trivial⟩
            first | (simp_all [okPa, paSh]; done) | (simp_all [okPa, paSh]; omega)
        · intro h61
          replace h61 := of_decide_eq_false h61
          refine u rfl rfl mv ?_
          refine sk ?_
          refine sk ?_
          refine sk ?_
          refine sk ?_
          refine sk ?_
          refine u rfl rfl pF ?_
          refine u rfl rfl mv ?_
          refine sk ?_
          refine sk ?_
          refine sk ?_
          refine sk ?_
          refine sk ?_
          refine u rfl rfl pF ?_
          refine u rfl rfl mv ?_
          refine sk ?_
          refine sk ?_
          refine sk ?_
          refine sk ?_
          refine sk ?_
          refine u rfl rfl pF ?_
          refine u rfl rfl asg ?_
          refine jd ?_
          refine w1 2 ?_
          refine J_ret ?_
          refine ⟨.inl rfl, _, rfl, .ofB ?_, trivial⟩
          first | (simp_all [okPa, paSh]; done) | (simp_all [okPa, paSh]; omega)
      · intro h17
        replace h17 := of_decide_eq_false h17
        refine u rfl rfl asg ?_
        refine jd ?_
        refine w8 1 2 3 4 13 14 2001 2003 ?_
        refine J_condF rfl ?_
        refine js ?_
        refine JR.runB rfl rfl (r_eqI rfl rfl rfl rfl) ?_ ?_
        · intro h19
          replace h19 := of_decide_eq_true h19
          refine u rfl rfl asg ?_
          refine jd ?_
          refine w8 1 2 3 4 13 18 2001 2003 ?_
          refine J_condT rfl ?_
          refine js ?_
          refine u rfl rfl (fA 3 1) ?_
          refine u rfl rfl ld ?_
          refine u rfl rfl (fA 3 1) ?_
          refine u rfl rfl sT ?_
          refine jd ?_
          refine w6 1 2 3 4 2001 2003 ?_
          refine js ?_
          refine u rfl rfl (fA 3 1) ?_
          refine u rfl rfl ld ?_
          refine JR.runC rfl rfl (cl (wName p.nm (by omega))) rfl ?_ ?_
          · intro h25
            refine u rfl rfl nt ?_
            refine jd ?_
            refine w7 1 2 3 4 26 2001 2003 ?_
            refine J_condF rfl ?_
            refine J_skip ?_
            refine js ?_
            refine u rfl rfl (fA 6 1) ?_
            refine u rfl rfl ld ?_
            refine u rfl rfl ln0 ?_
            refine u rfl rfl mv ?_
            refine JR.runB rfl rfl (r_eqI rfl rfl rfl rfl) ?_ ?_
            · intro h61
              replace h61 := of_decide_eq_true h61
              refine u rfl rfl mv ?_
              refine u rfl rfl (fA 3 1) ?_
              refine u rfl rfl ld ?_
              refine u rfl rfl (fA 3 1) ?_
              refine u rfl rfl ld ?_
              refine JR.runB rfl rfl (r_eqS rfl rfl rfl rfl) ?_ ?_
              · intro h67
                refine u rfl rfl pT ?_
                refine u rfl rfl mv ?_
                refine u rfl rfl (fA 4 1) ?_
                refine u rfl rfl ld ?_
                refine u rfl rfl (fA 4 1) ?_
                refine u rfl rfl ld ?_
                refine JR.runB rfl rfl (r_eqI rfl rfl rfl rfl) ?_ ?_
                · intro h74
                  replace h74 := of_decide_eq_true h74
                  refine u rfl rfl pT ?_
                  refine u rfl rfl mv ?_
                  refine u rfl rfl (fA 5 1) ?_
                  refine u rfl rfl ld ?_
                  refine u rfl rfl (fA 5 1) ?_
                  refine u rfl rfl ld ?_
                  refine JR.runB rfl rfl (r_eqS rfl rfl rfl rfl) ?_ ?_
                  · intro h81
                    refine u rfl rfl pT ?_
                    refine u rfl rfl asg ?_
                    refine jd ?_
                    refine w1 2 ?_
                    refine J_ret ?_
                    refine ⟨.inl rfl, _, rfl, .ofB ?_, trivial⟩
                    replace h74 := h74.symm
                    first | (simp_all [okPa, paSh]; done) | (simp_all [okPa, paSh]; omega)
                  · intro h81
                    refine u rfl rfl pT ?_
                    refine u rfl rfl asg ?_
                    refine jd ?_
                    refine w1 2 ?_
                    refine J_ret ?_
                    refine ⟨.inl rfl, _, rfl, .ofB ?_, trivial⟩
                    replace h74 := h74.symm
                    first | (simp_all [okPa, paSh]; done) | (simp_all [okPa, paSh]; omega)
                · intro h74
                  replace h74 := of_decide_eq_false h74
                  refine u rfl rfl pT ?_
                  refine u rfl rfl mv ?_
                  refine sk ?_
                  refine sk ?_
                  refine sk ?_
                  refine sk ?_
                  refine sk ?_
                  refine u rfl rfl pF ?_
                  refine u rfl rfl asg ?_
                  refine jd ?_
                  refine w1 2 ?_
                  refine J_ret ?_
                  refine ⟨.inl rfl, _, rfl, .ofB ?_, trivial⟩
                  first | (simp_all [okPa, paSh]; done) | (simp_all [okPa, paSh]; omega)
              · intro h67
                refine u rfl rfl pT ?_
                refine u rfl rfl mv ?_
                refine sk ?_
                refine sk ?_
                refine sk ?_
                refine sk ?_
                refine sk ?_
                refine u rfl rfl pF ?_
                refine u rfl rfl mv ?_
                refine sk ?_
                refine sk ?_
                refine sk ?_
                refine sk ?_
                refine sk ?_
                refine u rfl rfl pF ?_
                refine u rfl rfl asg ?_
                refine jd ?_
                refine w1 2 ?_
                refine J_ret ?_
                refine ⟨.inl rfl, _, rfl, .ofB ?_, trivial⟩
                first | (simp_all [okPa, paSh]; done) | (simp_all [okPa, paSh]; omega)
            · intro h61
              replace h61 := of_decide_eq_false h61
              refine u rfl rfl mv ?_
              refine sk ?_
              refine sk ?_
              refine sk ?_
              refine sk ?_
              refine sk ?_
              refine u rfl rfl pF ?_
              refine u rfl rfl mv ?_
              refine sk ?_
              refine sk ?_
              refine sk ?_
              refine sk ?_
              refine sk ?_
              refine u rfl rfl pF ?_
              refine u rfl rfl mv ?_
              refine sk ?_
              refine sk ?_
              refine sk ?_
              refine sk ?_
              refine sk ?_
              refine u rfl rfl pF ?_
              refine u rfl rfl asg ?_
              refine jd ?_
              refine w1 2 ?_
              refine J_ret ?_
              refine ⟨.inl rfl, _, rfl, .ofB ?_, trivial⟩
              first | (simp_all [okPa, paSh]; done) | (simp_all [okPa, paSh]; omega)
          · intro h25
            refine u rfl rfl nt ?_
            refine jd ?_
            refine w7 1 2 3 4 26 2001 2003 ?_
            refine J_condT rfl ?_
            refine js ?_
            refine u rfl rfl asg ?_
            refine jd ?_
            refine w6 1 2 3 4 2001 2003 ?_
            refine J_ret ?_
            refine ⟨.inl rfl, _, rfl, .ofB ?_, trivial⟩
            first | (simp_all [okPa, paSh]; done) | (simp_all [okPa, paSh]; omega)
        · intro h19
          replace h19 := of_decide_eq_false h19
          refine u rfl rfl asg ?_
          refine jd ?_
          refine w8 1 2 3 4 13 18 2001 2003 ?_
          refine J_condF rfl ?_
          refine js ?_
          refine JR.runB rfl rfl (r_eqI rfl rfl rfl rfl) ?_ ?_
          · intro h28
            replace h28 := of_decide_eq_true h28
            refine u rfl rfl asg ?_
            refine jd ?_
            refine w8 1 2 3 4 13 27 2001 2003 ?_
            refine J_condT rfl ?_
            refine JR.start ?_
            refine u rfl rfl (fA 4 1) ?_
            refine u rfl rfl ld ?_
            refine u rfl rfl (fA 4 1) ?_
            refine u rfl rfl sT ?_
            refine jd ?_
            refine w6 1 2 3 4 2001 2003 ?_
            refine js ?_
            refine u rfl rfl (fA 6 1) ?_
            refine u rfl rfl ld ?_
            refine u rfl rfl ln0 ?_
            refine u rfl rfl mv ?_
            refine JR.runB rfl rfl (r_eqI rfl rfl rfl rfl) ?_ ?_
            · intro h61
              replace h61 := of_decide_eq_true h61
              refine u rfl rfl mv ?_
              refine u rfl rfl (fA 3 1) ?_
              refine u rfl rfl ld ?_
              refine u rfl rfl (fA 3 1) ?_
              refine u rfl rfl ld ?_
              refine JR.runB rfl rfl (r_eqS rfl rfl rfl rfl) ?_ ?_
              · intro h67
                refine u rfl rfl pT ?_
                refine u rfl rfl mv ?_
                refine u rfl rfl (fA 4 1) ?_
                refine u rfl rfl ld ?_
                refine u rfl rfl (fA 4 1) ?_
                refine u rfl rfl ld ?_
                refine JR.runB rfl rfl (r_eqI rfl rfl rfl rfl) ?_ ?_
                · intro h74
                  replace h74 := of_decide_eq_true h74
                  refine u rfl rfl pT ?_
                  refine u rfl rfl mv ?_
                  refine u rfl rfl (fA 5 1) ?_
                  refine u rfl rfl ld ?_
                  refine u rfl rfl (fA 5 1) ?_
                  refine u rfl rfl ld ?_
                  refine JR.runB rfl rfl (r_eqS rfl rfl rfl rfl) ?_ ?_
                  · intro h81
                    refine u rfl rfl pT ?_
                    refine u rfl rfl asg ?_
                    refine jd ?_
                    refine w1 2 ?_
                    refine J_ret ?_
                    refine ⟨.inl rfl, _, rfl, .ofB ?_, trivial⟩
                    replace h74 := h74.symm
                    first | (simp_all [okPa, paSh]; done) | (simp_all [okPa, paSh]; omega)
                  · intro h81
                    refine u rfl rfl pT ?_
                    refine u rfl rfl asg ?_
                    refine jd ?_
                    refine w1 2 ?_
                    refine J_ret ?_
                    refine ⟨.inl rfl, _, rfl, .ofB ?_, trivial⟩
                    replace h74 := h74.symm
                    first | (simp_all [okPa, paSh]; done) | (simp_all [okPa, paSh]; omega)
                · intro h74
                  replace h74 := of_decide_eq_false h74
                  refine u rfl rfl pT ?_
                  refine u rfl rfl mv ?_
                  refine sk ?_
                  refine sk ?_
                  refine sk ?_
                  refine sk ?_
                  refine sk ?_
                  refine u rfl rfl pF ?_
                  refine u rfl rfl asg ?_
                  refine jd ?_
                  refine w1 2 ?_
                  refine J_ret ?_
                  refine ⟨.inl rfl, _, rfl, .ofB ?_, trivial⟩
                  first | (simp_all [okPa, paSh]; done) | (simp_all [okPa, paSh]; omega)
              · intro h67
                refine u rfl rfl pT ?_
                refine u rfl rfl mv ?_
                refine sk ?_
                refine sk ?_
                refine sk ?_
                refine sk ?_
                refine sk ?_
                refine u rfl rfl pF ?_
                refine u rfl rfl mv ?_
                refine sk ?_
                refine sk ?_
                refine sk ?_
                refine sk ?_
                refine sk ?_
                refine u rfl rfl pF ?_
                refine u rfl rfl asg ?_
                refine jd ?_
                refine w1 2 ?_
                refine J_ret ?_
                refine ⟨.inl rfl, _, rfl, .ofB ?_, trivial⟩
                first | (simp_all [okPa, paSh]; done) | (simp_all [okPa, paSh]; omega)
            · intro h61
              replace h61 := of_decide_eq_false h61
              refine u rfl rfl mv ?_
              refine sk ?_
              refine sk ?_
              refine sk ?_
              refine sk ?_
              refine sk ?_
              refine u rfl rfl pF ?_
              refine u rfl rfl mv ?_
              refine sk ?_
              refine sk ?_
              refine sk ?_
              refine sk ?_
              refine sk ?_
              refine u rfl rfl pF ?_
              refine u rfl rfl mv ?_
              refine sk ?_
              refine sk ?_
              refine sk ?_
              refine sk ?_
              refine sk ?_
              refine u rfl rfl pF ?_
              refine u rfl rfl asg ?_
              refine jd ?_
              refine w1 2 ?_
              refine J_ret ?_
              refine ⟨.inl rfl, _, rfl, .ofB ?_, trivial⟩
              first | (simp_all [okPa, paSh]; done) | (simp_all [okPa, paSh]; omega)
          · intro h28
            replace h28 := of_decide_eq_false h28
            refine u rfl rfl asg ?_
            refine jd ?_
            refine w8 1 2 3 4 13 27 2001 2003 ?_
            refine J_condF rfl ?_
            refine js ?_
            refine JR.runB rfl rfl (r_eqI rfl rfl rfl rfl) ?_ ?_
            · intro h33
              replace h33 := of_decide_eq_true h33
              refine u rfl rfl asg ?_
              refine jd ?_
              refine w8 1 2 3 4 13 32 2001 2003 ?_
              refine J_condT rfl ?_
              refine js ?_
              refine u rfl rfl (fA 4 1) ?_
              refine u rfl rfl ld ?_
              refine u rfl rfl (fA 4 1) ?_
              refine u rfl rfl sT ?_
              refine jd ?_
              refine w6 1 2 3 4 2001 2003 ?_
              refine js ?_
              refine u rfl rfl (fA 4 1) ?_
              refine u rfl rfl ld ?_
              refine JR.runB rfl rfl (r_neI rfl rfl rfl rfl) ?_ ?_
              · intro h39
                replace h39 := of_decide_eq_false (nT h39)
                refine u rfl rfl mv ?_
                refine u rfl rfl (fA 4 1) ?_
                refine u rfl rfl ld ?_
                refine JR.runB rfl rfl (r_neI rfl rfl rfl rfl) ?_ ?_
                · intro h43
                  replace h43 := of_decide_eq_false (nT h43)
                  refine u rfl rfl pT ?_
                  refine jd ?_
                  refine w7 1 2 3 4 44 2001 2003 ?_
                  refine J_condT rfl ?_
                  refine js ?_
                  refine u rfl rfl asg ?_
                  refine jd ?_
                  refine w6 1 2 3 4 2001 2003 ?_
                  refine J_ret ?_
                  refine ⟨.inl rfl, _, rfl, .ofB ?_, trivial⟩
                  first | (simp_all [okPa, paSh]; done) | (simp_all [okPa, paSh]; omega)
                · intro h43
                  replace h43 := of_decide_eq_true (nF h43)
                  refine u rfl rfl pT ?_
                  refine jd ?_
                  refine w7 1 2 3 4 44 2001 2003 ?_
                  refine J_condF rfl ?_
                  refine J_skip ?_
                  refine js ?_
                  refine u rfl rfl (fA 6 1) ?_
                  refine u rfl rfl ld ?_
                  refine u rfl rfl ln0 ?_
                  refine u rfl rfl mv ?_
                  refine JR.runB rfl rfl (r_eqI rfl rfl rfl rfl) ?_ ?_
                  · intro h61
                    replace h61 := of_decide_eq_true h61
                    refine u rfl rfl mv ?_
                    refine u rfl rfl (fA 3 1) ?_
                    refine u rfl rfl ld ?_
                    refine u rfl rfl (fA 3 1) ?_
                    refine u rfl rfl ld ?_
                    refine JR.runB rfl rfl (r_eqS rfl rfl rfl rfl) ?_ ?_
                    · intro h67
                      refine u rfl rfl pT ?_
                      refine u rfl rfl mv ?_
                      refine u rfl rfl (fA 4 1) ?_
                      refine u rfl rfl ld ?_
                      refine u rfl rfl (fA 4 1) ?_
                      refine u rfl rfl ld ?_
                      refine JR.runB rfl rfl (r_eqI rfl rfl rfl rfl) ?_ ?_
                      · intro h74
                        replace h74 := of_decide_eq_true h74
                        refine u rfl rfl pT ?_
                        refine u rfl rfl mv ?_
                        refine u rfl rfl (fA 5 1) ?_
                        refine u rfl rfl ld ?_
                        refine u rfl rfl (fA 5 1) ?_
                        refine u rfl rfl ld ?_
                        refine JR.runB rfl rfl (r_eqS rfl rfl rfl rfl) ?_ ?_
                        · intro h81
                          refine u rfl rfl pT ?_
                          refine u rfl rfl asg ?_
                          refine jd ?_
                          refine w1 2 ?_
                          refine J_ret ?_
                          refine ⟨.inl rfl, _, rfl, .ofB ?_, trivial⟩
                          replace h74 := h74.symm
                          first | (simp_all [okPa, paSh]; done) | (simp_all [okPa, paSh]; omega)
                        · intro h81
                          refine u rfl rfl pT ?_
                          refine u rfl rfl asg ?_
                          refine jd ?_
                          refine w1 2 ?_
                          refine J_ret ?_
                          refine ⟨.inl rfl, _, rfl, .ofB ?_, trivial⟩
                          replace h74 := h74.symm
                          first | (simp_all [okPa, paSh]; done) | (simp_all [okPa, paSh]; omega)
                      · intro h74
                        replace h74 := of_decide_eq_false h74
                        refine u rfl rfl pT ?_
                        refine u rfl rfl mv ?_
                        refine sk ?_
                        refine sk ?_
                        refine sk ?_
                        refine sk ?_
                        refine sk ?_
                        refine u rfl rfl pF ?_
                        refine u rfl rfl asg ?_
                        refine jd ?_
                        refine w1 2 ?_
                        refine J_ret ?_
                        refine ⟨.inl rfl, _, rfl, .ofB ?_, trivial⟩
                        first | (simp_all [okPa, paSh]; done) | (simp_all [okPa, paSh]; omega)
                    · intro h67
                      refine u rfl rfl pT ?_
                      refine u rfl rfl mv ?_
                      refine sk ?_
                      refine sk ?_
                      refine sk ?_
                      refine sk ?_
                      refine sk ?_
                      refine u rfl rfl pF ?_
                      refine u rfl rfl mv ?_
                      refine sk ?_
                      refine sk ?_
                      refine sk ?_
                      refine sk ?_
                      refine sk ?_
                      refine u rfl rfl pF ?_
                      refine u rfl rfl asg ?_
                      refine jd ?_
                      refine w1 2 ?_
                      refine J_ret ?_
                      refine ⟨.inl rfl, _, rfl, .ofB ?_, trivial⟩
                      first | (simp_all [okPa, paSh]; done) | (simp_all [okPa, paSh]; omega)
                  · intro h61
                    replace h61 := of_decide_eq_false h61
                    refine u rfl rfl mv ?_
                    refine sk ?_
                    refine sk ?_
                    refine sk ?_
                    refine sk ?_
                    refine sk ?_
                    refine u rfl rfl pF ?_
                    refine u rfl rfl mv ?_
                    refine sk ?_
                    refine sk ?_
                    refine sk ?_
                    refine sk ?_
                    refine sk ?_
                    refine u rfl rfl pF ?_
                    refine u rfl rfl mv ?_
                    refine sk ?_
                    refine sk ?_
                    refine sk ?_
                    refine sk ?_
                    refine sk ?_
                    refine u rfl rfl pF ?_
                    refine u rfl rfl asg ?_
                    refine jd ?_
                    refine w1 2 ?_
                    refine J_ret ?_
                    refine ⟨.inl rfl, _, rfl, .ofB ?_, trivial⟩
                    first | (simp_all [okPa, paSh]; done) | (simp_all [okPa, paSh]; omega)
              · intro h39
                replace h39 := of_decide_eq_true (nF h39)
                refine u rfl rfl mv ?_
                refine sk ?_
                refine sk ?_
                refine sk ?_
                refine u rfl rfl pF ?_
                refine jd ?_
                refine w7 1 2 3 4 44 2001 2003 ?_
                refine J_condF rfl ?_
                refine J_skip ?_
                refine js ?_
                refine u rfl rfl (fA 6 1) ?_
                refine u rfl rfl ld ?_
                refine u rfl rfl ln0 ?_
                refine u rfl rfl mv ?_
                refine JR.runB rfl rfl (r_eqI rfl rfl rfl rfl) ?_ ?_
                · intro h61
                  replace h61 := of_decide_eq_true h61
                  refine u rfl rfl mv ?_
                  refine u rfl rfl (fA 3 1) ?_
                  refine u rfl rfl ld ?_
                  refine u rfl rfl (fA 3 1) ?_
                  refine u rfl rfl ld ?_
                  refine JR.runB rfl rfl (r_eqS rfl rfl rfl rfl) ?_ ?_
                  · intro h67
                    refine u rfl rfl pT ?_
                    refine u rfl rfl mv ?_
                    refine u rfl rfl (fA 4 1) ?_
                    refine u rfl rfl ld ?_
                    refine u rfl rfl (fA 4 1) ?_
                    refine u rfl rfl ld ?_
                    refine JR.runB rfl rfl (r_eqI rfl rfl rfl rfl) ?_ ?_
                    · intro h74
                      replace h74 := of_decide_eq_true h74
                      refine u rfl rfl pT ?_
                      refine u rfl rfl mv ?_
                      refine u rfl rfl (fA 5 1) ?_
                      refine u rfl rfl ld ?_
                      refine u rfl rfl (fA 5 1) ?_
                      refine u rfl rfl ld ?_
                      refine JR.runB rfl rfl (r_eqS rfl rfl rfl rfl) ?_ ?_
                      · intro h81
                        refine u rfl rfl pT ?_
                        refine u rfl rfl asg ?_
                        refine jd ?_
                        refine w1 2 ?_
                        refine J_ret ?_
                        refine ⟨.inl rfl, _, rfl, .ofB ?_, trivial⟩
                        replace h74 := h74.symm
                        first | (simp_all [okPa, paSh]; done) | (simp_all [okPa, paSh]; omega)
                      · intro h81
                        refine u rfl rfl pT ?_
                        refine u rfl rfl asg ?_
                        refine jd ?_
                        refine w1 2 ?_
                        refine J_ret ?_
                        refine ⟨.inl rfl, _, rfl, .ofB ?_, trivial⟩
                        replace h74 := h74.symm
                        first | (simp_all [okPa, paSh]; done) | (simp_all [okPa, paSh]; omega)
                    · intro h74
                      replace h74 := of_decide_eq_false h74
                      refine u rfl rfl pT ?_
                      refine u rfl rfl mv ?_
                      refine sk ?_
                      refine sk ?_
                      refine sk ?_
                      refine sk ?_
                      refine sk ?_
                      refine u rfl rfl pF ?_
                      refine u rfl rfl asg ?_
                      refine jd ?_
                      refine w1 2 ?_
                      refine J_ret ?_
                      refine ⟨.inl rfl, _, rfl, .ofB ?_, trivial⟩
                      first | (simp_all [okPa, paSh]; done) | (simp_all [okPa, paSh]; omega)
                  · intro h67
                    refine u rfl rfl pT ?_
                    refine u rfl rfl mv ?_
                    refine sk ?_
                    refine sk ?_
                    refine sk ?_
                    refine sk ?_
                    refine sk ?_
                    refine u rfl rfl pF ?_
                    refine u rfl rfl mv ?_
                    refine sk ?_
                    refine sk ?_
                    refine sk ?_
                    refine sk ?_
                    refine sk ?_
                    refine u rfl rfl pF ?_
                    refine u rfl rfl asg ?_
                    refine jd ?_
                    refine w1 2 ?_
                    refine J_ret ?_
                    refine ⟨.inl rfl, _, rfl, .ofB ?_, trivial⟩
                    first | (simp_all [okPa, paSh]; done) | (simp_all [okPa, paSh]; omega)
                · intro h61
                  replace h61 := of_decide_eq_false h61
                  refine u rfl rfl mv ?_
                  refine sk ?_
                  refine sk ?_
                  refine sk ?_
                  refine sk ?_
                  refine sk ?_
                  refine u rfl rfl pF ?_
                  refine u rfl rfl mv ?_
                  refine sk ?_
                  refine sk ?_
                  refine sk ?_
                  refine sk ?_
                  refine sk ?_
                  refine u rfl rfl pF ?_
                  refine u rfl rfl mv ?_
                  refine sk ?_
                  refine sk ?_
                  refine sk ?_
                  refine sk ?_
                  refine sk ?_
                  refine u rfl rfl pF ?_
                  refine u rfl rfl asg ?_
                  refine jd ?_
                  refine w1 2 ?_
                  refine J_ret ?_
                  refine ⟨.inl rfl, _, rfl, .ofB ?_, trivial⟩
                  first | (simp_all [okPa, paSh]; done) | (simp_all [okPa, paSh]; omega)
            · intro h33
              replace h33 := of_decide_eq_false h33
              refine u rfl rfl asg ?_
              refine jd ?_
              refine w8 1 2 3 4 13 32 2001 2003 ?_
              refine J_condF rfl ?_
              refine js ?_
              refine JR.runB rfl rfl (r_eqI rfl rfl rfl rfl) ?_ ?_
              · intro h46
                replace h46 := of_decide_eq_true h46
                refine u rfl rfl asg ?_
                refine jd ?_
                refine w8 1 2 3 4 13 45 2001 2003 ?_
                refine J_condT rfl ?_
                refine js ?_
                refine u rfl rfl (fA 5 1) ?_
                refine u rfl rfl ld ?_
                refine u rfl rfl (fA 5 1) ?_
                refine u rfl rfl sT ?_
                refine jd ?_
                refine w6 1 2 3 4 2001 2003 ?_
                refine js ?_
                refine u rfl rfl (fA 5 1) ?_
                refine u rfl rfl ld ?_
                refine u rfl rfl (r_lenS rfl rfl (by kernel_rfl) rfl) ?_
                refine JR.runB rfl rfl (r_gtI rfl rfl rfl rfl) ?_ ?_
                · intro h53
                  replace h53 := of_decide_eq_true h53
                  refine jd ?_
                  refine w7 1 2 3 4 53 2001 2003 ?_
                  refine J_condT rfl ?_
                  refine js ?_
                  refine u rfl rfl asg ?_
                  refine jd ?_
                  refine w6 1 2 3 4 2001 2003 ?_
                  refine J_ret ?_
                  refine ⟨.inl rfl, _, rfl, .ofB ?_, trivial⟩
                  first | (simp_all [okPa, paSh]; done) | (simp_all [okPa, paSh]; omega)
                · intro h53
                  replace h53 := of_decide_eq_false h53
                  refine jd ?_
                  refine w7 1 2 3 4 53 2001 2003 ?_
                  refine J_condF rfl ?_
                  refine J_skip ?_
                  refine js ?_
                  refine u rfl rfl (fA 6 1) ?_
                  refine u rfl rfl ld ?_
                  refine u rfl rfl ln0 ?_
                  refine u rfl rfl mv ?_
                  refine JR.runB rfl rfl (r_eqI rfl rfl rfl rfl) ?_ ?_
                  · intro h61
                    replace h61 := of_decide_eq_true h61
                    refine u rfl rfl mv ?_
                    refine u rfl rfl (fA 3 1) ?_
                    refine u rfl rfl ld ?_
                    refine u rfl rfl (fA 3 1) ?_
                    refine u rfl rfl ld ?_
                    refine JR.runB rfl rfl (r_eqS rfl rfl rfl rfl) ?_ ?_
                    · intro h67
                      refine u rfl rfl pT ?_
                      refine u rfl rfl mv ?_
                      refine u rfl rfl (fA 4 1) ?_
                      refine u rfl rfl ld ?_
                      refine u rfl rfl (fA 4 1) ?_
                      refine u rfl rfl ld ?_
                      refine JR.runB rfl rfl (r_eqI rfl rfl rfl rfl) ?_ ?_
                      · intro h74
                        replace h74 := of_decide_eq_true h74
                        refine u rfl rfl pT ?_
                        refine u rfl rfl mv ?_
                        refine u rfl rfl (fA 5 1) ?_
                        refine u rfl rfl ld ?_
                        refine u rfl rfl (fA 5 1) ?_
                        refine u rfl rfl ld ?_
                        refine JR.runB rfl rfl (r_eqS rfl rfl rfl rfl) ?_ ?_
                        · intro h81
                          refine u rfl rfl pT ?_
                          refine u rfl rfl asg ?_
                          refine jd ?_
                          refine w1 2 ?_
                          refine J_ret ?_
                          refine ⟨.inl rfl, _, rfl, .ofB ?_, trivial⟩
                          replace h74 := h74.symm
                          first | (simp_all [okPa, paSh]; done) | (simp_all [okPa, paSh]; omega)
                        · intro h81
                          refine u rfl rfl pT ?_
                          refine u rfl rfl asg ?_
                          refine jd ?_
                          refine w1 2 ?_
                          refine J_ret ?_
                          refine ⟨.inl rfl, _, rfl, .ofB ?_, trivial⟩
                          replace h74 := h74.symm
                          first | (simp_all [okPa, paSh]; done) | (simp_all [okPa, paSh]; omega)
                      · intro h74
                        replace h74 := of_decide_eq_false h74
                        refine u rfl rfl pT ?_
                        refine u rfl rfl mv ?_
                        refine sk ?_
                        refine sk ?_
                        refine sk ?_
                        refine sk ?_
                        refine sk ?_
                        refine u rfl rfl pF ?_
                        refine u rfl rfl asg ?_
                        refine jd ?_
                        refine w1 2 ?_
                        refine J_ret ?_
                        refine ⟨.inl rfl, _, rfl, .ofB ?_, trivial⟩
                        first | (simp_all [okPa, paSh]; done) | (simp_all [okPa, paSh]; omega)
                    · intro h67
                      refine u rfl rfl pT ?_
                      refine u rfl rfl mv ?_
                      refine sk ?_
                      refine sk ?_
                      refine sk ?_
                      refine sk ?_
                      refine sk ?_
                      refine u rfl rfl pF ?_
                      refine u rfl rfl mv ?_
                      refine sk ?_
                      refine sk ?_
                      refine sk ?_
                      refine sk ?_
                      refine sk ?_
                      refine u rfl rfl pF ?_
                      refine u rfl rfl asg ?_
                      refine jd ?_
                      refine w1 2 ?_
                      refine J_ret ?_
                      refine ⟨.inl rfl, _, rfl, .ofB ?_, trivial⟩
                      first | (simp_all [okPa, paSh]; done) | (simp_all [okPa, paSh]; omega)
                  · intro h61
                    replace h61 := of_decide_eq_false h61
                    refine u rfl rfl mv ?_
                    refine sk ?_
                    refine sk ?_
                    refine sk ?_
                    refine sk ?_
                    refine sk ?_
                    refine u rfl rfl pF ?_
                    refine u rfl rfl mv ?_
                    refine sk ?_
                    refine sk ?_
                    refine sk ?_
                    refine sk ?_
                    refine sk ?_
                    refine u rfl rfl pF ?_
                    refine u rfl rfl mv ?_
                    refine sk ?_
                    refine sk ?_
                    refine sk ?_
                    refine sk ?_
                    refine sk ?_
                    refine u rfl rfl pF ?_
                    refine u rfl rfl asg ?_
                    refine jd ?_
                    refine w1 2 ?_
                    refine J_ret ?_
                    refine ⟨.inl rfl, _, rfl, .ofB ?_, trivial⟩
                    first | (simp_all [okPa, paSh]; done) | (simp_all [okPa, paSh]; omega)
              · intro h46
                replace h46 := of_decide_eq_false h46
                refine u rfl rfl asg ?_
                refine jd ?_
                refine w8 1 2 3 4 13 45 2001 2003 ?_
                refine J_condF rfl ?_
                refine J_seq ?_
                refine js ?_
                refine JR.runB rfl rfl (r_eqI rfl rfl rfl rfl) ?_ ?_
                · intro h55
                  replace h55 := of_decide_eq_true h55
                  refine u rfl rfl asg ?_
                  refine jd ?_
                  refine w8 1 2 3 4 13 54 2001 2003 ?_
                  refine J_condT rfl ?_
                  refine J_skip ?_
                  refine J_condT rfl ?_
                  refine JR.start ?_
                  refine u rfl rfl asg ?_
                  refine jd ?_
                  refine w6 1 2 3 4 2001 2003 ?_
                  refine js ?_
                  refine u rfl rfl (fA 6 1) ?_
                  refine u rfl rfl ld ?_
                  refine u rfl rfl ln0 ?_
                  refine u rfl rfl mv ?_
                  refine JR.runB rfl rfl (r_eqI rfl rfl rfl rfl) ?_ ?_
                  · intro h61
                    replace h61 := of_decide_eq_true h61
                    refine u rfl rfl mv ?_
                    refine u rfl rfl (fA 3 1) ?_
                    refine u rfl rfl ld ?_
                    refine u rfl rfl (fA 3 1) ?_
                    refine u rfl rfl ld ?_
                    refine JR.runB rfl rfl (r_eqS rfl rfl rfl rfl) ?_ ?_
                    · intro h67
                      refine u rfl rfl pT ?_
                      refine u rfl rfl mv ?_
                      refine u rfl rfl (fA 4 1) ?_
                      refine u rfl rfl ld ?_
                      refine u rfl rfl (fA 4 1) ?_
                      refine u rfl rfl ld ?_
                      refine JR.runB rfl rfl (r_eqI rfl rfl rfl rfl) ?_ ?_
                      · intro h74
                        replace h74 := of_decide_eq_true h74
                        refine u rfl rfl pT ?_
                        refine u rfl rfl mv ?_
                        refine u rfl rfl (fA 5 1) ?_
                        refine u rfl rfl ld ?_
                        refine u rfl rfl (fA 5 1) ?_
                        refine u rfl rfl ld ?_
                        refine JR.runB rfl rfl (r_eqS rfl rfl rfl rfl) ?_ ?_
                        · intro h81
                          refine u rfl rfl pT ?_
                          refine u rfl rfl asg ?_
                          refine jd ?_
                          refine w1 2 ?_
                          refine J_ret ?_
                          refine ⟨.inl rfl, _, rfl, .ofB ?_, trivial⟩
                          replace h74 := h74.symm
                          first | (simp_all [okPa, paSh]; done) | (simp_all [okPa, paSh]; omega)
                        · intro h81
                          refine u rfl rfl pT ?_
                          refine u rfl rfl asg ?_
                          refine jd ?_
                          refine w1 2 ?_
                          refine J_ret ?_
                          refine ⟨.inl rfl, _, rfl, .ofB ?_, trivial⟩
                          replace h74 := h74.symm
                          first | (simp_all [okPa, paSh]; done) | (simp_all [okPa, paSh]; omega)
                      · intro h74
                        replace h74 := of_decide_eq_false h74
                        refine u rfl rfl pT ?_
                        refine u rfl rfl mv ?_
                        refine sk ?_
                        refine sk ?_
                        refine sk ?_
                        refine sk ?_
                        refine sk ?_
                        refine u rfl rfl pF ?_
                        refine u rfl rfl asg ?_
                        refine jd ?_
                        refine w1 2 ?_
                        refine J_ret ?_
                        refine ⟨.inl rfl, _, rfl, .ofB ?_, trivial⟩
                        first | (simp_all [okPa, paSh]; done) | (simp_all [okPa, paSh]; omega)
                    · intro h67
                      refine u rfl rfl pT ?_
                      refine u rfl rfl mv ?_
                      refine sk ?_
                      refine sk ?_
                      refine sk ?_
                      refine sk ?_
                      refine sk ?_
                      refine u rfl rfl pF ?_
                      refine u rfl rfl mv ?_
                      refine sk ?_
                      refine sk ?_
                      refine sk ?_
                      refine sk ?_
                      refine sk ?_
                      refine u rfl rfl pF ?_
                      refine u rfl rfl asg ?_
                      refine jd ?_
                      refine w1 2 ?_
                      refine J_ret ?_
                      refine ⟨.inl rfl, _, rfl, .ofB ?_, trivial⟩
                      first | (simp_all [okPa, paSh]; done) | (simp_all [okPa, paSh]; omega)
                  · intro h61
                    replace h61 := of_decide_eq_false h61
                    refine u rfl rfl mv ?_
                    refine sk ?_
                    refine sk ?_
                    refine sk ?_
                    refine sk ?_
                    refine sk ?_
                    refine u rfl rfl pF ?_
                    refine u rfl rfl mv ?_
                    refine sk ?_
                    refine sk ?_
                    refine sk ?_
                    refine sk ?_
                    refine sk ?_
                    refine u rfl rfl pF ?_
                    refine u rfl rfl mv ?_
                    refine sk ?_
                    refine sk ?_
                    refine sk ?_
                    refine sk ?_
                    refine sk ?_
                    refine u rfl rfl pF ?_
                    refine u rfl rfl asg ?_
                    refine jd ?_
                    refine w1 2 ?_
                    refine J_ret ?_
                    refine ⟨.inl rfl, _, rfl, .ofB ?_, trivial⟩
                    first | (simp_all [okPa, paSh]; done) | (simp_all [okPa, paSh]; omega)
                · intro h55
                  replace h55 := of_decide_eq_false h55
                  refine u rfl rfl asg ?_
                  refine jd ?_
                  refine w8 1 2 3 4 13 54 2001 2003 ?_
                  refine J_condF rfl ?_
                  refine JR.start ?_
                  refine JR.runB rfl rfl (r_eqI rfl rfl rfl rfl) ?_ ?_
                  · intro h56
                    replace h56 := of_decide_eq_true h56
                    refine u rfl rfl asg ?_
                    refine jd ?_
                    refine w7 1 2 3 4 54 2001 2003 ?_
                    refine J_condT rfl ?_
                    refine JR.start ?_
                    refine u rfl rfl asg ?_
                    refine jd ?_
                    refine w6 1 2 3 4 2001 2003 ?_
                    refine js ?_
                    refine u rfl rfl (fA 6 1) ?_
                    refine u rfl rfl ld ?_
                    refine u rfl rfl ln0 ?_
                    refine u rfl rfl mv ?_
                    refine JR.runB rfl rfl (r_eqI rfl rfl rfl rfl) ?_ ?_
                    · intro h61
                      replace h61 := of_decide_eq_true h61
                      refine u rfl rfl mv ?_
                      refine u rfl rfl (fA 3 1) ?_
                      refine u rfl rfl ld ?_
                      refine u rfl rfl (fA 3 1) ?_
                      refine u rfl rfl ld ?_
                      refine JR.runB rfl rfl (r_eqS rfl rfl rfl rfl) ?_ ?_
                      · intro h67
                        refine u rfl rfl pT ?_
                        refine u rfl rfl mv ?_
                        refine u rfl rfl (fA 4 1) ?_
                        refine u rfl rfl ld ?_
                        refine u rfl rfl (fA 4 1) ?_
                        refine u rfl rfl ld ?_
                        refine JR.runB rfl rfl (r_eqI rfl rfl rfl rfl) ?_ ?_
                        · intro h74
                          replace h74 := of_decide_eq_true h74
                          refine u rfl rfl pT ?_
                          refine u rfl rfl mv ?_
                          refine u rfl rfl (fA 5 1) ?_
                          refine u rfl rfl ld ?_
                          refine u rfl rfl (fA 5 1) ?_
                          refine u rfl rfl ld ?_
                          refine JR.runB rfl rfl (r_eqS rfl rfl rfl rfl) ?_ ?_
                          · intro h81
                            refine u rfl rfl pT ?_
                            refine u rfl rfl asg ?_
                            refine jd ?_
                            refine w1 2 ?_
                            refine J_ret ?_
                            refine ⟨.inl rfl, _, rfl, .ofB ?_, trivial⟩
                            replace h74 := h74.symm
                            first | (simp_all [okPa, paSh]; done) | (simp_all [okPa, paSh]; omega)
                          · intro h81
                            refine u rfl rfl pT ?_
                            refine u rfl rfl asg ?_
                            refine jd ?_
                            refine w1 2 ?_
                            refine J_ret ?_
                            refine ⟨.inl rfl, _, rfl, .ofB ?_, trivial⟩
                            replace h74 := h74.symm
                            first | (simp_all [okPa, paSh]; done) | (simp_all [okPa, paSh]; omega)
                        · intro h74
                          replace h74 := of_decide_eq_false h74
                          refine u rfl rfl pT ?_
                          refine u rfl rfl mv ?_
                          refine sk ?_
                          refine sk ?_
                          refine sk ?_
                          refine sk ?_
                          refine sk ?_
                          refine u rfl rfl pF ?_
                          refine u rfl rfl asg ?_
                          refine jd ?_
                          refine w1 2 ?_
                          refine J_ret ?_
                          refine ⟨.inl rfl, _, rfl, .ofB ?_, trivial⟩
                          first | (simp_all [okPa, paSh]; done) | (simp_all [okPa, paSh]; omega)
                      · intro h67
                        refine u rfl rfl pT ?_
                        refine u rfl rfl mv ?_
                        refine sk ?_
                        refine sk ?_
                        refine sk ?_
                        refine sk ?_
                        refine sk ?_
                        refine u rfl rfl pF ?_
                        refine u rfl rfl mv ?_
                        refine sk ?_
                        refine sk ?_
                        refine sk ?_
                        refine sk ?_
                        refine sk ?_
                        refine u rfl rfl pF ?_
                        refine u rfl rfl asg ?_
                        refine jd ?_
                        refine w1 2 ?_
                        refine J_ret ?_
                        refine ⟨.inl rfl, _, rfl, .ofB ?_, trivial⟩
                        first | (simp_all [okPa, paSh]; done) | (simp_all [okPa, paSh]; omega)
                    · intro h61
                      replace h61 := of_decide_eq_false h61
                      refine u rfl rfl mv ?_
                      refine sk ?_
                      refine sk ?_
                      refine sk ?_
                      refine sk ?_
                      refine sk ?_
                      refine u rfl rfl pF ?_
                      refine u rfl rfl mv ?_
                      refine sk ?_
                      refine sk ?_
                      refine sk ?_
                      refine sk ?_
                      refine sk ?_
                      refine u rfl rfl pF ?_
                      refine u rfl rfl mv ?_
                      refine sk ?_
                      refine sk ?_
                      refine sk ?_
                      refine sk ?_
                      refine sk ?_
                      refine u rfl rfl pF ?_
                      refine u rfl rfl asg ?_
                      refine jd ?_
                      refine w1 2 ?_
                      refine J_ret ?_
                      refine ⟨.inl rfl, _, rfl, .ofB ?_, trivial⟩
                      first | (simp_all [okPa, paSh]; done) | (simp_all [okPa, paSh]; omega)
                  · intro h56
                    replace h56 := of_decide_eq_false h56
                    refine u rfl rfl asg ?_
                    refine jd ?_
                    refine w7 1 2 3 4 54 2001 2003 ?_
                    refine J_condF rfl ?_
                    refine js ?_
                    refine u rfl rfl asg ?_
                    refine jd ?_
                    refine w6 1 2 3 4 2001 2003 ?_
                    refine J_ret ?_
                    refine ⟨.inl rfl, _, rfl, .ofB ?_, trivial⟩
                    first | (simp_all [okPa, paSh]; done) | (simp_all [okPa, paSh]; omega)

end Go.Proofs.Ytlagglkpbnbmeaa
