/- The walk of the law ParseRight. -/
import Derived.Test.YtlagglkpbnbmeaaIn
import Derived.Test.YtlagglkpbnbmeaaRi6
import Derived.Test.YtlagglkpbnbmeaaEw
namespace Go.Proofs.Ytlagglkpbnbmeaa
open Go Go.RowKit
set_option maxRecDepth 100000
set_option maxHeartbeats 4000000
set_option linter.unusedVariables false
set_option linter.unusedSimpArgs false

theorem lParseRight (bs : List UInt8) (hb : bs.length ≤ 9223372036854775807) : Con Try.prog 3 [.c (.sl 1 (bcells bs))] [] (.c (.lit (.bool true))) [] := by
  have hbl : (bcells bs).length = bs.length := by simp [bcells]
  refine con_intro rfl rfl (by kernel_rfl) (by kernel_rfl) ?_; refine js ?_; refine u rfl rfl asg ?_; refine jd ?_; refine w2 0 2 ?_; refine J_seq ?_; refine js ?_; refine u rfl rfl mv ?_; refine u rfl rfl ln0 ?_; refine JR.runB rfl rfl (r_gtI rfl rfl rfl rfl) ?_ ?_
  · intro h8; replace h8 := of_decide_eq_true h8; refine jd ?_; refine w3 0 2 8 ?_; refine J_condT rfl ?_; refine js ?_; refine u rfl rfl asg ?_; refine jd ?_; refine w2 0 2 ?_; refine J_ret ?_; exact ⟨.inl rfl, _, rfl, .refl _, trivial⟩
  · intro h8; replace h8 := of_decide_eq_false h8; refine jd ?_; refine w3 0 2 8 ?_; refine J_condF rfl ?_; refine J_skip ?_; refine js ?_; refine u rfl rfl mv ?_
    rcases hM : mParse bs with ⟨p1, p2⟩ | y
    · have c1 := eParse bs (by omega) hM; obtain ⟨rfl, hp1, hp2⟩ := parse_bad (by omega) hM; dsimp only [parD] at c1; refine u rfl rfl (cl (c1)) ?_; refine u rfl rfl mv ?_; refine u rfl rfl xt ?_; refine u rfl rfl xt ?_; refine u rfl rfl xt ?_; refine u rfl rfl (r_alloc (x := 2003) (zs := zx) dx rfl rfl rfl (by kernel_rfl) kx) ?_; refine u rfl rfl sA ?_; refine u rfl rfl asg ?_; refine u rfl rfl asg ?_; refine jd ?_; refine w6 0 2 3 4 5 2003 ?_; refine J_seq ?_; refine js ?_; refine u rfl rfl mv ?_; refine u rfl rfl (r_neI rfl rfl rfl rfl) ?_; refine jd ?_; refine w7 0 2 3 4 5 16 2003 ?_; refine J_condT rfl ?_; refine js ?_; refine u rfl rfl mv ?_; refine u rfl rfl (r_eqI rfl rfl rfl rfl) ?_; refine u rfl rfl mv ?_; refine u rfl rfl mv ?_; refine u rfl rfl ((r_geI rfl rfl rfl rfl).cast (by rw [decide_eq_true (by omega)])) ?_; refine u rfl rfl pT ?_; refine u rfl rfl mv ?_; refine u rfl rfl mv ?_
      refine u rfl rfl mv ?_; refine u rfl rfl ln0 ?_; refine u rfl rfl ((r_leI rfl rfl rfl rfl).cast (by rw [decide_eq_true (by omega)])) ?_; refine u rfl rfl pT ?_; refine u rfl rfl mv ?_; refine u rfl rfl (fA 0 1) ?_; refine u rfl rfl ld ?_; refine u rfl rfl ((r_eqI rfl rfl rfl rfl).cast (by rfl)) ?_; refine u rfl rfl pT ?_; refine u rfl rfl mv ?_; refine u rfl rfl (cl (kWakes6)) ?_; refine u rfl rfl pT ?_; refine u rfl rfl asg ?_; refine jd ?_; refine w5 0 2 3 4 2003 ?_; refine J_ret ?_; exact ⟨.inl rfl, _, rfl, .refl _, trivial⟩
    · have c1 := eParse bs (by omega) hM; obtain ⟨hy1, hy2, hy3⟩ := parse_good (by omega) hM; have c2 := tCheck (n := 1000000000) (by decide) hy3; rw [hy2] at c2; have c3 := tInside (n := 1000000000) (by decide) (bs.length : Int) _ y (Nat.le_refl _) hy3; rw [hy1] at c3; rw [← hbl] at c3; dsimp only [parD] at c1; refine u rfl rfl (cl (c1)) ?_; refine u rfl rfl mv ?_; refine u rfl rfl xt ?_; refine u rfl rfl xt ?_; refine u rfl rfl xt ?_; refine u rfl rfl (r_alloc (x := 2003) (zs := zx) dx rfl rfl rfl (by kernel_rfl) kx) ?_; refine u rfl rfl sA ?_; refine u rfl rfl asg ?_; refine u rfl rfl asg ?_; refine jd ?_; refine w6 0 2 3 4 5 2003 ?_; refine J_seq ?_; refine js ?_; refine u rfl rfl mv ?_; refine u rfl rfl (r_neI rfl rfl rfl rfl) ?_; refine jd ?_; refine w7 0 2 3 4 5 16 2003 ?_; refine J_condF rfl ?_; refine J_skip ?_; refine js ?_; refine u rfl rfl mv ?_; refine u rfl rfl (r_eqI rfl rfl rfl rfl) ?_
      refine u rfl rfl mv ?_; refine u rfl rfl (lA 16) ?_; refine u rfl rfl (cl (c2)) ?_; refine u rfl rfl (r_eqI rfl rfl rfl rfl) ?_; refine u rfl rfl pT ?_; refine u rfl rfl mv ?_; refine u rfl rfl (lA 16) ?_; refine u rfl rfl mv ?_; refine u rfl rfl ln0 ?_; refine u rfl rfl (cl (c3)) ?_; refine u rfl rfl pT ?_; refine u rfl rfl mv ?_; refine u rfl rfl (cl (kWakes6)) ?_; refine u rfl rfl pT ?_; refine u rfl rfl asg ?_; refine jd ?_; refine w1 2 ?_; refine J_ret ?_; exact ⟨.inl rfl, _, rfl, .refl _, trivial⟩

end Go.Proofs.Ytlagglkpbnbmeaa
