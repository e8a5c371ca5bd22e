/- The walk of the law ParseExact. -/
import Derived.Test.YtkipkplpmeholaaGreatEs
import Derived.Test.YtkipkplpmeholaaGreatEw
namespace Go.Proofs.YtkipkplpmeholaaGreat
open Go Go.RowKit
set_option maxRecDepth 100000
set_option linter.unusedVariables false

theorem mParse_b {bs : List UInt8} {x : Ex} (h : mParse bs = .ok x) : ExB 20000 x := by
  unfold mParse at h
  rcases hs : mScan bs with k | ts
  · simp only [hs] at h; cases h
  · have hl := mScan_len hs; simp only [hs] at h
    rcases hq : qExprF ts (ts.length + 1) 0 with ⟨e, q⟩ | ⟨y, j⟩
    · simp only [hq] at h
      split at h <;> cases h
    · have b := qbOk (qExprF_b ts (n := 20000) (by omega) (ts.length + 1) 0) hq; simp only [hq] at h
      split at h
      · cases h; exact b
      · cases h
def exOf (M : Except (Int × Int) Ex) : Ex := match M with | .ok x => x | .error _ => exB 0
def atOf (M : Except (Int × Int) Ex) : Int := match M with | .ok _ => 0 | .error p => p.1
def erOf (M : Except (Int × Int) Ex) : Int := match M with | .ok _ => 0 | .error p => p.2
theorem parD_eq (M : Except (Int × Int) Ex) : parD M = .tup [.agg (exX (exOf M)), .c (.lit (.int .i64 (atOf M))), .c (.lit (.int .i64 (erOf M)))] := by
  rcases M with ⟨_, _⟩ | _ <;> rfl
theorem lParseExact (bs : List UInt8) (hb : bs.length ≤ 9223372036854775807) : Con Tryz.prog 3 [.c (.sl 1 (bcells bs))] [] (.c (.lit (.bool true))) [] := by
  have hbl : (bcells bs).length = bs.length := by simp [bcells]
  refine con_intro rfl rfl (by kernel_rfl) (by kernel_rfl) ?_; refine js ?_; refine u rfl rfl asg ?_; refine jd ?_; refine w2 0 2 ?_; refine J_seq ?_; refine js ?_; refine u rfl rfl mv ?_; refine u rfl rfl ln0 ?_; refine JR.runB rfl rfl (r_gtI rfl rfl rfl rfl) ?_ ?_
  · intro h12; replace h12 := of_decide_eq_true h12; refine jd ?_; refine w3 0 2 12 ?_; refine J_condT rfl ?_; refine js ?_; refine u rfl rfl asg ?_; refine jd ?_; refine w2 0 2 ?_; refine J_ret ?_; exact ⟨.inl rfl, _, rfl, .refl _, trivial⟩
  · intro h12; replace h12 := of_decide_eq_false h12; have c1 := eParse bs (by omega) rfl; have c2 := pParse bs (by omega) rfl; rw [parD_eq] at c1 c2; have c3 := sSameAt (n := 20000) (by decide) (e := exOf (mParse bs)) (by rcases hM : mParse bs with p | x; exact ex0 (by decide); exact mParse_b hM); refine jd ?_; refine w3 0 2 12 ?_; refine J_condF rfl ?_; refine J_skip ?_; refine js ?_; refine u rfl rfl mv ?_; refine u rfl rfl (r_strOf rfl rfl (by kernel_rfl) rfl) ?_; refine u rfl rfl asg ?_; refine jd ?_; refine w3 0 2 3 ?_; refine js ?_; refine u rfl rfl mv ?_; refine u rfl rfl (cl (c1)) ?_; refine u rfl rfl mv ?_; refine u rfl rfl xt ?_; refine u rfl rfl xt ?_; refine u rfl rfl xt ?_; refine u rfl rfl (r_alloc (x := 2004) (zs := zx) dx rfl rfl rfl (by kernel_rfl) kx) ?_; refine u rfl rfl sA ?_; refine u rfl rfl asg ?_; refine u rfl rfl asg ?_; refine jd ?_; refine w7 0 2 3 4 5 6 2004 ?_
    refine js ?_; refine u rfl rfl mv ?_; refine u rfl rfl (cl (c2)) ?_; refine u rfl rfl mv ?_; refine u rfl rfl xt ?_; refine u rfl rfl xt ?_; refine u rfl rfl xt ?_; refine u rfl rfl (r_alloc (x := 2007) (zs := zx) dx rfl rfl rfl (by kernel_rfl) kx) ?_; refine u rfl rfl sA ?_; refine u rfl rfl asg ?_; refine u rfl rfl asg ?_; refine jd ?_; refine w11 0 2 3 4 5 6 7 8 9 2004 2007 ?_; refine js ?_; refine u rfl rfl mv ?_; refine u rfl rfl mv ?_; refine u rfl rfl ((r_eqI rfl rfl rfl rfl).cast (cast_b (b' := true) (by simp))) ?_; refine u rfl rfl mv ?_; refine u rfl rfl mv ?_; refine u rfl rfl mv ?_; refine u rfl rfl ((r_eqI rfl rfl rfl rfl).cast (cast_b (b' := true) (by simp))) ?_; refine u rfl rfl pT ?_; refine u rfl rfl mv ?_; refine u rfl rfl (lA 16) ?_; refine u rfl rfl (lA 16) ?_; refine u rfl rfl (cl (c3)) ?_; refine u rfl rfl pT ?_; refine u rfl rfl mv ?_; refine u rfl rfl mv ?_; refine u rfl rfl (r_strOf rfl rfl (by kernel_rfl) rfl) ?_
    refine u rfl rfl mv ?_; refine u rfl rfl ((r_eqS rfl rfl rfl rfl).cast (cast_b (b' := true) (by simp))) ?_; refine u rfl rfl pT ?_; refine u rfl rfl mv ?_; refine u rfl rfl (cl (kWakes6)) ?_; refine u rfl rfl pT ?_; refine u rfl rfl asg ?_; refine jd ?_; refine w1 2 ?_; refine J_ret ?_; exact ⟨.inl rfl, _, rfl, .refl _, trivial⟩

end Go.Proofs.YtkipkplpmeholaaGreat
