/- The walk of the law TellExact. -/
import Derived.Test.YtccdnmjijakofaaGreatDoorRx
import Derived.Test.YtccdnmjijakofaaGreatDoorTl
namespace Go.Proofs.YtccdnmjijakofaaGreatDoor
open Go Go.RowKit
set_option maxRecDepth 100000
set_option maxHeartbeats 1000000
set_option linter.unusedVariables false
set_option linter.unusedSimpArgs false

theorem beq_self' (s : List UInt8) : (s == s) = true := by simp
def Lb.I (x : Lb) : Prop := I64 x.a ∧ I64 x.b
theorem lb_ok {l : List Lb} (hl : ∀ x, x ∈ l → x.I) (h : lbHeavy l = false) : ∀ x, x ∈ l → x.OK := fun x hx => by
  simp only [lbHeavy, Bool.or_eq_false_iff, Bool.not_eq_false'] at h
  have h1 := List.all_eq_true.1 h.2 x hx
  simp only [lbSmall, Bool.and_eq_true] at h1
  have h2 := small_size h1.1
  have h3 := small_size h1.2
  exact ⟨(hl x hx).1, (hl x hx).2, by omega, by omega⟩
theorem lTellExact (t : Ty) (v : Va) (hvI : v.I) (hvL : v.L) (ba bb y bl br : Int) (nm : List UInt8) (hba : I64 ba) (hbb : I64 bb) (hnm : nm.length ≤ 9223372036854775807)
    (k : Int) (rv : Va) (n : Int) (g : Bool) (a b st : Int) (hrI : rv.I) (hrL : rv.L) (hn : I64 n) (ha : I64 a) (hb : I64 b) (l : List Lb) (hl : ∀ x, x ∈ l → x.I) :
    Con Tryz.prog 3 [.agg (tyE t), .agg (vaX v), .agg [.lit (.int .i64 ba), .lit (.int .i64 bb), .lit (.int .i64 y), .lit (.int .i64 bl), .lit (.int .i64 br), .lit (str nm)], .agg [.lit (.int .i64 k), .lit (.int .i64 rv.kind), .lit (.int .i64 rv.num), .lit (str rv.str), .lit (.int .i64 rv.coe.kind), .lit (.int .i64 rv.coe.head), .lit (.int .i64 rv.coe.lab), .lit (.bool rv.coe.neg), .sl 5 (cosD rv.coe.kids), .sl 9 (vasD rv.kids), .lit (.int .i64 n), .lit (.bool g), .lit (.int .i64 a), .lit (.int .i64 b), .lit (.int .i64 st)], .c (.sl 8 (lbR l))] [] (.c (.lit (.bool true))) [] := by
  have hS := kSmall [t] (by simp)
  have hH := kVaHeavy [v, rv] (by simp) (fun x hx => by simp only [List.mem_cons, List.not_mem_nil, or_false] at hx; rcases hx with rfl | rfl <;> assumption)
  refine con_intro rfl rfl (by kernel_rfl) (by kernel_rfl) ?_
  refine js ?_
  refine u rfl rfl (r_boxA (x := 2005) rfl rfl rfl rfl) ?_
  refine u rfl rfl (r_boxA (x := 2006) rfl rfl rfl rfl) ?_
  refine u rfl rfl (r_boxA (x := 2007) rfl rfl rfl rfl) ?_
  refine u rfl rfl (r_boxA (x := 2008) rfl rfl rfl rfl) ?_
  refine u rfl rfl asg ?_
  refine jd ?_
  refine w10 4 5 6 7 8 10 2005 2006 2007 2008 ?_
  refine J_seq ?_
  refine js ?_
  refine u rfl rfl (lA 3) ?_
  refine u rfl rfl (r_buildSlice (e := 24) (sz := 3) (zs := zt) (tysD [t]) rfl rfl (by kernel_rfl) (by kernel_rfl) rfl rfl (by simp only [tysD, tyD_eq]; rfl) (by simp only [tysD, tyD_eq]; rfl)) ?_
  refine JR.runC rfl rfl (cl (hS)) rfl ?_ ?_
  · intro h13
    have hsm : tySmall t = true := by simpa using h13
    have hs1 := small_size hsm
    refine u rfl rfl nt ?_
    refine u rfl rfl mv ?_
    refine u rfl rfl (lA 9) ?_
    refine u rfl rfl (fA 1 9) ?_
    refine u rfl rfl (lA 9) ?_
    refine u rfl rfl (r_buildSlice (e := 30) (sz := 9) (zs := [.int .i64 0, .int .i64 0, str [], .int .i64 0, .int .i64 0, .int .i64 0, .bool false, .slice none 0 0, .slice none 0 0]) (vasD [v, rv]) rfl rfl (by kernel_rfl) (by kernel_rfl) rfl rfl (by simp only [vasD, vaD_eq]; rfl) (by simp only [vasD, vaD_eq]; rfl)) ?_
    refine JR.runC rfl rfl (cl (hH)) rfl ?_ ?_
    · intro h20
      refine u rfl rfl pF ?_
      refine u rfl rfl mv ?_
      refine sk ?_
      refine sk ?_
      refine u rfl rfl pT ?_
      refine u rfl rfl mv ?_
      refine sk ?_
      refine sk ?_
      refine sk ?_
      refine sk ?_
      refine u rfl rfl pT ?_
      refine jd ?_
      refine w11 4 5 6 7 8 10 31 2005 2006 2007 2008 ?_
      refine J_condT rfl ?_
      refine js ?_
      refine u rfl rfl asg ?_
      refine jd ?_
      refine w10 4 5 6 7 8 10 2005 2006 2007 2008 ?_
      refine J_ret ?_
      exact ⟨.inl rfl, _, rfl, .refl _, trivial⟩
    · intro h20
      obtain ⟨hsz, hlg⟩ := not_heavy h20
      have hv1 := hlg v (by simp)
      have hr1 := hlg rv (by simp)
      simp only [Va.sizes] at hsz
      refine u rfl rfl pF ?_
      refine u rfl rfl mv ?_
      refine u rfl rfl mv ?_
      refine JR.runC rfl rfl (cl (kLbHeavy l)) rfl ?_ ?_
      · intro h24
        refine u rfl rfl pF ?_
        refine u rfl rfl mv ?_
        refine sk ?_
        refine sk ?_
        refine sk ?_
        refine sk ?_
        refine u rfl rfl pT ?_
        refine jd ?_
        refine w11 4 5 6 7 8 10 31 2005 2006 2007 2008 ?_
        refine J_condT rfl ?_
        refine js ?_
        refine u rfl rfl asg ?_
        refine jd ?_
        refine w10 4 5 6 7 8 10 2005 2006 2007 2008 ?_
        refine J_ret ?_
        exact ⟨.inl rfl, _, rfl, .refl _, trivial⟩
      · intro h24
        have hlo := lb_ok hl h24
        refine u rfl rfl pF ?_
        refine u rfl rfl mv ?_
        refine u rfl rfl (fA 5 1) ?_
        refine u rfl rfl ld ?_
        refine u rfl rfl (r_lenS rfl rfl (by kernel_rfl) rfl) ?_
        refine JR.runB rfl rfl (r_gtI rfl rfl rfl rfl) ?_ ?_
        · intro h30
          replace h30 := of_decide_eq_true h30
          refine u rfl rfl pF ?_
          refine jd ?_
          refine w11 4 5 6 7 8 10 31 2005 2006 2007 2008 ?_
          refine J_condT rfl ?_
          refine js ?_
          refine u rfl rfl asg ?_
          refine jd ?_
          refine w10 4 5 6 7 8 10 2005 2006 2007 2008 ?_
          refine J_ret ?_
          exact ⟨.inl rfl, _, rfl, .refl _, trivial⟩
        · intro h30
          replace h30 := of_decide_eq_false h30
          refine u rfl rfl pF ?_
          refine jd ?_
          refine w11 4 5 6 7 8 10 31 2005 2006 2007 2008 ?_
          refine J_condF rfl ?_
          refine J_skip ?_
          refine js ?_
          refine u rfl rfl (lA 3) ?_
          refine u rfl rfl (cl (kTtype t (by omega))) ?_
          refine u rfl rfl (lA 3) ?_
          refine u rfl rfl (cl (kXtype t (by omega))) ?_
          refine u rfl rfl ((r_eqS rfl rfl rfl rfl).cast (cast_b (b' := true) (by exact beq_self' _))) ?_
          refine u rfl rfl mv ?_
          refine u rfl rfl (lA 9) ?_
          refine u rfl rfl (cl (kTval v hvI hv1 (by omega))) ?_
          refine u rfl rfl (lA 9) ?_
          refine u rfl rfl (cl (kXVal v hvI hv1 (by omega))) ?_
          refine u rfl rfl ((r_eqS rfl rfl rfl rfl).cast (cast_b (b' := true) (by exact beq_self' _))) ?_
          refine u rfl rfl pT ?_
          refine u rfl rfl mv ?_
          refine u rfl rfl (lA 6) ?_
          refine u rfl rfl (cl (kTbad ba bb y bl br nm hba hbb (by omega))) ?_
          refine u rfl rfl (lA 6) ?_
          refine u rfl rfl (cl (kXbad ba bb y bl br nm hba hbb (by omega))) ?_
          refine u rfl rfl ((r_eqS rfl rfl rfl rfl).cast (cast_b (b' := true) (by exact beq_self' _))) ?_
          refine u rfl rfl pT ?_
          refine u rfl rfl mv ?_
          refine u rfl rfl (lA 15) ?_
          refine u rfl rfl mv ?_
          refine u rfl rfl (cl (kTresult k rv n g a b st l hrI hr1 (by omega) hn ha hb hlo)) ?_
          refine u rfl rfl (lA 15) ?_
          refine u rfl rfl mv ?_
          refine u rfl rfl (cl (kXresult k rv n g a b st l hrI hr1 (by omega) hn ha hb hlo)) ?_
          refine u rfl rfl ((r_eqS rfl rfl rfl rfl).cast (cast_b (b' := true) (by exact beq_self' _))) ?_
          refine u rfl rfl pT ?_
          refine u rfl rfl mv ?_
          refine u rfl rfl (cl (kWakes27)) ?_
          refine u rfl rfl pT ?_
          refine u rfl rfl asg ?_
          refine jD [0, 1, 0, 7, 15, 31, 63, 127, 63, 511, 1023, 2047, 4095, 8191, 16383, 8191, 65535, 131071, 262143, 524287, 1048575, 1048575, 4194303, 1048575, 1048575, 33554431, 67108863, 134217727, 268435455, 536870911, 1073741823, 2147483647] ?_
          refine w1 10 ?_
          refine J_ret ?_
          exact ⟨.inl rfl, _, rfl, .refl _, trivial⟩
  · intro h13
    refine u rfl rfl nt ?_
    refine u rfl rfl mv ?_
    refine sk ?_
    refine sk ?_
    refine sk ?_
    refine sk ?_
    refine sk ?_
    refine u rfl rfl pT ?_
    refine u rfl rfl mv ?_
    refine sk ?_
    refine sk ?_
    refine u rfl rfl pT ?_
    refine u rfl rfl mv ?_
    refine sk ?_
    refine sk ?_
    refine sk ?_
    refine sk ?_
    refine u rfl rfl pT ?_
    refine jd ?_
    refine w11 4 5 6 7 8 10 31 2005 2006 2007 2008 ?_
    refine J_condT rfl ?_
    refine js ?_
    refine u rfl rfl asg ?_
    refine jd ?_
    refine w10 4 5 6 7 8 10 2005 2006 2007 2008 ?_
    refine J_ret ?_
    exact ⟨.inl rfl, _, rfl, .refl _, trivial⟩

end Go.Proofs.YtccdnmjijakofaaGreatDoor
