/- The walk of tell.Bad, tell.Result, tell.Outcome, and of the wake-up call of layer 27. -/
import Derived.Test.YtccdnmjijakofaaGreatDoorTc
namespace Go.Proofs.YtccdnmjijakofaaGreatDoor
open Go Go.RowKit
set_option maxRecDepth 100000
set_option maxHeartbeats 1000000
set_option linter.unusedVariables false
set_option linter.unusedSimpArgs false

theorem kdT_len (k : Int) : (kdT k).length ≤ 8 := by
  unfold kdT
  repeat' split
  all_goals decide
theorem spT_len (a b : Int) : (spT a b).length ≤ 43 := by
  have q1 := mNum_20 a; have q2 := mNum_20 b
  unfold spT
  simp only [List.length_append, List.length_cons, List.length_nil]
  omega
theorem tyT_len (t : Ty) : (tyT t).length ≤ 30 * t.size := by
  unfold tyT
  split
  · split
    · rename_i h
      have := mTxt_len (right_ty _ _ (Nat.le_refl _) h)
      have := canon_size t
      omega
    · exact Nat.zero_le _
  · exact Nat.zero_le _
theorem tlT_len {v : Va} (hI : v.I) : (tlT v).length ≤ 604 * v.size := by
  cases hv : vTold v with
  | false => rw [tlT_not hv]; exact Nat.zero_le _
  | true =>
    obtain ⟨t, hok, rfl⟩ := told_of hI hv
    rw [tlT_va hok]
    exact t.tx_len false hok
def bdP (a b : Int) : List UInt8 := [116, 121, 112, 101, 32, 101, 114, 114, 111, 114, 32, 97, 116, 32] ++ spT a b ++ [58, 32]
def bdT (a b y l r : Int) (nm : List UInt8) : List UInt8 := if y = 4 then bdP a b ++ kdT l ++ [32, 105, 115, 32, 110, 111, 116, 32] ++ kdT r else if y = 5 then bdP a b ++ [97, 32, 116, 121, 112, 101, 32, 119, 105, 116, 104, 105, 110, 32, 105, 116, 115, 101, 108, 102] else if y = 6 then bdP a b ++ [110, 111, 32] ++ nm else []
theorem bdP_len (a b : Int) : (bdP a b).length ≤ 60 := by
  have q := spT_len a b
  unfold bdP
  simp only [List.length_append, List.length_cons, List.length_nil]
  omega
theorem bdT_len (a b y l r : Int) (nm : List UInt8) : (bdT a b y l r nm).length ≤ 100 + nm.length := by
  have q := bdP_len a b; have q1 := kdT_len l; have q2 := kdT_len r
  unfold bdT
  split
  · simp only [List.length_append, List.length_cons, List.length_nil]; omega
  split
  · simp only [List.length_append, List.length_cons, List.length_nil]; omega
  split
  · simp only [List.length_append, List.length_cons, List.length_nil]; omega
  · exact Nat.zero_le _
theorem kTbad (a b y l r : Int) (nm : List UInt8) (ha : I64 a) (hb : I64 b) (hn : nm.length ≤ 1000000) : Con Tryz.prog 12 [.agg [.lit (.int .i64 a), .lit (.int .i64 b), .lit (.int .i64 y), .lit (.int .i64 l), .lit (.int .i64 r), .lit (str nm)]] [] (.c (.lit (str (bdT a b y l r nm)))) [] := by
  have q0 := spT_len a b
  have q1 := kdT_len l
  have q2 := kdT_len r
  refine con_intro rfl rfl (by kernel_rfl) (by kernel_rfl) ?_
  refine js ?_
  refine u rfl rfl (r_boxA (x := 2001) rfl rfl rfl rfl) ?_
  refine u rfl rfl asg ?_
  refine jd ?_
  refine w3 1 2 2001 ?_
  refine js ?_
  refine u rfl rfl (fA 0 2) ?_
  refine u rfl rfl (lA 2) ?_
  refine u rfl rfl (cl (kSpan a b ha hb)) ?_
  refine u rfl rfl (r_catS rfl rfl rfl rfl (by first | omega | (simp only [List.length_append, List.length_cons, List.length_nil]; omega))) ?_
  refine u rfl rfl (r_catS rfl rfl rfl rfl (by first | omega | (simp only [List.length_append, List.length_cons, List.length_nil]; omega))) ?_
  refine u rfl rfl asg ?_
  refine jd ?_
  refine w4 1 2 3 2001 ?_
  refine J_seq ?_
  refine js ?_
  refine u rfl rfl (fA 2 1) ?_
  refine u rfl rfl ld ?_
  refine jd ?_
  refine w5 1 2 3 10 2001 ?_
  refine J_block ?_
  refine js ?_
  refine JR.runB rfl rfl (r_eqI rfl rfl rfl rfl) ?_ ?_
  · intro h12
    replace h12 := of_decide_eq_true h12
    refine u rfl rfl asg ?_
    refine jd ?_
    refine w6 1 2 3 10 11 2001 ?_
    refine J_condT rfl ?_
    refine js ?_
    refine u rfl rfl mv ?_
    refine u rfl rfl (fA 3 1) ?_
    refine u rfl rfl ld ?_
    refine u rfl rfl (cl (kKind l)) ?_
    refine u rfl rfl (r_catS rfl rfl rfl rfl (by first | omega | (simp only [List.length_append, List.length_cons, List.length_nil]; omega))) ?_
    refine u rfl rfl (r_catS rfl rfl rfl rfl (by first | omega | (simp only [List.length_append, List.length_cons, List.length_nil]; omega))) ?_
    refine u rfl rfl (fA 4 1) ?_
    refine u rfl rfl ld ?_
    refine u rfl rfl (cl (kKind r)) ?_
    refine u rfl rfl (r_catS rfl rfl rfl rfl (by first | omega | (simp only [List.length_append, List.length_cons, List.length_nil]; omega))) ?_
    refine u rfl rfl asg ?_
    refine jD [0, 0, 2, 6, 15, 31, 0, 64, 206, 511, 1023] ?_
    refine w1 2 ?_
    refine J_ret ?_
    refine ⟨.inl rfl, _, rfl, .ofS ?_, trivial⟩
    simp_all [bdT, bdP]
  · intro h12
    replace h12 := of_decide_eq_false h12
    refine u rfl rfl asg ?_
    refine jd ?_
    refine w6 1 2 3 10 11 2001 ?_
    refine J_condF rfl ?_
    refine js ?_
    refine JR.runB rfl rfl (r_eqI rfl rfl rfl rfl) ?_ ?_
    · intro h24
      replace h24 := of_decide_eq_true h24
      refine u rfl rfl asg ?_
      refine jd ?_
      refine w6 1 2 3 10 23 2001 ?_
      refine J_condT rfl ?_
      refine js ?_
      refine u rfl rfl mv ?_
      refine u rfl rfl (r_catS rfl rfl rfl rfl (by first | omega | (simp only [List.length_append, List.length_cons, List.length_nil]; omega))) ?_
      refine u rfl rfl asg ?_
      refine jd ?_
      refine w1 2 ?_
      refine J_ret ?_
      refine ⟨.inl rfl, _, rfl, .ofS ?_, trivial⟩
      simp_all [bdT, bdP]
    · intro h24
      replace h24 := of_decide_eq_false h24
      refine u rfl rfl asg ?_
      refine jd ?_
      refine w6 1 2 3 10 23 2001 ?_
      refine J_condF rfl ?_
      refine js ?_
      refine JR.runB rfl rfl (r_eqI rfl rfl rfl rfl) ?_ ?_
      · intro h28
        replace h28 := of_decide_eq_true h28
        refine u rfl rfl asg ?_
        refine jd ?_
        refine w5 1 2 3 27 2001 ?_
        refine J_condT rfl ?_
        refine js ?_
        refine u rfl rfl mv ?_
        refine u rfl rfl (r_catS rfl rfl rfl rfl (by first | omega | (simp only [List.length_append, List.length_cons, List.length_nil]; omega))) ?_
        refine u rfl rfl (fA 5 1) ?_
        refine u rfl rfl ld ?_
        refine u rfl rfl (r_catS rfl rfl rfl rfl (by first | omega | (simp only [List.length_append, List.length_cons, List.length_nil]; omega))) ?_
        refine u rfl rfl asg ?_
        refine jd ?_
        refine w1 2 ?_
        refine J_ret ?_
        refine ⟨.inl rfl, _, rfl, .ofS ?_, trivial⟩
        simp_all [bdT, bdP]
      · intro h28
        replace h28 := of_decide_eq_false h28
        refine u rfl rfl asg ?_
        refine jd ?_
        refine w5 1 2 3 27 2001 ?_
        refine J_condF rfl ?_
        refine J_skip ?_
        refine js ?_
        refine u rfl rfl asg ?_
        refine jd ?_
        refine w1 2 ?_
        refine J_ret ?_
        refine ⟨.inl rfl, _, rfl, .ofS ?_, trivial⟩
        simp_all [bdT, bdP]

structure Lb where
  a : Int
  b : Int
  f : Ty
  t : Ty
abbrev lbX (x : Lb) : List D := [.lit (.int .i64 x.a), .lit (.int .i64 x.b), .lit (.int .i64 x.f.kind), .lit (.int .i64 x.f.num), .sl 3 (tysD x.f.kids), .lit (.int .i64 x.t.kind), .lit (.int .i64 x.t.num), .sl 3 (tysD x.t.kids)]
def lbR (l : List Lb) : List (List D) := l.map lbX
theorem lbR_len (l : List Lb) : (lbR l).length = l.length := by simp [lbR]
theorem lbR_at {l : List Lb} {i : Int} {x : Lb} (h : l[i.toNat]? = some x) : (lbR l)[i.toNat]? = some (lbX x) := by simp [lbR, h]
def Lb.OK (x : Lb) : Prop := I64 x.a ∧ I64 x.b ∧ x.f.size ≤ 10000 ∧ x.t.size ≤ 10000
def rsB (n : Int) (g : Bool) : List UInt8 := [98, 108, 97, 109, 101, 32] ++ mNum n ++ (if g then [45] else [43])
def rsL (x : Lb) : List UInt8 := [32, 97, 116, 32] ++ spT x.a x.b ++ [58, 32] ++ tyT x.f ++ [32, 61, 62, 32] ++ tyT x.t
/-- what a run came to: its kind, value, label, side, place, the labels -/
def rsT (k : Int) (v : Va) (n : Int) (g : Bool) (a b : Int) (l : List Lb) : List UInt8 :=
  if k = 1 then [118, 97, 108, 117, 101, 32] ++ tlT v
  else if k = 2 then (if 0 ≤ n ∧ n < l.length then rsB n g ++ rsL ((l[n.toNat]?).getD ⟨0, 0, .leaf 0, .leaf 0⟩) else rsB n g)
  else if k = 3 then [100, 105, 118, 105, 115, 105, 111, 110, 32, 98, 121, 32, 48, 32, 97, 116, 32] ++ spT a b
  else if k = 4 then [110, 111, 32, 109, 97, 116, 99, 104, 32, 97, 116, 32] ++ spT a b
  else if k = 5 then [111, 117, 116, 32, 111, 102, 32, 102, 117, 101, 108]
  else if k = 6 then [115, 116, 117, 99, 107]
  else []
theorem rsB_len (n : Int) (g : Bool) : (rsB n g).length ≤ 30 := by
  have q := mNum_20 n
  unfold rsB
  split <;> (simp only [List.length_append, List.length_cons, List.length_nil]; omega)
theorem rsL_len {x : Lb} (h : x.OK) : (rsL x).length ≤ 700000 := by
  have q := spT_len x.a x.b; have q1 := tyT_len x.f; have q2 := tyT_len x.t
  have h1 := h.2.2.1; have h2 := h.2.2.2
  unfold rsL
  simp only [List.length_append, List.length_cons, List.length_nil]
  omega
theorem rsT_len {k n a b : Int} {v : Va} {g : Bool} {l : List Lb} (hI : v.I) (hs : v.size ≤ 1000) (hl : ∀ x, x ∈ l → x.OK) : (rsT k v n g a b l).length ≤ 1000000 := by
  have q := tlT_len hI; have q1 := spT_len a b; have q2 := rsB_len n g
  unfold rsT
  split
  · simp only [List.length_append, List.length_cons, List.length_nil]; omega
  split
  · split
    · rename_i h
      obtain ⟨x, hx⟩ := get_some (l := l) (i := n.toNat) (by omega)
      have := rsL_len (hl x (List.mem_of_getElem? hx))
      rw [hx, List.length_append]
      show _ + (rsL x).length ≤ _
      omega
    · omega
  split
  · simp only [List.length_append, List.length_cons, List.length_nil]; omega
  split
  · simp only [List.length_append, List.length_cons, List.length_nil]; omega
  split
  · decide
  split
  · decide
  · decide
theorem kTresult (k : Int) (v : Va) (n : Int) (g : Bool) (a b st : Int) (l : List Lb) (hI : v.I) (hL : v.Light) (hs : v.size ≤ 1000) (hn : I64 n) (ha : I64 a) (hb : I64 b) (hl : ∀ x, x ∈ l → x.OK) : Con Tryz.prog 14 [.agg [.lit (.int .i64 k), .lit (.int .i64 v.kind), .lit (.int .i64 v.num), .lit (str v.str), .lit (.int .i64 v.coe.kind), .lit (.int .i64 v.coe.head), .lit (.int .i64 v.coe.lab), .lit (.bool v.coe.neg), .sl 5 (cosD v.coe.kids), .sl 9 (vasD v.kids), .lit (.int .i64 n), .lit (.bool g), .lit (.int .i64 a), .lit (.int .i64 b), .lit (.int .i64 st)], .c (.sl 8 (lbR l))] [] (.c (.lit (str (rsT k v n g a b l)))) [] := by
  have q0 := tlT_len hI
  have q1 := mNum_20 n
  have q2 := spT_len a b
  have hll := lbR_len l
  refine con_intro rfl rfl (by kernel_rfl) (by kernel_rfl) ?_
  refine js ?_
  refine u rfl rfl (r_boxA (x := 2002) rfl rfl rfl rfl) ?_
  refine u rfl rfl asg ?_
  refine jd ?_
  refine w4 1 2 4 2002 ?_
  refine J_seq ?_
  refine js ?_
  refine u rfl rfl (fA 0 1) ?_
  refine u rfl rfl ld ?_
  refine jd ?_
  refine w5 1 2 4 8 2002 ?_
  refine J_block ?_
  refine js ?_
  refine JR.runB rfl rfl (r_eqI rfl rfl rfl rfl) ?_ ?_
  · intro h10
    replace h10 := of_decide_eq_true h10
    refine u rfl rfl asg ?_
    refine jd ?_
    refine w6 1 2 4 8 9 2002 ?_
    refine J_condT rfl ?_
    refine js ?_
    refine u rfl rfl (fA 1 9) ?_
    refine u rfl rfl (lA 9) ?_
    refine u rfl rfl (cl (kTval v hI hL hs)) ?_
    refine u rfl rfl (r_catS rfl rfl rfl rfl (by first | omega | (simp only [List.length_append, List.length_cons, List.length_nil]; omega))) ?_
    refine u rfl rfl asg ?_
    refine jd ?_
    refine w1 4 ?_
    refine J_ret ?_
    refine ⟨.inl rfl, _, rfl, .ofS ?_, trivial⟩
    simp_all [rsT]
  · intro h10
    replace h10 := of_decide_eq_false h10
    refine u rfl rfl asg ?_
    refine jd ?_
    refine w6 1 2 4 8 9 2002 ?_
    refine J_condF rfl ?_
    refine js ?_
    refine JR.runB rfl rfl (r_eqI rfl rfl rfl rfl) ?_ ?_
    · intro h16
      replace h16 := of_decide_eq_true h16
      refine u rfl rfl asg ?_
      refine jd ?_
      refine w6 1 2 4 8 15 2002 ?_
      refine J_condT rfl ?_
      refine js ?_
      refine u rfl rfl (fA 10 1) ?_
      refine u rfl rfl ld ?_
      refine u rfl rfl (cl (kTnum n hn)) ?_
      refine u rfl rfl (r_catS rfl rfl rfl rfl (by first | omega | (simp only [List.length_append, List.length_cons, List.length_nil]; omega))) ?_
      refine u rfl rfl (r_catS rfl rfl rfl rfl (by first | omega | (simp only [List.length_append, List.length_cons, List.length_nil]; omega))) ?_
      refine u rfl rfl asg ?_
      refine jd ?_
      refine w5 1 2 4 5 2002 ?_
      refine J_seq ?_
      refine js ?_
      refine u rfl rfl (fA 11 1) ?_
      refine u rfl rfl ld ?_
      refine jd ?_
      refine w6 1 2 4 5 23 2002 ?_
      cases g
      · skip
        refine J_condF rfl ?_
        refine J_skip ?_
        refine J_seq ?_
        refine js ?_
        refine u rfl rfl (fA 10 1) ?_
        refine u rfl rfl ld ?_
        refine JR.runB rfl rfl (r_geI rfl rfl rfl rfl) ?_ ?_
        · intro h31
          replace h31 := of_decide_eq_true h31
          refine u rfl rfl mv ?_
          refine u rfl rfl (fA 10 1) ?_
          refine u rfl rfl ld ?_
          refine u rfl rfl mv ?_
          refine u rfl rfl ln0 ?_
          refine JR.runB rfl rfl (r_ltI rfl rfl rfl rfl) ?_ ?_
          · intro h37
            replace h37 := of_decide_eq_true h37
            obtain ⟨x, hx⟩ := get_some (l := l) (i := n.toNat) (by omega)
            obtain ⟨hx1, hx2, hx3, hx4⟩ := hl x (List.mem_of_getElem? hx)
            have q3 := spT_len x.a x.b
            have q4 := tyT_len x.f
            have q5 := tyT_len x.t
            refine u rfl rfl pT ?_
            refine jd ?_
            refine w6 1 2 4 5 38 2002 ?_
            refine J_condT rfl ?_
            refine js ?_
            refine u rfl rfl mv ?_
            refine u rfl rfl (fA 10 1) ?_
            refine u rfl rfl ld ?_
            refine u rfl rfl (r_indexAddr (e := 57) (sz := 8) rfl rfl (by kernel_rfl) rfl rfl (by omega) (lbR_at hx)) ?_
            refine u rfl rfl (eA 8) ?_
            refine u rfl rfl (r_alloc (x := 2006) (zs := [.int .i64 0, .int .i64 0, .int .i64 0, .int .i64 0, .slice none 0 0, .int .i64 0, .int .i64 0, .slice none 0 0]) [.lit (.int .i64 0), .lit (.int .i64 0), .lit (.int .i64 0), .lit (.int .i64 0), .sl 3 [], .lit (.int .i64 0), .lit (.int .i64 0), .sl 3 []] rfl rfl rfl (by kernel_rfl) ⟨.refl _, .refl _, .refl _, .refl _, .nil _, .refl _, .refl _, .nil _, trivial⟩) ?_
            refine u rfl rfl sA ?_
            refine jd ?_
            refine w4 4 5 6 2006 ?_
            refine JR.start ?_
            refine u rfl rfl mv ?_
            refine u rfl rfl (fA 0 2) ?_
            refine u rfl rfl (lA 2) ?_
            refine u rfl rfl (cl (kSpan x.a x.b hx1 hx2)) ?_
            refine u rfl rfl (r_catS rfl rfl rfl rfl (by first | omega | (simp only [List.length_append, List.length_cons, List.length_nil]; omega))) ?_
            refine u rfl rfl (r_catS rfl rfl rfl rfl (by first | omega | (simp only [List.length_append, List.length_cons, List.length_nil]; omega))) ?_
            refine u rfl rfl (fA 2 3) ?_
            refine u rfl rfl (lA 3) ?_
            refine u rfl rfl (cl (kTtype x.f (by omega))) ?_
            refine u rfl rfl (r_catS rfl rfl rfl rfl (by first | omega | (simp only [List.length_append, List.length_cons, List.length_nil]; omega))) ?_
            refine u rfl rfl (r_catS rfl rfl rfl rfl (by first | omega | (simp only [List.length_append, List.length_cons, List.length_nil]; omega))) ?_
            refine u rfl rfl (fA 5 3) ?_
            refine u rfl rfl (lA 3) ?_
            refine u rfl rfl (cl (kTtype x.t (by omega))) ?_
            refine u rfl rfl (r_catS rfl rfl rfl rfl (by first | omega | (simp only [List.length_append, List.length_cons, List.length_nil]; omega))) ?_
            refine u rfl rfl (r_catS rfl rfl rfl rfl (by first | omega | (simp only [List.length_append, List.length_cons, List.length_nil]; omega))) ?_
            refine u rfl rfl asg ?_
            refine jD [0, 0, 2, 6, 14, 30, 0, 64, 206, 510, 1022, 0, 2048, 6606, 16382, 32767, 65535] ?_
            refine w2 4 5 ?_
            refine js ?_
            refine u rfl rfl mv ?_
            refine u rfl rfl asg ?_
            refine jd ?_
            refine w1 4 ?_
            refine J_ret ?_
            refine ⟨.inl rfl, _, rfl, .ofS ?_, trivial⟩
            have hc : 0 ≤ n ∧ n < l.length := by omega
            simp only [rsT, h10, h16, if_neg, if_pos, hc, and_self, not_false_eq_true, if_true, if_false, hx, Option.getD_some]
            simp [rsB, rsL]
          · intro h37
            replace h37 := of_decide_eq_false h37
            refine u rfl rfl pT ?_
            refine jd ?_
            refine w6 1 2 4 5 38 2002 ?_
            refine J_condF rfl ?_
            refine J_skip ?_
            refine js ?_
            refine u rfl rfl mv ?_
            refine u rfl rfl asg ?_
            refine jd ?_
            refine w1 4 ?_
            refine J_ret ?_
            refine ⟨.inl rfl, _, rfl, .ofS ?_, trivial⟩
            have hc : ¬ (0 ≤ n ∧ n < l.length) := by omega
            simp [rsT, h10, h16, hc, rsB]
        · intro h31
          replace h31 := of_decide_eq_false h31
          refine u rfl rfl mv ?_
          refine sk ?_
          refine sk ?_
          refine sk ?_
          refine sk ?_
          refine sk ?_
          refine u rfl rfl pF ?_
          refine jd ?_
          refine w6 1 2 4 5 38 2002 ?_
          refine J_condF rfl ?_
          refine J_skip ?_
          refine js ?_
          refine u rfl rfl mv ?_
          refine u rfl rfl asg ?_
          refine jd ?_
          refine w1 4 ?_
          refine J_ret ?_
          refine ⟨.inl rfl, _, rfl, .ofS ?_, trivial⟩
          have hc : ¬ (0 ≤ n ∧ n < l.length) := by omega
          simp [rsT, h10, h16, hc, rsB]
      · skip
        refine J_condT rfl ?_
        refine JR.start ?_
        refine u rfl rfl (fA 10 1) ?_
        refine u rfl rfl ld ?_
        refine u rfl rfl (cl (kTnum n hn)) ?_
        refine u rfl rfl (r_catS rfl rfl rfl rfl (by first | omega | (simp only [List.length_append, List.length_cons, List.length_nil]; omega))) ?_
        refine u rfl rfl (r_catS rfl rfl rfl rfl (by first | omega | (simp only [List.length_append, List.length_cons, List.length_nil]; omega))) ?_
        refine u rfl rfl asg ?_
        refine jd ?_
        refine w5 1 2 4 5 2002 ?_
        refine J_seq ?_
        refine js ?_
        refine u rfl rfl (fA 10 1) ?_
        refine u rfl rfl ld ?_
        refine JR.runB rfl rfl (r_geI rfl rfl rfl rfl) ?_ ?_
        · intro h31
          replace h31 := of_decide_eq_true h31
          refine u rfl rfl mv ?_
          refine u rfl rfl (fA 10 1) ?_
          refine u rfl rfl ld ?_
          refine u rfl rfl mv ?_
          refine u rfl rfl ln0 ?_
          refine JR.runB rfl rfl (r_ltI rfl rfl rfl rfl) ?_ ?_
          · intro h37
            replace h37 := of_decide_eq_true h37
            obtain ⟨x, hx⟩ := get_some (l := l) (i := n.toNat) (by omega)
            obtain ⟨hx1, hx2, hx3, hx4⟩ := hl x (List.mem_of_getElem? hx)
            have q3 := spT_len x.a x.b
            have q4 := tyT_len x.f
            have q5 := tyT_len x.t
            refine u rfl rfl pT ?_
            refine jd ?_
            refine w6 1 2 4 5 38 2002 ?_
            refine J_condT rfl ?_
            refine js ?_
            refine u rfl rfl mv ?_
            refine u rfl rfl (fA 10 1) ?_
            refine u rfl rfl ld ?_
            refine u rfl rfl (r_indexAddr (e := 57) (sz := 8) rfl rfl (by kernel_rfl) rfl rfl (by omega) (lbR_at hx)) ?_
            refine u rfl rfl (eA 8) ?_
            refine u rfl rfl (r_alloc (x := 2006) (zs := [.int .i64 0, .int .i64 0, .int .i64 0, .int .i64 0, .slice none 0 0, .int .i64 0, .int .i64 0, .slice none 0 0]) [.lit (.int .i64 0), .lit (.int .i64 0), .lit (.int .i64 0), .lit (.int .i64 0), .sl 3 [], .lit (.int .i64 0), .lit (.int .i64 0), .sl 3 []] rfl rfl rfl (by kernel_rfl) ⟨.refl _, .refl _, .refl _, .refl _, .nil _, .refl _, .refl _, .nil _, trivial⟩) ?_
            refine u rfl rfl sA ?_
            refine jd ?_
            refine w4 4 5 6 2006 ?_
            refine JR.start ?_
            refine u rfl rfl mv ?_
            refine u rfl rfl (fA 0 2) ?_
            refine u rfl rfl (lA 2) ?_
            refine u rfl rfl (cl (kSpan x.a x.b hx1 hx2)) ?_
            refine u rfl rfl (r_catS rfl rfl rfl rfl (by first | omega | (simp only [List.length_append, List.length_cons, List.length_nil]; omega))) ?_
            refine u rfl rfl (r_catS rfl rfl rfl rfl (by first | omega | (simp only [List.length_append, List.length_cons, List.length_nil]; omega))) ?_
            refine u rfl rfl (fA 2 3) ?_
            refine u rfl rfl (lA 3) ?_
            refine u rfl rfl (cl (kTtype x.f (by omega))) ?_
            refine u rfl rfl (r_catS rfl rfl rfl rfl (by first | omega | (simp only [List.length_append, List.length_cons, List.length_nil]; omega))) ?_
            refine u rfl rfl (r_catS rfl rfl rfl rfl (by first | omega | (simp only [List.length_append, List.length_cons, List.length_nil]; omega))) ?_
            refine u rfl rfl (fA 5 3) ?_
            refine u rfl rfl (lA 3) ?_
            refine u rfl rfl (cl (kTtype x.t (by omega))) ?_
            refine u rfl rfl (r_catS rfl rfl rfl rfl (by first | omega | (simp only [List.length_append, List.length_cons, List.length_nil]; omega))) ?_
            refine u rfl rfl (r_catS rfl rfl rfl rfl (by first | omega | (simp only [List.length_append, List.length_cons, List.length_nil]; omega))) ?_
            refine u rfl rfl asg ?_
            refine jD [0, 0, 2, 6, 14, 30, 0, 64, 206, 510, 1022, 0, 2048, 6606, 16382, 32767, 65535] ?_
            refine w2 4 5 ?_
            refine js ?_
            refine u rfl rfl mv ?_
            refine u rfl rfl asg ?_
            refine jd ?_
            refine w1 4 ?_
            refine J_ret ?_
            refine ⟨.inl rfl, _, rfl, .ofS ?_, trivial⟩
            have hc : 0 ≤ n ∧ n < l.length := by omega
            simp only [rsT, h10, h16, if_neg, if_pos, hc, and_self, not_false_eq_true, if_true, if_false, hx, Option.getD_some]
            simp [rsB, rsL]
          · intro h37
            replace h37 := of_decide_eq_false h37
            refine u rfl rfl pT ?_
            refine jd ?_
            refine w6 1 2 4 5 38 2002 ?_
            refine J_condF rfl ?_
            refine J_skip ?_
            refine js ?_
            refine u rfl rfl mv ?_
            refine u rfl rfl asg ?_
            refine jd ?_
            refine w1 4 ?_
            refine J_ret ?_
            refine ⟨.inl rfl, _, rfl, .ofS ?_, trivial⟩
            have hc : ¬ (0 ≤ n ∧ n < l.length) := by omega
            simp [rsT, h10, h16, hc, rsB]
        · intro h31
          replace h31 := of_decide_eq_false h31
          refine u rfl rfl mv ?_
          refine sk ?_
          refine sk ?_
          refine sk ?_
          refine sk ?_
          refine sk ?_
          refine u rfl rfl pF ?_
          refine jd ?_
          refine w6 1 2 4 5 38 2002 ?_
          refine J_condF rfl ?_
          refine J_skip ?_
          refine js ?_
          refine u rfl rfl mv ?_
          refine u rfl rfl asg ?_
          refine jd ?_
          refine w1 4 ?_
          refine J_ret ?_
          refine ⟨.inl rfl, _, rfl, .ofS ?_, trivial⟩
          have hc : ¬ (0 ≤ n ∧ n < l.length) := by omega
          simp [rsT, h10, h16, hc, rsB]
    · intro h16
      replace h16 := of_decide_eq_false h16
      refine u rfl rfl asg ?_
      refine jd ?_
      refine w6 1 2 4 8 15 2002 ?_
      refine J_condF rfl ?_
      refine js ?_
      refine JR.runB rfl rfl (r_eqI rfl rfl rfl rfl) ?_ ?_
      · intro h62
        replace h62 := of_decide_eq_true h62
        refine u rfl rfl asg ?_
        refine jd ?_
        refine w5 2 4 8 61 2002 ?_
        refine J_condT rfl ?_
        refine js ?_
        refine u rfl rfl (fA 12 2) ?_
        refine u rfl rfl (lA 2) ?_
        refine u rfl rfl (cl (kSpan a b ha hb)) ?_
        refine u rfl rfl (r_catS rfl rfl rfl rfl (by first | omega | (simp only [List.length_append, List.length_cons, List.length_nil]; omega))) ?_
        refine u rfl rfl asg ?_
        refine jd ?_
        refine w1 4 ?_
        refine J_ret ?_
        refine ⟨.inl rfl, _, rfl, .ofS ?_, trivial⟩
        simp_all [rsT]
      · intro h62
        replace h62 := of_decide_eq_false h62
        refine u rfl rfl asg ?_
        refine jd ?_
        refine w5 2 4 8 61 2002 ?_
        refine J_condF rfl ?_
        refine js ?_
        refine JR.runB rfl rfl (r_eqI rfl rfl rfl rfl) ?_ ?_
        · intro h68
          replace h68 := of_decide_eq_true h68
          refine u rfl rfl asg ?_
          refine jd ?_
          refine w5 2 4 8 67 2002 ?_
          refine J_condT rfl ?_
          refine js ?_
          refine u rfl rfl (fA 12 2) ?_
          refine u rfl rfl (lA 2) ?_
          refine u rfl rfl (cl (kSpan a b ha hb)) ?_
          refine u rfl rfl (r_catS rfl rfl rfl rfl (by first | omega | (simp only [List.length_append, List.length_cons, List.length_nil]; omega))) ?_
          refine u rfl rfl asg ?_
          refine jd ?_
          refine w1 4 ?_
          refine J_ret ?_
          refine ⟨.inl rfl, _, rfl, .ofS ?_, trivial⟩
          simp_all [rsT]
        · intro h68
          replace h68 := of_decide_eq_false h68
          refine u rfl rfl asg ?_
          refine jd ?_
          refine w5 2 4 8 67 2002 ?_
          refine J_condF rfl ?_
          refine js ?_
          refine JR.runB rfl rfl (r_eqI rfl rfl rfl rfl) ?_ ?_
          · intro h74
            replace h74 := of_decide_eq_true h74
            refine u rfl rfl asg ?_
            refine jd ?_
            refine w3 4 8 73 ?_
            refine J_condT rfl ?_
            refine js ?_
            refine u rfl rfl asg ?_
            refine jd ?_
            refine w1 4 ?_
            refine J_ret ?_
            refine ⟨.inl rfl, _, rfl, .ofS ?_, trivial⟩
            simp_all [rsT]
          · intro h74
            replace h74 := of_decide_eq_false h74
            refine u rfl rfl asg ?_
            refine jd ?_
            refine w3 4 8 73 ?_
            refine J_condF rfl ?_
            refine js ?_
            refine JR.runB rfl rfl (r_eqI rfl rfl rfl rfl) ?_ ?_
            · intro h76
              replace h76 := of_decide_eq_true h76
              refine u rfl rfl asg ?_
              refine jd ?_
              refine w2 4 75 ?_
              refine J_condT rfl ?_
              refine js ?_
              refine u rfl rfl asg ?_
              refine jd ?_
              refine w1 4 ?_
              refine J_ret ?_
              refine ⟨.inl rfl, _, rfl, .ofS ?_, trivial⟩
              simp_all [rsT]
            · intro h76
              replace h76 := of_decide_eq_false h76
              refine u rfl rfl asg ?_
              refine jd ?_
              refine w2 4 75 ?_
              refine J_condF rfl ?_
              refine J_skip ?_
              refine js ?_
              refine u rfl rfl asg ?_
              refine jd ?_
              refine w1 4 ?_
              refine J_ret ?_
              refine ⟨.inl rfl, _, rfl, .ofS ?_, trivial⟩
              simp_all [rsT]

def ocT (k at0 : Int) (bd : List UInt8) (t : Ty) (rs : List UInt8) : List UInt8 :=
  if k = 1 then [112, 97, 114, 115, 101, 32, 101, 114, 114, 111, 114, 32, 97, 116, 32] ++ mNum at0 ++ [10]
  else if k = 2 then [116, 111, 111, 32, 100, 101, 101, 112, 10]
  else if k = 3 then [108, 105, 109, 105, 116, 32, 101, 120, 99, 101, 101, 100, 101, 100, 10]
  else if k = 4 then bd ++ [10]
  else if k = 5 then [97, 99, 99, 101, 112, 116, 101, 100, 58, 32] ++ tyT t ++ [10] ++ rs ++ [10]
  else []
theorem kToutcome (ok at0 ba bb y bl br : Int) (nm : List UInt8) (t : Ty) (k : Int) (v : Va) (n : Int) (g : Bool) (a b st : Int) (l : List Lb) (hI : v.I) (hL : v.Light) (hs : v.size ≤ 1000) (hn : I64 n) (ha : I64 a) (hb : I64 b) (hl : ∀ x, x ∈ l → x.OK) (hat : I64 at0) (hba : I64 ba) (hbb : I64 bb) (hnm : nm.length ≤ 1000) (ht : t.size ≤ 10000) : Con Tryz.prog 17 [.agg [.lit (.int .i64 ok), .lit (.int .i64 at0), .lit (.int .i64 ba), .lit (.int .i64 bb), .lit (.int .i64 y), .lit (.int .i64 bl), .lit (.int .i64 br), .lit (str nm), .lit (.int .i64 t.kind), .lit (.int .i64 t.num), .sl 3 (tysD t.kids), .sl 8 (lbR l), .lit (.int .i64 k), .lit (.int .i64 v.kind), .lit (.int .i64 v.num), .lit (str v.str), .lit (.int .i64 v.coe.kind), .lit (.int .i64 v.coe.head), .lit (.int .i64 v.coe.lab), .lit (.bool v.coe.neg), .sl 5 (cosD v.coe.kids), .sl 9 (vasD v.kids), .lit (.int .i64 n), .lit (.bool g), .lit (.int .i64 a), .lit (.int .i64 b), .lit (.int .i64 st)]] [] (.c (.lit (str (ocT ok at0 (bdT ba bb y bl br nm) t (rsT k v n g a b l))))) [] := by
  have q0 := mNum_20 at0
  have q1 := bdT_len ba bb y bl br nm
  have q2 := tyT_len t
  have q3 := rsT_len (k := k) (n := n) (a := a) (b := b) (g := g) hI hs hl
  refine con_intro rfl rfl (by kernel_rfl) (by kernel_rfl) ?_
  refine js ?_
  refine u rfl rfl (r_boxA (x := 2001) rfl rfl rfl rfl) ?_
  refine u rfl rfl asg ?_
  refine jd ?_
  refine w3 1 2 2001 ?_
  refine J_seq ?_
  refine js ?_
  refine u rfl rfl (fA 0 1) ?_
  refine u rfl rfl ld ?_
  refine jd ?_
  refine w4 1 2 4 2001 ?_
  refine J_block ?_
  refine js ?_
  refine JR.runB rfl rfl (r_eqI rfl rfl rfl rfl) ?_ ?_
  · intro h6
    replace h6 := of_decide_eq_true h6
    refine u rfl rfl asg ?_
    refine jd ?_
    refine w5 1 2 4 5 2001 ?_
    refine J_condT rfl ?_
    refine js ?_
    refine u rfl rfl (fA 1 1) ?_
    refine u rfl rfl ld ?_
    refine u rfl rfl (cl (kTnum at0 hat)) ?_
    refine u rfl rfl (r_catS rfl rfl rfl rfl (by first | omega | (simp only [List.length_append, List.length_cons, List.length_nil]; omega))) ?_
    refine u rfl rfl (r_catS rfl rfl rfl rfl (by first | omega | (simp only [List.length_append, List.length_cons, List.length_nil]; omega))) ?_
    refine u rfl rfl asg ?_
    refine jd ?_
    refine w1 2 ?_
    refine J_ret ?_
    refine ⟨.inl rfl, _, rfl, .ofS ?_, trivial⟩
    simp_all [ocT]
  · intro h6
    replace h6 := of_decide_eq_false h6
    refine u rfl rfl asg ?_
    refine jd ?_
    refine w5 1 2 4 5 2001 ?_
    refine J_condF rfl ?_
    refine js ?_
    refine JR.runB rfl rfl (r_eqI rfl rfl rfl rfl) ?_ ?_
    · intro h13
      replace h13 := of_decide_eq_true h13
      refine u rfl rfl asg ?_
      refine jd ?_
      refine w5 1 2 4 12 2001 ?_
      refine J_condT rfl ?_
      refine js ?_
      refine u rfl rfl asg ?_
      refine jd ?_
      refine w1 2 ?_
      refine J_ret ?_
      refine ⟨.inl rfl, _, rfl, .ofS ?_, trivial⟩
      simp_all [ocT]
    · intro h13
      replace h13 := of_decide_eq_false h13
      refine u rfl rfl asg ?_
      refine jd ?_
      refine w5 1 2 4 12 2001 ?_
      refine J_condF rfl ?_
      refine js ?_
      refine JR.runB rfl rfl (r_eqI rfl rfl rfl rfl) ?_ ?_
      · intro h15
        replace h15 := of_decide_eq_true h15
        refine u rfl rfl asg ?_
        refine jd ?_
        refine w5 1 2 4 14 2001 ?_
        refine J_condT rfl ?_
        refine js ?_
        refine u rfl rfl asg ?_
        refine jd ?_
        refine w1 2 ?_
        refine J_ret ?_
        refine ⟨.inl rfl, _, rfl, .ofS ?_, trivial⟩
        simp_all [ocT]
      · intro h15
        replace h15 := of_decide_eq_false h15
        refine u rfl rfl asg ?_
        refine jd ?_
        refine w5 1 2 4 14 2001 ?_
        refine J_condF rfl ?_
        refine js ?_
        refine JR.runB rfl rfl (r_eqI rfl rfl rfl rfl) ?_ ?_
        · intro h17
          replace h17 := of_decide_eq_true h17
          refine u rfl rfl asg ?_
          refine jd ?_
          refine w5 1 2 4 16 2001 ?_
          refine J_condT rfl ?_
          refine js ?_
          refine u rfl rfl (fA 2 6) ?_
          refine u rfl rfl (lA 6) ?_
          refine u rfl rfl (cl (kTbad ba bb y bl br nm hba hbb (by omega))) ?_
          refine u rfl rfl (r_catS rfl rfl rfl rfl (by first | omega | (simp only [List.length_append, List.length_cons, List.length_nil]; omega))) ?_
          refine u rfl rfl asg ?_
          refine jd ?_
          refine w1 2 ?_
          refine J_ret ?_
          refine ⟨.inl rfl, _, rfl, .ofS ?_, trivial⟩
          simp_all [ocT]
        · intro h17
          replace h17 := of_decide_eq_false h17
          refine u rfl rfl asg ?_
          refine jd ?_
          refine w5 1 2 4 16 2001 ?_
          refine J_condF rfl ?_
          refine js ?_
          refine JR.runB rfl rfl (r_eqI rfl rfl rfl rfl) ?_ ?_
          · intro h23
            replace h23 := of_decide_eq_true h23
            refine u rfl rfl asg ?_
            refine jd ?_
            refine w4 1 2 22 2001 ?_
            refine J_condT rfl ?_
            refine js ?_
            refine u rfl rfl (fA 8 3) ?_
            refine u rfl rfl (lA 3) ?_
            refine u rfl rfl (cl (kTtype t (by omega))) ?_
            refine u rfl rfl (r_catS rfl rfl rfl rfl (by first | omega | (simp only [List.length_append, List.length_cons, List.length_nil]; omega))) ?_
            refine u rfl rfl (r_catS rfl rfl rfl rfl (by first | omega | (simp only [List.length_append, List.length_cons, List.length_nil]; omega))) ?_
            refine u rfl rfl (fA 12 15) ?_
            refine u rfl rfl (lA 15) ?_
            refine u rfl rfl (fA 11 1) ?_
            refine u rfl rfl ld ?_
            refine u rfl rfl (cl (kTresult k v n g a b st l hI hL hs hn ha hb hl)) ?_
            refine u rfl rfl (r_catS rfl rfl rfl rfl (by first | omega | (simp only [List.length_append, List.length_cons, List.length_nil]; omega))) ?_
            refine u rfl rfl (r_catS rfl rfl rfl rfl (by first | omega | (simp only [List.length_append, List.length_cons, List.length_nil]; omega))) ?_
            refine u rfl rfl asg ?_
            refine jD [0, 1, 3, 7, 15, 0, 32, 0, 128, 487, 1023, 2047, 4095] ?_
            refine w1 2 ?_
            refine J_ret ?_
            refine ⟨.inl rfl, _, rfl, .ofS ?_, trivial⟩
            simp_all [ocT]
          · intro h23
            replace h23 := of_decide_eq_false h23
            refine u rfl rfl asg ?_
            refine jd ?_
            refine w4 1 2 22 2001 ?_
            refine J_condF rfl ?_
            refine J_skip ?_
            refine js ?_
            refine u rfl rfl asg ?_
            refine jd ?_
            refine w1 2 ?_
            refine J_ret ?_
            refine ⟨.inl rfl, _, rfl, .ofS ?_, trivial⟩
            simp_all [ocT]

theorem kLeaf (k : Int) : Con Tryz.prog 38 [.c (.lit (.int .i64 k))] [] (.agg [.lit (.int .i64 k), .lit (.int .i64 0), .sl 3 []]) [] := by
  refine con_intro rfl rfl (by kernel_rfl) (by kernel_rfl) ?_
  refine js ?_
  refine u rfl rfl (r_alloc (x := 2002) (zs := zt) dt rfl rfl rfl (by kernel_rfl) kt) ?_
  refine jd ?_
  refine w3 0 2 2002 ?_
  refine js ?_
  refine u rfl rfl mv ?_
  refine u rfl rfl (r_build (zs := zt) (qs := [(0, 1), (1, 1), (2, 1)]) dt rfl rfl (by kernel_rfl) (by kernel_rfl) kt rfl rfl) ?_
  refine u rfl rfl sA ?_
  refine jd ?_
  refine w2 2 2002 ?_
  refine J_ret ?_
  exact ⟨.inl rfl, _, rfl, .refl _, trivial⟩

theorem kTyList (t : Ty) : Con Tryz.prog 39 [.agg (tyE t)] [] (.agg (tyE (.one 8 t))) [] := by
  refine con_intro rfl rfl (by kernel_rfl) (by kernel_rfl) ?_
  refine js ?_
  refine u rfl rfl (r_boxA (x := 2001) rfl rfl rfl rfl) ?_
  refine u rfl rfl (r_alloc (x := 2002) (zs := zt) dt rfl rfl rfl (by kernel_rfl) kt) ?_
  refine jd ?_
  refine w4 1 2 2001 2002 ?_
  refine js ?_
  refine u rfl rfl (lA 3) ?_
  refine u rfl rfl (r_buildSlice (e := 24) (sz := 3) (zs := zt) (tysD [t]) rfl rfl (by kernel_rfl) (by kernel_rfl) rfl rfl (by simp only [tysD, tyD_eq]; rfl) (by simp only [tysD, tyD_eq]; rfl)) ?_
  refine u rfl rfl (r_build (zs := zt) (qs := [(0, 1), (1, 1), (2, 1)]) dt rfl rfl (by kernel_rfl) (by kernel_rfl) kt rfl rfl) ?_
  refine u rfl rfl sA ?_
  refine jd ?_
  refine w2 2 2002 ?_
  refine J_ret ?_
  exact ⟨.inl rfl, _, rfl, .refl _, trivial⟩

abbrev wkL : Lb := ⟨16, 17, .leaf 5, .leaf 1⟩
abbrev wkV : Va := .mk 5 0 [] noCo [.mk 7 0 [] noCo [.mk 1 (-4) [] noCo [], .mk 6 0 [] noCo []], .mk 8 0 [] noCo []]
theorem tyT_dyn : tyT (.leaf 5) = [63] := by
  rw [tyT, show mRight (.leaf 5) = true from rfl, if_pos rfl, show canon (.leaf 5) = .leaf 5 from rfl, show mRight (.leaf 5) = true from rfl, if_pos rfl, mTxt_5]
theorem tyT_int : tyT (.leaf 1) = [105, 110, 116] := by
  rw [tyT, show mRight (.leaf 1) = true from rfl, if_pos rfl, show canon (.leaf 1) = .leaf 1 from rfl, show mRight (.leaf 1) = true from rfl, if_pos rfl, mTxt_1]; rfl
theorem tyT_l9 : tyT (.one 8 (.mk 6 9 [])) = [39, 48, 32, 108, 105, 115, 116] := by
  rw [tyT, show mRight (.one 8 (.mk 6 9 [])) = true from rfl, if_pos rfl, show canon (.one 8 (.mk 6 9 [])) = .one 8 (.mk 6 0 []) from rfl, show mRight (.one 8 (.mk 6 0 [])) = true from rfl, if_pos rfl, mTxt_list, mKid_eq, show (Ty.mk 6 0 []).kids.isEmpty = true from rfl, if_pos rfl, mTxt_var]; rfl
theorem wk1 : (rsT 2 noVa 0 false 0 0 [wkL] == [98, 108, 97, 109, 101, 32, 48, 43, 32, 97, 116, 32, 49, 54, 45, 49, 55, 58, 32, 63, 32, 61, 62, 32, 105, 110, 116]) = true := by
  rw [show rsT 2 noVa 0 false 0 0 [wkL] = rsB 0 false ++ rsL wkL from rfl, rsL, tyT_dyn, tyT_int]
  decide
theorem wk2 : (tlT wkV == [40, 91, 126, 52, 93, 44, 32, 102, 117, 110, 41]) = true := by decide
theorem wk3 : (tyT (.one 8 (.mk 6 9 [])) == [39, 48, 32, 108, 105, 115, 116]) = true := by rw [tyT_l9]; decide
theorem wk4 : (bdT 0 0 6 0 0 [120] == [116, 121, 112, 101, 32, 101, 114, 114, 111, 114, 32, 97, 116, 32, 48, 45, 48, 58, 32, 110, 111, 32, 120]) = true := by decide
theorem wk5 : (ocT 1 3 (bdT 0 0 0 0 0 []) (.leaf 0) (rsT 0 noVa 0 false 0 0 []) == [112, 97, 114, 115, 101, 32, 101, 114, 114, 111, 114, 32, 97, 116, 32, 51, 10]) = true := by decide
theorem i64_0 : I64 0 := ⟨by decide, by decide⟩
theorem noI : noVa.I := .mk _ _ _ _ _ i64_0 (by simp)
theorem noLt : noVa.Light := .mk _ _ _ _ _ (by decide) (by decide) (by simp)
theorem wkVI : wkV.I := .mk _ _ _ _ _ i64_0 fun x hx => by
  simp only [List.mem_cons, List.not_mem_nil, or_false] at hx
  rcases hx with rfl | rfl
  · refine .mk _ _ _ _ _ i64_0 fun x hx => ?_
    simp only [List.mem_cons, List.not_mem_nil, or_false] at hx
    rcases hx with rfl | rfl
    · exact .mk _ _ _ _ _ ⟨by decide, by decide⟩ (by simp)
    · exact .mk _ _ _ _ _ i64_0 (by simp)
  · exact .mk _ _ _ _ _ i64_0 (by simp)
theorem wkVL : wkV.Light := .mk _ _ _ _ _ (by decide) (by decide) fun x hx => by
  simp only [List.mem_cons, List.not_mem_nil, or_false] at hx
  rcases hx with rfl | rfl
  · refine .mk _ _ _ _ _ (by decide) (by decide) fun x hx => ?_
    simp only [List.mem_cons, List.not_mem_nil, or_false] at hx
    rcases hx with rfl | rfl
    · exact .mk _ _ _ _ _ (by decide) (by decide) (by simp)
    · exact .mk _ _ _ _ _ (by decide) (by decide) (by simp)
  · exact .mk _ _ _ _ _ (by decide) (by decide) (by simp)
theorem kWakes27 : Con Tryz.prog 16 [] [] (.c (.lit (.bool true))) [] := by
  have c1 := kTresult 2 noVa 0 false 0 0 0 [wkL] noI noLt (by decide) i64_0 i64_0 i64_0 (fun x hx => by simp only [List.mem_cons, List.not_mem_nil, or_false] at hx; subst hx; exact ⟨⟨by decide, by decide⟩, ⟨by decide, by decide⟩, by decide, by decide⟩)
  have c2 := kTval wkV wkVI wkVL (by decide)
  have c3 := kTtype (.one 8 (.mk 6 9 [])) (by decide)
  have c4 := kTbad 0 0 6 0 0 [120] i64_0 i64_0 (by decide)
  have c5 := kToutcome 1 3 0 0 0 0 0 [] (.leaf 0) 0 noVa 0 false 0 0 0 [] noI noLt (by decide) i64_0 i64_0 i64_0 (by simp) ⟨by decide, by decide⟩ i64_0 i64_0 (by decide) (by decide)
  refine con_intro rfl rfl (by kernel_rfl) (by kernel_rfl) ?_
  refine js ?_
  refine u rfl rfl asg ?_
  refine jd ?_
  refine w1 0 ?_
  refine js ?_
  refine u rfl rfl (r_build (zs := [.int .i64 0, .int .i64 0]) (qs := [(0, 1), (1, 1)]) [.lit (.int .i64 0), .lit (.int .i64 0)] rfl rfl (by kernel_rfl) (by kernel_rfl) ⟨.refl _, .refl _, trivial⟩ rfl rfl) ?_
  refine u rfl rfl (cl (kLeaf 5)) ?_
  refine u rfl rfl (cl (kLeaf 1)) ?_
  refine u rfl rfl (r_build (zs := [.int .i64 0, .int .i64 0, .int .i64 0, .int .i64 0, .slice none 0 0, .int .i64 0, .int .i64 0, .slice none 0 0]) (qs := [(0, 2), (2, 3), (5, 3)]) [.lit (.int .i64 0), .lit (.int .i64 0), .lit (.int .i64 0), .lit (.int .i64 0), .sl 3 [], .lit (.int .i64 0), .lit (.int .i64 0), .sl 3 []] rfl rfl (by kernel_rfl) (by kernel_rfl) ⟨.refl _, .refl _, .refl _, .refl _, .nil _, .refl _, .refl _, .nil _, trivial⟩ rfl rfl) ?_
  refine u rfl rfl (r_buildSlice (e := 57) (sz := 8) (zs := [.int .i64 0, .int .i64 0, .int .i64 0, .int .i64 0, .slice none 0 0, .int .i64 0, .int .i64 0, .slice none 0 0]) (lbR [wkL]) rfl rfl (by kernel_rfl) (by kernel_rfl) rfl rfl rfl rfl) ?_
  refine u rfl rfl asg ?_
  refine jd ?_
  refine w2 0 1 ?_
  refine js ?_
  refine u rfl rfl (r_build (zs := [.int .i64 0, .int .i64 0, str [], .int .i64 0, .int .i64 0, .int .i64 0, .bool false, .slice none 0 0, .slice none 0 0]) (qs := [(0, 1), (1, 1), (2, 1), (3, 5), (8, 1)]) [.lit (.int .i64 0), .lit (.int .i64 0), .lit (str []), .lit (.int .i64 0), .lit (.int .i64 0), .lit (.int .i64 0), .lit (.bool false), .sl 5 [], .sl 9 []] rfl rfl (by kernel_rfl) (by kernel_rfl) ⟨.refl _, .refl _, .refl _, .refl _, .refl _, .refl _, .refl _, .nil _, .nil _, trivial⟩ rfl rfl) ?_
  refine u rfl rfl (r_build (zs := [.int .i64 0, .int .i64 0, str [], .int .i64 0, .int .i64 0, .int .i64 0, .bool false, .slice none 0 0, .slice none 0 0]) (qs := [(0, 1), (1, 1), (2, 1), (3, 5), (8, 1)]) [.lit (.int .i64 0), .lit (.int .i64 0), .lit (str []), .lit (.int .i64 0), .lit (.int .i64 0), .lit (.int .i64 0), .lit (.bool false), .sl 5 [], .sl 9 []] rfl rfl (by kernel_rfl) (by kernel_rfl) ⟨.refl _, .refl _, .refl _, .refl _, .refl _, .refl _, .refl _, .nil _, .nil _, trivial⟩ rfl rfl) ?_
  refine u rfl rfl (r_buildSlice (e := 30) (sz := 9) (zs := [.int .i64 0, .int .i64 0, str [], .int .i64 0, .int .i64 0, .int .i64 0, .bool false, .slice none 0 0, .slice none 0 0]) (vasD [.mk 1 (-4) [] noCo [], .mk 6 0 [] noCo []]) rfl rfl (by kernel_rfl) (by kernel_rfl) rfl rfl (by simp only [vasD, vaD_eq]; rfl) (by simp only [vasD, vaD_eq]; rfl)) ?_
  refine u rfl rfl (r_build (zs := [.int .i64 0, .int .i64 0, str [], .int .i64 0, .int .i64 0, .int .i64 0, .bool false, .slice none 0 0, .slice none 0 0]) (qs := [(0, 1), (1, 1), (2, 1), (3, 5), (8, 1)]) [.lit (.int .i64 0), .lit (.int .i64 0), .lit (str []), .lit (.int .i64 0), .lit (.int .i64 0), .lit (.int .i64 0), .lit (.bool false), .sl 5 [], .sl 9 []] rfl rfl (by kernel_rfl) (by kernel_rfl) ⟨.refl _, .refl _, .refl _, .refl _, .refl _, .refl _, .refl _, .nil _, .nil _, trivial⟩ rfl rfl) ?_
  refine u rfl rfl (r_build (zs := [.int .i64 0, .int .i64 0, str [], .int .i64 0, .int .i64 0, .int .i64 0, .bool false, .slice none 0 0, .slice none 0 0]) (qs := [(0, 1), (1, 1), (2, 1), (3, 5), (8, 1)]) [.lit (.int .i64 0), .lit (.int .i64 0), .lit (str []), .lit (.int .i64 0), .lit (.int .i64 0), .lit (.int .i64 0), .lit (.bool false), .sl 5 [], .sl 9 []] rfl rfl (by kernel_rfl) (by kernel_rfl) ⟨.refl _, .refl _, .refl _, .refl _, .refl _, .refl _, .refl _, .nil _, .nil _, trivial⟩ rfl rfl) ?_
  refine u rfl rfl (r_buildSlice (e := 30) (sz := 9) (zs := [.int .i64 0, .int .i64 0, str [], .int .i64 0, .int .i64 0, .int .i64 0, .bool false, .slice none 0 0, .slice none 0 0]) (vasD [.mk 7 0 [] noCo [.mk 1 (-4) [] noCo [], .mk 6 0 [] noCo []], .mk 8 0 [] noCo []]) rfl rfl (by kernel_rfl) (by kernel_rfl) rfl rfl (by simp only [vasD, vaD_eq]; rfl) (by simp only [vasD, vaD_eq]; rfl)) ?_
  refine u rfl rfl (r_build (zs := [.int .i64 0, .int .i64 0, str [], .int .i64 0, .int .i64 0, .int .i64 0, .bool false, .slice none 0 0, .slice none 0 0]) (qs := [(0, 1), (1, 1), (2, 1), (3, 5), (8, 1)]) [.lit (.int .i64 0), .lit (.int .i64 0), .lit (str []), .lit (.int .i64 0), .lit (.int .i64 0), .lit (.int .i64 0), .lit (.bool false), .sl 5 [], .sl 9 []] rfl rfl (by kernel_rfl) (by kernel_rfl) ⟨.refl _, .refl _, .refl _, .refl _, .refl _, .refl _, .refl _, .nil _, .nil _, trivial⟩ rfl rfl) ?_
  refine u rfl rfl (r_alloc (x := 2002) (zs := [.int .i64 0, .int .i64 0, str [], .int .i64 0, .int .i64 0, .int .i64 0, .bool false, .slice none 0 0, .slice none 0 0]) [.lit (.int .i64 0), .lit (.int .i64 0), .lit (str []), .lit (.int .i64 0), .lit (.int .i64 0), .lit (.int .i64 0), .lit (.bool false), .sl 5 [], .sl 9 []] rfl rfl rfl (by kernel_rfl) ⟨.refl _, .refl _, .refl _, .refl _, .refl _, .refl _, .refl _, .nil _, .nil _, trivial⟩) ?_
  refine u rfl rfl sA ?_
  refine jd ?_
  refine w4 0 1 2 2002 ?_
  refine js ?_
  refine u rfl rfl (r_build (zs := [.int .i64 0, .int .i64 0, .int .i64 0, str [], .int .i64 0, .int .i64 0, .int .i64 0, .bool false, .slice none 0 0, .slice none 0 0, .int .i64 0, .bool false, .int .i64 0, .int .i64 0, .int .i64 0]) (qs := [(0, 1), (1, 9), (10, 1), (11, 1), (12, 2), (14, 1)]) [.lit (.int .i64 0), .lit (.int .i64 0), .lit (.int .i64 0), .lit (str []), .lit (.int .i64 0), .lit (.int .i64 0), .lit (.int .i64 0), .lit (.bool false), .sl 5 [], .sl 9 [], .lit (.int .i64 0), .lit (.bool false), .lit (.int .i64 0), .lit (.int .i64 0), .lit (.int .i64 0)] rfl rfl (by kernel_rfl) (by kernel_rfl) ⟨.refl _, .refl _, .refl _, .refl _, .refl _, .refl _, .refl _, .refl _, .nil _, .nil _, .refl _, .refl _, .refl _, .refl _, .refl _, trivial⟩ rfl rfl) ?_
  refine u rfl rfl mv ?_
  refine u rfl rfl (cl (c1)) ?_
  refine u rfl rfl ((r_eqS rfl rfl rfl rfl).cast (cast_b (b' := true) (by exact wk1))) ?_
  refine u rfl rfl mv ?_
  refine u rfl rfl (lA 9) ?_
  refine u rfl rfl (cl (c2)) ?_
  refine u rfl rfl ((r_eqS rfl rfl rfl rfl).cast (cast_b (b' := true) (by exact wk2))) ?_
  refine u rfl rfl pT ?_
  refine u rfl rfl mv ?_
  refine u rfl rfl (r_build (zs := zt) (qs := [(0, 1), (1, 1), (2, 1)]) dt rfl rfl (by kernel_rfl) (by kernel_rfl) kt rfl rfl) ?_
  refine u rfl rfl (cl (kTyList (.mk 6 9 []))) ?_
  refine u rfl rfl (cl (c3)) ?_
  refine u rfl rfl ((r_eqS rfl rfl rfl rfl).cast (cast_b (b' := true) (by exact wk3))) ?_
  refine u rfl rfl pT ?_
  refine u rfl rfl mv ?_
  refine u rfl rfl (r_build (zs := [.int .i64 0, .int .i64 0, .int .i64 0, .int .i64 0, .int .i64 0, str []]) (qs := [(0, 2), (2, 1), (3, 1), (4, 1), (5, 1)]) [.lit (.int .i64 0), .lit (.int .i64 0), .lit (.int .i64 0), .lit (.int .i64 0), .lit (.int .i64 0), .lit (str [])] rfl rfl (by kernel_rfl) (by kernel_rfl) ⟨.refl _, .refl _, .refl _, .refl _, .refl _, .refl _, trivial⟩ rfl rfl) ?_
  refine u rfl rfl (cl (c4)) ?_
  refine u rfl rfl ((r_eqS rfl rfl rfl rfl).cast (cast_b (b' := true) (by exact wk4))) ?_
  refine u rfl rfl pT ?_
  refine u rfl rfl mv ?_
  refine u rfl rfl (r_build (zs := [.int .i64 0, .int .i64 0, .int .i64 0, .int .i64 0, .int .i64 0, .int .i64 0, .int .i64 0, str [], .int .i64 0, .int .i64 0, .slice none 0 0, .slice none 0 0, .int .i64 0, .int .i64 0, .int .i64 0, str [], .int .i64 0, .int .i64 0, .int .i64 0, .bool false, .slice none 0 0, .slice none 0 0, .int .i64 0, .bool false, .int .i64 0, .int .i64 0, .int .i64 0]) (qs := [(0, 1), (1, 1), (2, 6), (8, 3), (11, 1), (12, 15)]) [.lit (.int .i64 0), .lit (.int .i64 0), .lit (.int .i64 0), .lit (.int .i64 0), .lit (.int .i64 0), .lit (.int .i64 0), .lit (.int .i64 0), .lit (str []), .lit (.int .i64 0), .lit (.int .i64 0), .sl 3 [], .sl 8 [], .lit (.int .i64 0), .lit (.int .i64 0), .lit (.int .i64 0), .lit (str []), .lit (.int .i64 0), .lit (.int .i64 0), .lit (.int .i64 0), .lit (.bool false), .sl 5 [], .sl 9 [], .lit (.int .i64 0), .lit (.bool false), .lit (.int .i64 0), .lit (.int .i64 0), .lit (.int .i64 0)] rfl rfl (by kernel_rfl) (by kernel_rfl) ⟨.refl _, .refl _, .refl _, .refl _, .refl _, .refl _, .refl _, .refl _, .refl _, .refl _, .nil _, .nil _, .refl _, .refl _, .refl _, .refl _, .refl _, .refl _, .refl _, .refl _, .nil _, .nil _, .refl _, .refl _, .refl _, .refl _, .refl _, trivial⟩ rfl rfl) ?_
  refine u rfl rfl (cl (c5)) ?_
  refine u rfl rfl ((r_eqS rfl rfl rfl rfl).cast (cast_b (b' := true) (by exact wk5))) ?_
  refine u rfl rfl pT ?_
  refine u rfl rfl asg ?_
  refine jd ?_
  refine w1 0 ?_
  refine J_ret ?_
  exact ⟨.inl rfl, _, rfl, .refl _, trivial⟩

end Go.Proofs.YtccdnmjijakofaaGreatDoor
