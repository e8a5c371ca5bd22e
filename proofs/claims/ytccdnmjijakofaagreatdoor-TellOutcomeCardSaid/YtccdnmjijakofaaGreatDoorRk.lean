/- The walk of Small, and of the page's Vars, Canon, Same. -/
import Derived.Test.YtccdnmjijakofaaGreatDoorR8
import Derived.Test.YtccdnmjijakofaaGreatDoorSh24
import Derived.Test.YtccdnmjijakofaaGreatDoorNt4
namespace Go.Proofs.YtccdnmjijakofaaGreatDoor
open Go Go.RowKit
set_option maxRecDepth 100000
set_option maxHeartbeats 1000000
set_option linter.unusedVariables false
set_option linter.unusedSimpArgs false

theorem kDeep : ∀ (n : Nat) (t : Ty), t.size ≤ 1000000 → n ≤ 1000 → Con Tryz.prog 20 [.agg (tyE t), .c (.lit (.int .i64 (n : Int)))] [] (.c (.lit (.bool (mDeep n t)))) []
  | n, t, hs, hn => by
    have hl := tysD_len t.kids
    have hk := t.kids_lt
    cases n with
    | zero =>
      rw [mDeep]
      refine con_intro rfl rfl (by kernel_rfl) (by kernel_rfl) ?_
      refine js ?_
      refine u rfl rfl (r_boxA (x := 2002) rfl rfl rfl rfl) ?_
      refine u rfl rfl asg ?_
      refine jd ?_
      refine w4 1 2 4 2002 ?_
      refine J_seq ?_
      refine js ?_
      refine u rfl rfl mv ?_
      refine u rfl rfl ((r_leI rfl rfl rfl rfl).cast (cast_b (b' := true) (by rfl))) ?_
      refine jd ?_
      refine w5 1 2 4 7 2002 ?_
      refine J_condT rfl ?_
      refine js ?_
      refine u rfl rfl asg ?_
      refine jd ?_
      refine w4 1 2 4 2002 ?_
      refine J_ret ?_
      exact ⟨.inl rfl, _, rfl, .refl _, trivial⟩
    | succ n =>
      have hrec : ∀ (x : Ty), x.size ≤ 1000000 → Con Tryz.prog 20 [.agg (tyE x), .c (.lit (.int .i64 (((n + 1 : Nat) : Int) - 1)))] [] (.c (.lit (.bool (mDeep n x)))) [] := fun x hx => by
        rw [show (((n + 1 : Nat) : Int) - 1) = (n : Int) by omega]
        exact kDeep n x hx (by omega)
      refine con_intro rfl rfl (by kernel_rfl) (by kernel_rfl) ?_
      refine js ?_
      refine u rfl rfl (r_boxA (x := 2002) rfl rfl rfl rfl) ?_
      refine u rfl rfl asg ?_
      refine jd ?_
      refine w4 1 2 4 2002 ?_
      refine J_seq ?_
      refine js ?_
      refine u rfl rfl mv ?_
      refine u rfl rfl ((r_leI rfl rfl rfl rfl).cast (cast_b (b' := false) (by exact decide_eq_false (by omega)))) ?_
      refine jd ?_
      refine w5 1 2 4 7 2002 ?_
      refine J_condF rfl ?_
      refine J_skip ?_
      refine J_seq ?_
      refine js ?_
      refine u rfl rfl asg ?_
      refine jd ?_
      refine w5 1 2 4 5 2002 ?_
      refine J_block ?_
      refine J_loopF (α := { i : Nat // i ≤ t.kids.length ∧ t.kids.any (mDeep n) = (t.kids.drop i).any (mDeep n) }) (fun p => [(5, .c (.lit (.int .i64 (p.1 : Int))))]) [(1, _), (2, _), (4, _), (2002, _)] (fun p => t.kids.length - p.1) ⟨0, Nat.zero_le _, rfl⟩ ⟨rfl, rfl, rfl, rfl, rfl, trivial⟩ ?_
      rintro ⟨i, hi, hI⟩
      dsimp only
      refine J_seq ?_
      refine js ?_
      refine u rfl rfl mv ?_
      refine u rfl rfl (fA 2 1) ?_
      refine u rfl rfl ld ?_
      refine u rfl rfl ln0 ?_
      refine JR.runB rfl rfl (r_ltI rfl rfl rfl rfl) ?_ ?_
      · intro h12
        replace h12 := of_decide_eq_true h12
        obtain ⟨x, hx⟩ := get_some (l := t.kids) (i := i) (by omega)
        have hxs := Ty.kid_lt' hx
        refine jd ?_
        refine w10 1 2 4 5 8 9 10 11 12 2002 ?_
        refine J_condT rfl ?_
        refine J_skip ?_
        refine J_seq ?_
        refine J_block ?_
        refine js ?_
        refine u rfl rfl (fA 2 1) ?_
        refine u rfl rfl ld ?_
        refine u rfl rfl mv ?_
        refine u rfl rfl (r_indexAddr (e := 24) (sz := 3) rfl rfl (by kernel_rfl) rfl rfl (by omega) (tysD_at hx)) ?_
        refine u rfl rfl (eA 3) ?_
        refine u rfl rfl mv ?_
        refine u rfl rfl (r_subI rfl rfl rfl rfl (by omega)) ?_
        refine JR.runC rfl rfl (cl (hrec x (by omega))) rfl ?_ ?_
        · intro h22
          refine jd ?_
          refine w18 1 2 4 5 8 9 10 11 12 15 16 17 18 19 20 21 22 2002 ?_
          refine J_condT rfl ?_
          refine js ?_
          refine u rfl rfl asg ?_
          refine jd ?_
          refine w18 1 2 4 5 8 9 10 11 12 15 16 17 18 19 20 21 22 2002 ?_
          refine J_ret ?_
          refine ⟨.inl rfl, _, rfl, .ofB ?_, trivial⟩
          rw [mDeep, hI, any_step hx, h22, Bool.true_or]
        · intro h22
          refine jd ?_
          refine w18 1 2 4 5 8 9 10 11 12 15 16 17 18 19 20 21 22 2002 ?_
          refine J_condF rfl ?_
          refine J_skip ?_
          refine JR.start ?_
          refine u rfl rfl mv ?_
          refine u rfl rfl (r_addI rfl rfl rfl rfl (by omega)) ?_
          refine u rfl rfl asg ?_
          refine jd ?_
          refine ⟨⟨i + 1, by omega, by rw [hI, any_step hx, h22, Bool.false_or]⟩, by simp only; omega, rfl, rfl, rfl, rfl, rfl, trivial⟩
      · intro h12
        replace h12 := of_decide_eq_false h12
        refine jd ?_
        refine w10 1 2 4 5 8 9 10 11 12 2002 ?_
        refine J_condF rfl ?_
        refine J_exit ?_
        refine js ?_
        refine u rfl rfl asg ?_
        refine jd ?_
        refine w1 4 ?_
        refine J_ret ?_
        refine ⟨.inl rfl, _, rfl, .ofB ?_, trivial⟩
        rw [mDeep, hI, List.drop_eq_nil_of_le (by omega)]
        rfl

theorem kIn (l : List Int) (n : Int) (hs : l.length ≤ 1000000000) : Con Tryz.prog 59 [.c (.sl 1 (oR l)), .c (.lit (.int .i64 n))] [] (.c (.lit (.bool (decide (n ∈ l))))) [] := by
  have hl := oR_len l
  refine con_intro rfl rfl (by kernel_rfl) (by kernel_rfl) ?_
  refine js ?_
  refine u rfl rfl asg ?_
  refine jd ?_
  refine w3 0 1 4 ?_
  refine J_seq ?_
  refine js ?_
  refine u rfl rfl asg ?_
  refine jd ?_
  refine w4 0 1 4 5 ?_
  refine J_block ?_
  refine J_loopF (α := { i : Nat // i ≤ l.length ∧ (n ∈ l ↔ n ∈ l.drop i) }) (fun p => [(5, .c (.lit (.int .i64 (p.1 : Int))))]) [(0, _), (1, _), (4, _)] (fun p => l.length - p.1) ⟨0, Nat.zero_le _, Iff.rfl⟩ ⟨rfl, rfl, rfl, rfl, trivial⟩ ?_
  rintro ⟨i, hi, hI⟩
  dsimp only
  refine J_seq ?_
  refine js ?_
  refine u rfl rfl mv ?_
  refine u rfl rfl mv ?_
  refine u rfl rfl ln0 ?_
  refine JR.runB rfl rfl (r_ltI rfl rfl rfl rfl) ?_ ?_
  · intro h9
    replace h9 := of_decide_eq_true h9
    obtain ⟨v, hv⟩ := get_some (l := l) (i := i) (by omega)
    refine jd ?_
    refine w8 0 1 4 5 6 7 8 9 ?_
    refine J_condT rfl ?_
    refine J_skip ?_
    refine J_seq ?_
    refine J_block ?_
    refine js ?_
    refine u rfl rfl mv ?_
    refine u rfl rfl mv ?_
    refine u rfl rfl (r_indexAddr (e := 3) (sz := 1) rfl rfl (by kernel_rfl) rfl rfl (by omega) (oR_at hv)) ?_
    refine u rfl rfl lE ?_
    refine u rfl rfl mv ?_
    refine JR.runB rfl rfl (r_eqI rfl rfl rfl rfl) ?_ ?_
    · intro h17
      replace h17 := of_decide_eq_true h17
      refine jd ?_
      refine w14 0 1 4 5 6 7 8 9 12 13 14 15 16 17 ?_
      refine J_condT rfl ?_
      refine js ?_
      refine u rfl rfl asg ?_
      refine jd ?_
      refine w14 0 1 4 5 6 7 8 9 12 13 14 15 16 17 ?_
      refine J_ret ?_
      refine ⟨.inl rfl, _, rfl, .ofB ?_, trivial⟩
      exact decide_eq_true (hI.2 ((mem_drop hv n).2 (.inl (by omega))))
    · intro h17
      replace h17 := of_decide_eq_false h17
      refine jd ?_
      refine w14 0 1 4 5 6 7 8 9 12 13 14 15 16 17 ?_
      refine J_condF rfl ?_
      refine J_skip ?_
      refine JR.start ?_
      refine u rfl rfl mv ?_
      refine u rfl rfl (r_addI rfl rfl rfl rfl (by omega)) ?_
      refine u rfl rfl asg ?_
      refine jd ?_
      refine ⟨⟨i + 1, by omega, hI.trans ((mem_drop hv n).trans ⟨fun h => h.resolve_left (by omega), .inr⟩)⟩, by simp only; omega, rfl, rfl, rfl, rfl, trivial⟩
  · intro h9
    replace h9 := of_decide_eq_false h9
    refine jd ?_
    refine w8 0 1 4 5 6 7 8 9 ?_
    refine J_condF rfl ?_
    refine J_exit ?_
    refine js ?_
    refine u rfl rfl asg ?_
    refine jd ?_
    refine w1 4 ?_
    refine J_ret ?_
    refine ⟨.inl rfl, _, rfl, .ofB ?_, trivial⟩
    exact decide_eq_false (fun h => by have := hI.1 h; rw [List.drop_eq_nil_of_le (by omega)] at this; simp at this)

theorem kRvars : ∀ (m : Nat) (t : Ty) (l : List Int), t.size ≤ m → m ≤ 1000000 → l.length + t.size ≤ 1000000 → Con Tryz.prog 41 [.agg (tyE t), .own 3 1 (oR (l))] [] (.own 3 1 (oR (rVars m t l))) []
  | 0, t, _, h, _, _ => absurd t.size_pos (by omega)
  | m + 1, t, l, h, hm, hll => by
    have hk := t.kids_lt
    have hl := tysD_len t.kids
    have hol := oR_len l
    have hsz := t.size_eq'
    obtain ⟨l1, he1⟩ : ∃ e, e = (if t.kind = 6 then rAdd l t.num else l) := ⟨_, rfl⟩
    have hl1 : l1.length ≤ l.length + 1 := by
      rw [he1]; unfold rAdd
      split
      · split <;> simp
      · omega
    have hfin : rVars (m + 1) t l = t.kids.foldl (fun l k => rVars m k l) l1 := by rw [rVars, he1]
    have szl : ∀ {i : Nat} {x : Ty} {l2 : List Int}, t.kids[i]? = some x → l2.length + Ty.sizes (t.kids.drop i) ≤ l.length + 1 + Ty.sizes t.kids → l2.length + x.size ≤ 1000000 := fun hx h => by rw [drop_get hx, Ty.sizes_cons] at h; omega
    rw [hfin]
    refine con_intro rfl rfl (by kernel_rfl) (by kernel_rfl) ?_
    refine js ?_
    refine u rfl rfl (r_boxA (x := 2002) rfl rfl rfl rfl) ?_
    refine u rfl rfl asg ?_
    refine jd ?_
    refine w4 1 2 4 2002 ?_
    refine J_cutF (α := Unit) (fun p => [(1, .own 3 1 (oR (l1)))]) [(2, _), (4, _), (2002, _)] ⟨rfl, rfl, rfl, trivial⟩ ?_ ?_
    · skip
      refine js ?_
      refine u rfl rfl (fA 0 1) ?_
      refine u rfl rfl ld ?_
      refine JR.runB rfl rfl (r_eqI rfl rfl rfl rfl) ?_ ?_
      · intro h8
        replace h8 := of_decide_eq_true h8
        refine u rfl rfl mv ?_
        refine u rfl rfl (r_moveView rfl rfl rfl rfl) ?_
        refine u rfl rfl (fA 1 1) ?_
        refine u rfl rfl ld ?_
        refine JR.runC rfl rfl (cl (kIn l t.num (by omega))) rfl ?_ ?_
        · intro h13
          refine u rfl rfl nt ?_
          refine u rfl rfl pT ?_
          refine jd ?_
          refine w5 1 2 4 15 2002 ?_
          refine J_condF rfl ?_
          refine J_skip ?_
          have q : l1 = l := by rw [he1, if_pos h8, rAdd, if_pos (of_decide_eq_true h13)]
          rw [q]
          exact cut_in () ⟨rfl, rfl, rfl, rfl, trivial⟩
        · intro h13
          refine u rfl rfl nt ?_
          refine u rfl rfl pT ?_
          refine jd ?_
          refine w5 1 2 4 15 2002 ?_
          refine J_condT rfl ?_
          refine JR.start ?_
          refine u rfl rfl (r_moveOwn rfl rfl rfl rfl) ?_
          refine u rfl rfl (fA 1 1) ?_
          refine u rfl rfl ld ?_
          refine u rfl rfl (r_buildSlice (e := 3) (sz := 1) (zs := [.int .i64 0]) ([[.lit (.int .i64 t.num)]]) rfl rfl (by kernel_rfl) (by kernel_rfl) rfl rfl rfl rfl) ?_
          refine u rfl rfl (r_append (e := 3) (sz := 1) (b := 8) rfl rfl (by kernel_rfl) rfl rfl (by simp only [List.length_cons, List.length_nil]; omega) (by simp only [List.length_cons, List.length_nil]; omega)) ?_
          refine u rfl rfl (r_assignOwn rfl rfl rfl rfl) ?_
          refine jd ?_
          have q : oR l1 = oR l ++ [[.lit (.int .i64 t.num)]] := by rw [he1, if_pos h8, rAdd, if_neg (of_decide_eq_false h13)]; simp [oR]
          rw [q]
          exact cut_in () ⟨rfl, rfl, rfl, rfl, trivial⟩
      · intro h8
        replace h8 := of_decide_eq_false h8
        refine u rfl rfl mv ?_
        refine sk ?_
        refine sk ?_
        refine sk ?_
        refine sk ?_
        refine sk ?_
        refine u rfl rfl pF ?_
        refine jd ?_
        refine w5 1 2 4 15 2002 ?_
        refine J_condF rfl ?_
        refine J_skip ?_
        have q : l1 = l := by rw [he1, if_neg h8]
        rw [q]
        exact cut_in () ⟨rfl, rfl, rfl, rfl, trivial⟩
    · rintro _
      try dsimp only
      refine J_seq ?_
      refine js ?_
      refine u rfl rfl asg ?_
      refine jd ?_
      refine w5 1 2 4 5 2002 ?_
      refine J_block ?_
      refine J_loopF (α := { p : Nat × List Int // p.1 ≤ t.kids.length ∧ t.kids.foldl (fun l k => rVars m k l) l1 = (t.kids.drop p.1).foldl (fun l k => rVars m k l) p.2 ∧ p.2.length + Ty.sizes (t.kids.drop p.1) ≤ l.length + 1 + Ty.sizes t.kids }) (fun p => [(5, .c (.lit (.int .i64 (p.1.1 : Int)))), (1, .own 3 1 (oR (p.1.2)))]) [(2, _), (4, _), (2002, _)] (fun p => t.kids.length - p.1.1) ⟨(0, l1), Nat.zero_le _, rfl, by simp only [List.drop_zero]; omega⟩ ⟨rfl, rfl, rfl, rfl, rfl, trivial⟩ ?_
      rintro ⟨⟨i, l2⟩, hi, hI, hl2⟩
      dsimp only at hi hI hl2 ⊢
      refine J_seq ?_
      refine js ?_
      refine u rfl rfl mv ?_
      refine u rfl rfl (fA 2 1) ?_
      refine u rfl rfl ld ?_
      refine u rfl rfl ln0 ?_
      refine JR.runB rfl rfl (r_ltI rfl rfl rfl rfl) ?_ ?_
      · intro h25
        replace h25 := of_decide_eq_true h25
        obtain ⟨x, hx⟩ := get_some (l := t.kids) (i := i) (by omega)
        have hxs := Ty.kid_lt' hx
        refine jd ?_
        refine w10 1 2 4 5 21 22 23 24 25 2002 ?_
        refine J_condT rfl ?_
        refine J_skip ?_
        refine J_seq ?_
        refine J_block ?_
        refine JR.start ?_
        refine u rfl rfl (fA 2 1) ?_
        refine u rfl rfl ld ?_
        refine u rfl rfl mv ?_
        refine u rfl rfl (r_indexAddr (e := 24) (sz := 3) rfl rfl (by kernel_rfl) rfl rfl (by omega) (tysD_at hx)) ?_
        refine u rfl rfl (eA 3) ?_
        refine u rfl rfl (r_moveOwn rfl rfl rfl rfl) ?_
        refine u rfl rfl (cl (kRvars m x l2 (by omega) (by omega) (szl hx hl2))) ?_
        refine u rfl rfl (r_assignOwn rfl rfl rfl rfl) ?_
        refine jd ?_
        refine w15 1 2 4 5 21 22 23 24 25 28 29 30 31 32 2002 ?_
        refine JR.start ?_
        refine u rfl rfl mv ?_
        refine u rfl rfl (r_addI rfl rfl rfl rfl (by omega)) ?_
        refine u rfl rfl asg ?_
        refine jd ?_
        have hl3 := hl2
        rw [drop_get hx, Ty.sizes_cons] at hl3
        have hv := rVars_len m x l2 (by omega)
        refine ⟨⟨(i + 1, rVars m x l2), by simp only; omega, by rw [hI, drop_get hx, List.foldl_cons], by simp only; omega⟩, by simp only; omega, rfl, rfl, rfl, rfl, rfl, trivial⟩
      · intro h25
        replace h25 := of_decide_eq_false h25
        refine jd ?_
        refine w10 1 2 4 5 21 22 23 24 25 2002 ?_
        refine J_condF rfl ?_
        refine J_exit ?_
        refine js ?_
        refine u rfl rfl (r_moveOwn rfl rfl rfl rfl) ?_
        refine u rfl rfl (r_assignOwn rfl rfl rfl rfl) ?_
        refine jd ?_
        refine w1 4 ?_
        refine J_ret ?_
        refine ⟨.inl rfl, _, rfl, .of ?_, trivial⟩
        rw [hI, List.drop_eq_nil_of_le (by omega)]; rfl

theorem kRVars (t : Ty) (h : t.size ≤ 100000) : Con Tryz.prog 21 [.agg (tyE t)] [] (.c (.sl 1 (oR (varsOf t)))) [] := by
  have hc := con_nil1 (kRvars t.size t [] (Nat.le_refl _) (by omega) (by simp; omega))
  rw [rVars_of] at hc
  refine con_intro rfl rfl (by kernel_rfl) (by kernel_rfl) ?_
  refine js ?_
  refine u rfl rfl (r_boxA (x := 2001) rfl rfl rfl rfl) ?_
  refine u rfl rfl asg ?_
  refine jd ?_
  refine w3 1 2 2001 ?_
  refine js ?_
  refine u rfl rfl (lA 3) ?_
  refine u rfl rfl (cl (hc)) ?_
  refine u rfl rfl (r_assignView rfl rfl rfl rfl) ?_
  refine jd ?_
  refine w1 2 ?_
  refine J_ret ?_
  exact ⟨.inl rfl, _, rfl, .refl _, trivial⟩

def tySmall (t : Ty) : Bool := !(decide (600 < mCnt t 0) || mDeep 60 t || decide (8 < (varsOf t).length))
theorem allT_step {l : List Ty} {i : Nat} {x : Ty} (hx : l[i]? = some x) (p : Ty → Bool) : (l.drop i).all p = (p x && (l.drop (i + 1)).all p) := by rw [drop_get hx, List.all_cons]
theorem small_size {t : Ty} (h : tySmall t = true) : t.size ≤ 600 := by
  simp only [tySmall, Bool.not_eq_true', Bool.or_eq_false_iff, decide_eq_false_iff_not] at h
  have := mCnt_light t 0 (Nat.le_of_not_lt h.1.1)
  omega
theorem kSmall (l : List Ty) (hs : l.length ≤ 1000000000) : Con Tryz.prog 5 [.c (.sl 3 (tysD l))] [] (.c (.lit (.bool (l.all tySmall)))) [] := by
  have hl := tysD_len l
  refine con_intro rfl rfl (by kernel_rfl) (by kernel_rfl) ?_
  refine js ?_
  refine u rfl rfl asg ?_
  refine jd ?_
  refine w2 0 2 ?_
  refine J_seq ?_
  refine js ?_
  refine u rfl rfl asg ?_
  refine jd ?_
  refine w3 0 2 3 ?_
  refine J_block ?_
  refine J_loopF (α := { i : Nat // i ≤ l.length ∧ l.all tySmall = (l.drop i).all tySmall }) (fun p => [(3, .c (.lit (.int .i64 (p.1 : Int))))]) [(0, _), (2, _)] (fun p => l.length - p.1) ⟨0, Nat.zero_le _, rfl⟩ ⟨rfl, rfl, rfl, trivial⟩ ?_
  rintro ⟨i, hi, hI⟩
  dsimp only
  refine J_seq ?_
  refine js ?_
  refine u rfl rfl mv ?_
  refine u rfl rfl mv ?_
  refine u rfl rfl ln0 ?_
  refine JR.runB rfl rfl (r_ltI rfl rfl rfl rfl) ?_ ?_
  · intro h7
    replace h7 := of_decide_eq_true h7
    obtain ⟨x, hx⟩ := get_some (l := l) (i := i) (by omega)
    refine jd ?_
    refine w7 0 2 3 4 5 6 7 ?_
    refine J_condT rfl ?_
    refine J_skip ?_
    refine J_seq ?_
    refine J_block ?_
    refine js ?_
    refine u rfl rfl mv ?_
    refine u rfl rfl mv ?_
    refine u rfl rfl (r_indexAddr (e := 24) (sz := 3) rfl rfl (by kernel_rfl) rfl rfl (by omega) (tysD_at hx)) ?_
    refine u rfl rfl (eA 3) ?_
    refine u rfl rfl (r_buildSlice (e := 24) (sz := 3) (zs := zt) (tysD [x]) rfl rfl (by kernel_rfl) (by kernel_rfl) rfl rfl (by simp only [tysD, tyD_eq]; rfl) (by simp only [tysD, tyD_eq]; rfl)) ?_
    refine JR.runC rfl rfl (cl (kHeavy [x] (by simp))) rfl ?_ ?_
    · intro h15
      refine u rfl rfl mv ?_
      refine sk ?_
      refine sk ?_
      refine sk ?_
      refine sk ?_
      refine sk ?_
      refine u rfl rfl pT ?_
      refine u rfl rfl mv ?_
      refine sk ?_
      refine sk ?_
      refine sk ?_
      refine sk ?_
      refine sk ?_
      refine sk ?_
      refine sk ?_
      refine u rfl rfl pT ?_
      refine jd ?_
      refine w17 0 2 3 4 5 6 7 10 11 12 13 14 15 16 22 23 31 ?_
      refine J_condT rfl ?_
      refine js ?_
      refine u rfl rfl asg ?_
      refine jd ?_
      refine w17 0 2 3 4 5 6 7 10 11 12 13 14 15 16 22 23 31 ?_
      refine J_ret ?_
      refine ⟨.inl rfl, _, rfl, .ofB ?_, trivial⟩
      have e0 : decide (600 < mCnt x 0) = true := h15
      rw [hI, allT_step hx, tySmall, e0]
      rfl
    · intro h15
      have hx6 := mCnt_light x 0 (Nat.le_of_not_lt (of_decide_eq_false h15))
      have hx7 := Nat.le_of_not_lt (of_decide_eq_false (show decide (600 < mCnt x 0) = false from h15))
      have hx8 := oR_len (varsOf x)
      refine u rfl rfl mv ?_
      refine u rfl rfl mv ?_
      refine u rfl rfl mv ?_
      refine u rfl rfl (r_indexAddr (e := 24) (sz := 3) rfl rfl (by kernel_rfl) rfl rfl (by omega) (tysD_at hx)) ?_
      refine u rfl rfl (eA 3) ?_
      refine JR.runC rfl rfl (cl (kDeep 60 x (by omega) (by omega))) rfl ?_ ?_
      · intro h21
        refine u rfl rfl pF ?_
        refine u rfl rfl mv ?_
        refine sk ?_
        refine sk ?_
        refine sk ?_
        refine sk ?_
        refine sk ?_
        refine sk ?_
        refine sk ?_
        refine u rfl rfl pT ?_
        refine jd ?_
        refine J_weak [(0, _), (2, _), (3, _), (4, _), (5, _), (6, _), (7, _), (10, _), (11, _), (12, _), (13, _), (14, _), (15, _), (16, _), (17, _), (18, _), (19, _), (20, _), (21, _), (22, _), (23, _), (31, _)] ⟨rfl, rfl, rfl, rfl, rfl, rfl, rfl, rfl, rfl, rfl, rfl, rfl, rfl, rfl, rfl, rfl, rfl, rfl, rfl, rfl, rfl, rfl, trivial⟩ ?_
        refine J_condT rfl ?_
        refine js ?_
        refine u rfl rfl asg ?_
        refine jd ?_
        refine J_weak [(0, _), (2, _), (3, _), (4, _), (5, _), (6, _), (7, _), (10, _), (11, _), (12, _), (13, _), (14, _), (15, _), (16, _), (17, _), (18, _), (19, _), (20, _), (21, _), (22, _), (23, _), (31, _)] ⟨rfl, rfl, rfl, rfl, rfl, rfl, rfl, rfl, rfl, rfl, rfl, rfl, rfl, rfl, rfl, rfl, rfl, rfl, rfl, rfl, rfl, rfl, trivial⟩ ?_
        refine J_ret ?_
        refine ⟨.inl rfl, _, rfl, .ofB ?_, trivial⟩
        have e0 : decide (600 < mCnt x 0) = false := h15
        rw [hI, allT_step hx, tySmall, e0, h21]
        rfl
      · intro h21
        refine u rfl rfl pF ?_
        refine u rfl rfl mv ?_
        refine u rfl rfl mv ?_
        refine u rfl rfl mv ?_
        refine u rfl rfl (r_indexAddr (e := 24) (sz := 3) rfl rfl (by kernel_rfl) rfl rfl (by omega) (tysD_at hx)) ?_
        refine u rfl rfl (eA 3) ?_
        refine u rfl rfl (cl (kRVars x (by omega))) ?_
        refine u rfl rfl ln0 ?_
        refine JR.runB rfl rfl (r_gtI rfl rfl rfl rfl) ?_ ?_
        · intro h30
          replace h30 := of_decide_eq_true h30
          refine u rfl rfl pF ?_
          refine jd ?_
          refine J_weak [(0, _), (2, _), (3, _), (4, _), (5, _), (6, _), (7, _), (10, _), (11, _), (12, _), (13, _), (14, _), (15, _), (16, _), (17, _), (18, _), (19, _), (20, _), (21, _), (22, _), (23, _), (24, _), (25, _), (26, _), (27, _), (28, _), (29, _), (30, _), (31, _)] ⟨rfl, rfl, rfl, rfl, rfl, rfl, rfl, rfl, rfl, rfl, rfl, rfl, rfl, rfl, rfl, rfl, rfl, rfl, rfl, rfl, rfl, rfl, rfl, rfl, rfl, rfl, rfl, rfl, rfl, trivial⟩ ?_
          refine J_condT rfl ?_
          refine js ?_
          refine u rfl rfl asg ?_
          refine jd ?_
          refine J_weak [(0, _), (2, _), (3, _), (4, _), (5, _), (6, _), (7, _), (10, _), (11, _), (12, _), (13, _), (14, _), (15, _), (16, _), (17, _), (18, _), (19, _), (20, _), (21, _), (22, _), (23, _), (24, _), (25, _), (26, _), (27, _), (28, _), (29, _), (30, _), (31, _)] ⟨rfl, rfl, rfl, rfl, rfl, rfl, rfl, rfl, rfl, rfl, rfl, rfl, rfl, rfl, rfl, rfl, rfl, rfl, rfl, rfl, rfl, rfl, rfl, rfl, rfl, rfl, rfl, rfl, rfl, trivial⟩ ?_
          refine J_ret ?_
          refine ⟨.inl rfl, _, rfl, .ofB ?_, trivial⟩
          have e0 : decide (600 < mCnt x 0) = false := h15
          have e2 : decide (8 < (varsOf x).length) = true := decide_eq_true (by omega)
          rw [hI, allT_step hx, tySmall, e0, h21, e2]
          rfl
        · intro h30
          replace h30 := of_decide_eq_false h30
          refine u rfl rfl pF ?_
          refine jd ?_
          refine J_weak [(0, _), (2, _), (3, _), (4, _), (5, _), (6, _), (7, _), (10, _), (11, _), (12, _), (13, _), (14, _), (15, _), (16, _), (17, _), (18, _), (19, _), (20, _), (21, _), (22, _), (23, _), (24, _), (25, _), (26, _), (27, _), (28, _), (29, _), (30, _), (31, _)] ⟨rfl, rfl, rfl, rfl, rfl, rfl, rfl, rfl, rfl, rfl, rfl, rfl, rfl, rfl, rfl, rfl, rfl, rfl, rfl, rfl, rfl, rfl, rfl, rfl, rfl, rfl, rfl, rfl, rfl, trivial⟩ ?_
          refine J_condF rfl ?_
          refine J_skip ?_
          refine JR.start ?_
          refine u rfl rfl mv ?_
          refine u rfl rfl (r_addI rfl rfl rfl rfl (by omega)) ?_
          refine u rfl rfl asg ?_
          refine jd ?_
          have e0 : decide (600 < mCnt x 0) = false := h15
          have e2 : decide (8 < (varsOf x).length) = false := decide_eq_false (by omega)
          refine ⟨⟨i + 1, by omega, by rw [hI, allT_step hx, tySmall, e0, h21, e2]; rfl⟩, by simp only; omega, rfl, rfl, rfl, trivial⟩
  · intro h7
    replace h7 := of_decide_eq_false h7
    refine jd ?_
    refine w7 0 2 3 4 5 6 7 ?_
    refine J_condF rfl ?_
    refine J_exit ?_
    refine js ?_
    refine u rfl rfl asg ?_
    refine jd ?_
    refine w1 2 ?_
    refine J_ret ?_
    refine ⟨.inl rfl, _, rfl, .ofB ?_, trivial⟩
    rw [hI, List.drop_eq_nil_of_le (by omega)]
    rfl

theorem kNumbered (vs : List Int) (hs : vs.length ≤ 1000000) : Con Tryz.prog 51 [.c (.sl 1 (oR vs))] [] (.c (.sl 4 (bndR 0 vs))) [] := by
  have hl := oR_len vs
  refine con_intro rfl rfl (by kernel_rfl) (by kernel_rfl) ?_
  refine js ?_
  refine u rfl rfl asg ?_
  refine jd ?_
  refine w2 0 2 ?_
  refine js ?_
  refine u rfl rfl asg ?_
  refine jd ?_
  refine w3 0 2 3 ?_
  refine J_seq ?_
  refine js ?_
  refine u rfl rfl asg ?_
  refine jd ?_
  refine w4 0 2 3 4 ?_
  refine J_block ?_
  refine J_turn (t_nilOwn 3 76 4 (by kernel_rfl) rfl) (by kernel_rfl) ?_
  refine J_loopF (α := { i : Nat // i ≤ vs.length }) (fun p => [(4, .c (.lit (.int .i64 (p.1 : Int)))), (3, .own 76 4 (bndR 0 (vs.take p.1)))]) [(0, _), (2, _)] (fun p => vs.length - p.1) ⟨0, Nat.zero_le _⟩ ⟨rfl, rfl, rfl, rfl, trivial⟩ ?_
  rintro ⟨i, hi⟩
  dsimp only
  refine J_seq ?_
  refine js ?_
  refine u rfl rfl mv ?_
  refine u rfl rfl mv ?_
  refine u rfl rfl ln0 ?_
  refine JR.runB rfl rfl (r_ltI rfl rfl rfl rfl) ?_ ?_
  · intro h8
    replace h8 := of_decide_eq_true h8
    obtain ⟨v, hv2⟩ := get_some (l := vs) (i := i) (by omega)
    refine jd ?_
    refine w8 0 2 3 4 5 6 7 8 ?_
    refine J_condT rfl ?_
    refine J_skip ?_
    refine J_seq ?_
    refine J_block ?_
    refine JR.start ?_
    refine u rfl rfl (r_moveOwn rfl rfl rfl rfl) ?_
    refine u rfl rfl mv ?_
    refine u rfl rfl mv ?_
    refine u rfl rfl (r_indexAddr (e := 3) (sz := 1) rfl rfl (by kernel_rfl) rfl rfl (by omega) (oR_at hv2)) ?_
    refine u rfl rfl lE ?_
    refine u rfl rfl mv ?_
    refine u rfl rfl (r_build (zs := zt) (qs := [(0, 1), (1, 1), (2, 1)]) dt rfl rfl (by kernel_rfl) (by kernel_rfl) kt rfl rfl) ?_
    refine u rfl rfl (r_build (zs := [.int .i64 0, .int .i64 0, .int .i64 0, .slice none 0 0]) (qs := [(0, 1), (1, 3)]) [.lit (.int .i64 0), .lit (.int .i64 0), .lit (.int .i64 0), .sl 3 []] rfl rfl (by kernel_rfl) (by kernel_rfl) ⟨.refl _, .refl _, .refl _, .nil _, trivial⟩ rfl rfl) ?_
    refine u rfl rfl (r_buildSlice (e := 76) (sz := 4) (zs := [.int .i64 0, .int .i64 0, .int .i64 0, .slice none 0 0]) ([[.lit (.int .i64 v), .lit (.int .i64 6), .lit (.int .i64 (i : Int)), .sl 3 []]]) rfl rfl (by kernel_rfl) (by kernel_rfl) rfl rfl rfl rfl) ?_
    refine u rfl rfl (r_append (e := 76) (sz := 4) (b := 48) rfl rfl (by kernel_rfl) rfl rfl (by have q := bndR_len 0 (vs.take i); rw [List.length_take] at q; simp only [List.length_cons, List.length_nil]; omega) (by have q := bndR_len 0 (vs.take i); rw [List.length_take] at q; simp only [List.length_cons, List.length_nil]; omega)) ?_
    refine u rfl rfl (r_assignOwn rfl rfl rfl rfl) ?_
    refine jd ?_
    refine w16 0 2 3 4 5 6 7 8 12 13 14 15 16 17 18 19 ?_
    refine JR.start ?_
    refine u rfl rfl mv ?_
    refine u rfl rfl (r_addI rfl rfl rfl rfl (by omega)) ?_
    refine u rfl rfl asg ?_
    refine jd ?_
    have hsn : bndR 0 (vs.take i) ++ [[.lit (.int .i64 v), .lit (.int .i64 6), .lit (.int .i64 (i : Int)), .sl 3 []]] = bndR 0 (vs.take (i + 1)) := by rw [← take_snoc hv2, bndR_snoc, List.length_take, Nat.zero_add, Nat.min_eq_left (by omega)]
    refine ⟨⟨i + 1, by omega⟩, by simp only; omega, rfl, ?_, rfl, rfl, trivial⟩
    show some (F.own 76 4 (bndR 0 (vs.take i) ++ [[.lit (.int .i64 v), .lit (.int .i64 6), .lit (.int .i64 (i : Int)), .sl 3 []]])) = some (F.own 76 4 (bndR 0 (vs.take (i + 1))))
    rw [hsn]
  · intro h8
    replace h8 := of_decide_eq_false h8
    refine jd ?_
    refine w8 0 2 3 4 5 6 7 8 ?_
    refine J_condF rfl ?_
    refine J_exit ?_
    refine js ?_
    refine u rfl rfl (r_moveView rfl rfl rfl rfl) ?_
    refine u rfl rfl asg ?_
    refine jd ?_
    refine w1 2 ?_
    refine J_ret ?_
    refine ⟨.inl rfl, _, rfl, .of ?_, trivial⟩
    rw [List.take_of_length_le (by omega)]

theorem kRPut : ∀ (m : Nat) (vs : List Int) (t : Ty), vs.length ≤ 1000000 → t.size ≤ m → m ≤ 1000000 → Con Tryz.prog 50 [.agg (tyE t), .c (.sl 4 (bndR 0 vs))] [] (.agg (tyE (rPut m vs t))) []
  | 0, _, t, _, h, _ => absurd t.size_pos (by omega)
  | m + 1, vs, t, hvl, h, hm => by
    have hk := t.kids_lt
    have hl := tysD_len t.kids
    have hbl := bndR_len 0 vs
    refine con_intro rfl rfl (by kernel_rfl) (by kernel_rfl) ?_
    refine js ?_
    refine u rfl rfl (r_boxA (x := 2002) rfl rfl rfl rfl) ?_
    refine u rfl rfl (r_alloc (x := 2004) (zs := zt) dt rfl rfl rfl (by kernel_rfl) kt) ?_
    refine jd ?_
    refine w5 1 2 4 2002 2004 ?_
    refine J_seq ?_
    refine js ?_
    refine u rfl rfl (fA 0 1) ?_
    refine u rfl rfl ld ?_
    refine JR.runB rfl rfl (r_eqI rfl rfl rfl rfl) ?_ ?_
    · intro h10
      replace h10 := of_decide_eq_true h10
      refine jd ?_
      refine w6 1 2 4 10 2002 2004 ?_
      refine J_condT rfl ?_
      refine J_seq ?_
      refine js ?_
      refine u rfl rfl asg ?_
      refine jd ?_
      refine w6 1 2 4 5 2002 2004 ?_
      refine J_block ?_
      refine J_loopF (α := { i : Nat // i ≤ vs.length ∧ ixOf 0 vs t.num = ixOf (0 + i) (vs.drop i) t.num }) (fun p => [(5, .c (.lit (.int .i64 (p.1 : Int))))]) [(1, _), (2, _), (4, _), (2002, _), (2004, _)] (fun p => vs.length - p.1) ⟨0, Nat.zero_le _, rfl⟩ ⟨rfl, rfl, rfl, rfl, rfl, rfl, trivial⟩ ?_
      rintro ⟨i, hi, hI⟩
      dsimp only
      refine J_seq ?_
      refine js ?_
      refine u rfl rfl mv ?_
      refine u rfl rfl mv ?_
      refine u rfl rfl ln0 ?_
      refine JR.runB rfl rfl (r_ltI rfl rfl rfl rfl) ?_ ?_
      · intro h14
        replace h14 := of_decide_eq_true h14
        obtain ⟨v, hv⟩ := get_some (l := vs) (i := i) (by omega)
        refine jd ?_
        refine w10 1 2 4 5 11 12 13 14 2002 2004 ?_
        refine J_condT rfl ?_
        refine J_skip ?_
        refine J_seq ?_
        refine J_block ?_
        refine js ?_
        refine u rfl rfl mv ?_
        refine u rfl rfl mv ?_
        refine u rfl rfl (r_indexAddr (e := 76) (sz := 4) rfl rfl (by kernel_rfl) rfl rfl (by omega) (bndR_at hv)) ?_
        refine u rfl rfl (fE 0 1) ?_
        refine u rfl rfl lE ?_
        refine u rfl rfl (fA 1 1) ?_
        refine u rfl rfl ld ?_
        refine JR.runB rfl rfl (r_eqI rfl rfl rfl rfl) ?_ ?_
        · intro h24
          replace h24 := of_decide_eq_true h24
          refine jD [0, 0, 3, 7, 15, 0, 32, 127] ?_
          refine w18 1 2 4 5 11 12 13 14 17 18 19 20 21 22 23 24 2002 2004 ?_
          refine J_condT rfl ?_
          refine js ?_
          refine u rfl rfl mv ?_
          refine u rfl rfl mv ?_
          refine u rfl rfl (r_indexAddr (e := 76) (sz := 4) rfl rfl (by kernel_rfl) rfl rfl (by omega) (bndR_at hv)) ?_
          refine u rfl rfl (fE 1 3) ?_
          refine u rfl rfl (eA 3) ?_
          refine u rfl rfl sA ?_
          refine jd ?_
          refine J_weak [(1, _), (2, _), (4, _), (5, _), (11, _), (12, _), (13, _), (14, _), (17, _), (18, _), (19, _), (20, _), (21, _), (22, _), (23, _), (24, _), (25, _), (26, _), (27, _), (28, _), (29, _), (2002, _), (2004, _)] ⟨rfl, rfl, rfl, rfl, rfl, rfl, rfl, rfl, rfl, rfl, rfl, rfl, rfl, rfl, rfl, rfl, rfl, rfl, rfl, rfl, rfl, rfl, rfl, trivial⟩ ?_
          refine J_ret ?_
          refine ⟨.inl rfl, _, rfl, .of ?_, trivial⟩
          have e : ixOf 0 vs t.num = some i := by rw [hI, ixOf_drop hv, if_pos (by omega), Nat.zero_add]
          rw [rPut, if_pos h10, e]
          rfl
        · intro h24
          replace h24 := of_decide_eq_false h24
          refine jD [0, 0, 3, 7, 15, 0, 32, 127] ?_
          refine w18 1 2 4 5 11 12 13 14 17 18 19 20 21 22 23 24 2002 2004 ?_
          refine J_condF rfl ?_
          refine J_skip ?_
          refine JR.start ?_
          refine u rfl rfl mv ?_
          refine u rfl rfl (r_addI rfl rfl rfl rfl (by omega)) ?_
          refine u rfl rfl asg ?_
          refine jd ?_
          refine ⟨⟨i + 1, by omega, by rw [hI, ixOf_drop hv, if_neg (by omega)]⟩, by simp only; omega, rfl, rfl, rfl, rfl, rfl, rfl, trivial⟩
      · intro h14
        replace h14 := of_decide_eq_false h14
        refine jd ?_
        refine w10 1 2 4 5 11 12 13 14 2002 2004 ?_
        refine J_condF rfl ?_
        refine J_exit ?_
        refine js ?_
        refine u rfl rfl (lA 3) ?_
        refine u rfl rfl sA ?_
        refine jd ?_
        refine w5 1 2 4 2002 2004 ?_
        refine J_ret ?_
        refine ⟨.inl rfl, _, rfl, .of ?_, trivial⟩
        have e : ixOf 0 vs t.num = none := by rw [hI, List.drop_eq_nil_of_le (by omega)]; rfl
        rw [rPut, if_pos h10, e]
    · intro h10
      replace h10 := of_decide_eq_false h10
      refine jd ?_
      refine w6 1 2 4 10 2002 2004 ?_
      refine J_condF rfl ?_
      refine J_skip ?_
      refine js ?_
      refine u rfl rfl (fA 0 1) ?_
      refine u rfl rfl ld ?_
      refine u rfl rfl (r_build (zs := zt) (qs := [(0, 1), (1, 1), (2, 1)]) [.lit (.int .i64 0), .lit (.int .i64 0), .lit (.slice none 0 0)] rfl rfl (by kernel_rfl) (by kernel_rfl) ⟨.refl _, .refl _, .refl _, trivial⟩ rfl rfl) ?_
      refine u rfl rfl (r_alloc (x := 2006) (zs := zt) dt rfl rfl rfl (by kernel_rfl) kt) ?_
      refine u rfl rfl sA ?_
      refine jd ?_
      refine w7 1 2 4 6 2002 2004 2006 ?_
      refine J_seq ?_
      refine J_seq ?_
      refine J_turn (t_nilGh 2006 2 1098 24 3 rfl rfl (by kernel_rfl)) (by kernel_rfl) ?_
      refine JR.start ?_
      refine u rfl rfl asg ?_
      refine jd ?_
      refine w9 1 2 4 6 7 1098 2002 2004 2006 ?_
      refine J_block ?_
      refine J_loopF (α := { i : Nat // i ≤ t.kids.length }) (fun p => [(7, .c (.lit (.int .i64 (p.1 : Int)))), (1098, .own 24 3 (tysD ((t.kids.map (rPut m vs)).take p.1)))]) [(1, _), (2, _), (4, _), (6, _), (2002, _), (2004, _), (2006, _)] (fun p => t.kids.length - p.1) ⟨0, Nat.zero_le _⟩ ⟨rfl, rfl, rfl, rfl, rfl, rfl, rfl, rfl, rfl, trivial⟩ ?_
      rintro ⟨i, hi⟩
      dsimp only
      refine J_seq ?_
      refine js ?_
      refine u rfl rfl mv ?_
      refine u rfl rfl (fA 2 1) ?_
      refine u rfl rfl ld ?_
      refine u rfl rfl ln0 ?_
      refine JR.runB rfl rfl (r_ltI rfl rfl rfl rfl) ?_ ?_
      · intro h38
        replace h38 := of_decide_eq_true h38
        obtain ⟨x, hx⟩ := get_some (l := t.kids) (i := i) (by omega)
        have hxs := Ty.kid_lt' hx
        refine jd ?_
        refine w14 1 2 4 6 7 34 35 36 37 38 1098 2002 2004 2006 ?_
        refine J_condT rfl ?_
        refine J_skip ?_
        refine J_seq ?_
        refine J_block ?_
        refine JR.start ?_
        refine u rfl rfl (fA 2 1) ?_
        refine u rfl rfl (r_loadOwn rfl rfl (by kernel_rfl) rfl rfl rfl rfl) ?_
        refine u rfl rfl (fA 2 1) ?_
        refine u rfl rfl ld ?_
        refine u rfl rfl mv ?_
        refine u rfl rfl (r_indexAddr (e := 24) (sz := 3) rfl rfl (by kernel_rfl) rfl rfl (by omega) (tysD_at hx)) ?_
        refine u rfl rfl (eA 3) ?_
        refine u rfl rfl mv ?_
        refine u rfl rfl (cl (kRPut m vs x hvl (by omega) (by omega))) ?_
        refine u rfl rfl (r_buildSlice (e := 24) (sz := 3) (zs := zt) ([tyE (rPut m vs x)]) rfl rfl (by kernel_rfl) (by kernel_rfl) rfl rfl rfl rfl) ?_
        refine u rfl rfl (r_append (e := 24) (sz := 3) (b := 40) rfl rfl (by kernel_rfl) rfl rfl (by have q := tysD_len ((t.kids.map (rPut m vs)).take i); simp only [List.length_take, List.length_map, List.length_cons, List.length_nil] at *; omega) (by have q := tysD_len ((t.kids.map (rPut m vs)).take i); simp only [List.length_take, List.length_map, List.length_cons, List.length_nil] at *; omega)) ?_
        refine u rfl rfl (fA 2 1) ?_
        refine u rfl rfl (r_storeOwn 1098 rfl rfl (by kernel_rfl) rfl rfl rfl rfl (by kernel_rfl)) ?_
        refine jD [0, 1, 0, 4, 0, 28, 60, 0, 252, 508, 1023, 2047, 4095] ?_
        refine J_weak [(1, _), (2, _), (4, _), (6, _), (7, _), (34, _), (35, _), (36, _), (37, _), (38, _), (41, _), (43, _), (44, _), (45, _), (46, _), (47, _), (48, _), (49, _), (50, _), (52, _), (1098, _), (2002, _), (2004, _), (2006, _)] ⟨rfl, rfl, rfl, rfl, rfl, rfl, rfl, rfl, rfl, rfl, rfl, rfl, rfl, rfl, rfl, rfl, rfl, rfl, rfl, rfl, rfl, rfl, rfl, rfl, trivial⟩ ?_
        refine JR.start ?_
        refine u rfl rfl mv ?_
        refine u rfl rfl (r_addI rfl rfl rfl rfl (by omega)) ?_
        refine u rfl rfl asg ?_
        refine jd ?_
        have hsn : tysD ((t.kids.map (rPut m vs)).take i) ++ [tyE (rPut m vs x)] = tysD ((t.kids.map (rPut m vs)).take (i + 1)) := by rw [← take_snoc (l := t.kids.map (rPut m vs)) (i := i) (x := rPut m vs x) (by simp [hx]), tysD_map, tysD_map, List.map_append, List.map_cons, tyD_eq]; rfl
        refine ⟨⟨i + 1, by omega⟩, by simp only; omega, rfl, ?_, rfl, rfl, rfl, rfl, rfl, rfl, rfl, trivial⟩
        show some (F.own _ _ (tysD ((t.kids.map (rPut m vs)).take i) ++ [tyE (rPut m vs x)])) = some (F.own _ _ (tysD ((t.kids.map (rPut m vs)).take (i + 1))))
        rw [hsn]
      · intro h38
        replace h38 := of_decide_eq_false h38
        refine jd ?_
        refine w14 1 2 4 6 7 34 35 36 37 38 1098 2002 2004 2006 ?_
        refine J_condF rfl ?_
        refine J_exit ?_
        refine J_seq ?_
        refine J_turn (t_ownC 1098 rfl) (by kernel_rfl) ?_
        refine J_turn (t_wkV 2006 [.d (.lit (.int .i64 t.kind)), .d (.lit (.int .i64 0)), .d (.sl 3 (tysD ((t.kids.map (rPut m vs)).take i)))] rfl ⟨.refl _, .refl _, .gh rfl, trivial⟩) (by kernel_rfl) ?_
        refine JR.start ?_
        refine u rfl rfl (lA 3) ?_
        refine u rfl rfl sA ?_
        refine jd ?_
        refine w2 4 2004 ?_
        refine J_ret ?_
        refine ⟨.inl rfl, _, rfl, .of ?_, trivial⟩
        rw [rPut, if_neg h10]
        have e : (t.kids.map (rPut m vs)).take i = t.kids.map (rPut m vs) := List.take_of_length_le (by simp; omega)
        show F.agg [_, _, .sl 3 (tysD ((t.kids.map (rPut m vs)).take i))] = _
        rw [e]
        rfl

theorem kRCanon (t : Ty) (hr : mRight t = true) (hs : t.size ≤ 100000) : Con Tryz.prog 27 [.agg (tyE t)] [] (.agg (tyE (canon t))) [] := by
  have hok := varsOf_ok t
  have hp := kRPut t.size (varsOf t) t (by omega) (Nat.le_refl _) (by omega)
  rw [rPut_eq _ _ _ hr] at hp
  refine con_intro rfl rfl (by kernel_rfl) (by kernel_rfl) ?_
  refine js ?_
  refine u rfl rfl (r_boxA (x := 2001) rfl rfl rfl rfl) ?_
  refine u rfl rfl (r_alloc (x := 2002) (zs := zt) dt rfl rfl rfl (by kernel_rfl) kt) ?_
  refine jd ?_
  refine w4 1 2 2001 2002 ?_
  refine js ?_
  refine u rfl rfl (lA 3) ?_
  refine u rfl rfl (lA 3) ?_
  refine u rfl rfl (cl (kRVars t hs)) ?_
  refine u rfl rfl (cl (kNumbered (varsOf t) (by omega))) ?_
  refine u rfl rfl (cl (hp)) ?_
  refine u rfl rfl sA ?_
  refine jD [0, 0, 2, 6, 15, 31] ?_
  refine w2 2 2002 ?_
  refine J_ret ?_
  exact ⟨.inl rfl, _, rfl, .refl _, trivial⟩

end Go.Proofs.YtccdnmjijakofaaGreatDoor
