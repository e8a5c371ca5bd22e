/- The walk of scheme.Canon and tell.Type. -/
import Derived.Test.YtccdnmjijakofaaGreatDoorTm
import Derived.Test.YtccdnmjijakofaaGreatDoorNt4
namespace Go.Proofs.YtccdnmjijakofaaGreatDoor
open Go Go.RowKit
set_option maxRecDepth 100000
set_option maxHeartbeats 1000000
set_option linter.unusedVariables false
set_option linter.unusedSimpArgs false

theorem kTvars : ∀ (m : Nat) (t : Ty) (es : Seen) (c : Nat), t.size ≤ m → OkS es c → c + t.size ≤ 1000000 → es.length + t.size ≤ 1000000 → Con Tryz.prog 62 [.agg (tyE t), .ptr 3000 mapT, .own 3 1 (outR (es))] [(3000, .var mapT (vmap (seenV (es))))] (.own 3 1 (outR (tVars m t es))) [(3000, .var mapT (vmap (seenV (tVars m t es))))]
  | 0, t, _, _, h, _, _, _ => absurd t.size_pos (by omega)
  | m + 1, t, es, c, h, ho, hc, hle => by
    have hk := t.kids_lt
    have hl := tysD_len t.kids
    have hcp := cnt_pos (n := t.num) ho
    have hsz := t.size_eq'
    have hol : (outR es).length = es.length := by simp [outR]
    obtain ⟨es1, he1⟩ : ∃ e, e = (if t.kind = 6 then seenAdd es t.num else es) := ⟨_, rfl⟩
    have ho1 : OkS es1 (c + 1) := by
      rw [he1]; split
      · exact ho.add
      · exact ho.le (by omega)
    have hl1 : es1.length ≤ es.length + 1 := by
      rw [he1]; split
      · exact seenAdd_len _ _
      · omega
    have hfin : tVars (m + 1) t es = t.kids.foldl (fun es k => tVars m k es) es1 := by rw [tVars, he1]
    have szx : ∀ {i : Nat} {x : Ty} {c2 : Nat}, t.kids[i]? = some x → c2 + Ty.sizes (t.kids.drop i) ≤ c + 1 + Ty.sizes t.kids → c2 + x.size ≤ 1000000 := fun hx h => by rw [drop_get hx, Ty.sizes_cons] at h; omega
    have szl : ∀ {i : Nat} {x : Ty} {es2 : Seen}, t.kids[i]? = some x → es2.length + Ty.sizes (t.kids.drop i) ≤ es.length + 1 + Ty.sizes t.kids → es2.length + x.size ≤ 1000000 := fun hx h => by rw [drop_get hx, Ty.sizes_cons] at h; omega
    rw [hfin]
    refine con_intro rfl rfl (by kernel_rfl) (by kernel_rfl) ?_
    refine js ?_
    refine u rfl rfl (r_boxA (x := 2003) rfl rfl rfl rfl) ?_
    refine u rfl rfl asg ?_
    refine jd ?_
    refine w6 1 2 3 6 2003 3000 ?_
    refine J_cutF (α := Unit) (fun p => [(2, .own 3 1 (outR (es1))), (3000, .var mapT (vmap (seenV (es1))))]) [(1, _), (3, _), (6, _), (2003, _)] ⟨rfl, rfl, rfl, rfl, trivial⟩ ?_ ?_
    · skip
      refine js ?_
      refine u rfl rfl (fA 0 1) ?_
      refine u rfl rfl ld ?_
      refine JR.runB rfl rfl (r_eqI rfl rfl rfl rfl) ?_ ?_
      · intro h11
        replace h11 := of_decide_eq_true h11
        refine jd ?_
        refine w7 1 2 3 6 11 2003 3000 ?_
        refine J_condT rfl ?_
        refine J_seq ?_
        refine js ?_
        refine u rfl rfl mv ?_
        refine u rfl rfl (fA 1 1) ?_
        refine u rfl rfl ld ?_
        refine u rfl rfl (r_lookup (dk := .int .i64) (cnt es t.num) rfl rfl (by kernel_rfl) rfl rfl rfl rfl seenV_key (cnt_key ho)) ?_
        refine JR.runB rfl rfl (r_eqI rfl rfl rfl rfl) ?_ ?_
        · intro h16
          replace h16 := of_decide_eq_true h16
          refine jd ?_
          refine w7 1 2 3 6 16 2003 3000 ?_
          refine J_condT rfl ?_
          refine JR.start ?_
          refine u rfl rfl (r_moveOwn rfl rfl rfl rfl) ?_
          refine u rfl rfl (fA 1 1) ?_
          refine u rfl rfl ld ?_
          refine u rfl rfl (r_buildSlice (e := 3) (sz := 1) (zs := [.int .i64 0]) ([[.lit (.int .i64 t.num)]]) rfl rfl (by kernel_rfl) (by kernel_rfl) rfl rfl rfl rfl) ?_
          refine u rfl rfl (r_append (e := 3) (sz := 1) (b := 8) rfl rfl (by kernel_rfl) rfl rfl (by simp only [List.length_cons, List.length_nil]; omega) (by simp only [List.length_cons, List.length_nil]; omega)) ?_
          refine u rfl rfl (r_assignOwn rfl rfl rfl rfl) ?_
          refine jd ?_
          refine w6 1 2 3 6 2003 3000 ?_
          refine JR.start ?_
          refine u rfl rfl mv ?_
          refine u rfl rfl (fA 1 1) ?_
          refine u rfl rfl ld ?_
          refine u rfl rfl (r_lookup (dk := .int .i64) (cnt es t.num) rfl rfl (by kernel_rfl) rfl rfl rfl rfl seenV_key (cnt_key ho)) ?_
          refine u rfl rfl (r_addI rfl rfl rfl rfl (by omega)) ?_
          refine u rfl rfl (r_mapPush (dk := .int .i64) rfl rfl (by kernel_rfl) rfl rfl rfl rfl rfl seenV_key (cnt_no ho h16)) ?_
          refine jd ?_
          have hes1 : es1 = seenAdd es t.num := by rw [he1, if_pos h11]
          have hes2 := seen_new ho h16
          have q1 : seenV es1 = seenV es ++ [(.int .i64 t.num, cnt es t.num + 1)] := by rw [hes1, hes2.1, h16]; rfl
          have q2 : outR es1 = outR es ++ [[.lit (.int .i64 t.num)]] := by rw [hes1, hes2.2]
          rw [q1, q2]
          exact cut_in () ⟨rfl, rfl, rfl, rfl, rfl, rfl, trivial⟩
        · intro h16
          replace h16 := of_decide_eq_false h16
          obtain ⟨j, hj1, hj2, hj3, hj4⟩ := cnt_set ho h16
          refine jd ?_
          refine w7 1 2 3 6 16 2003 3000 ?_
          refine J_condF rfl ?_
          refine J_skip ?_
          refine JR.start ?_
          refine u rfl rfl mv ?_
          refine u rfl rfl (fA 1 1) ?_
          refine u rfl rfl ld ?_
          refine u rfl rfl (r_lookup (dk := .int .i64) (cnt es t.num) rfl rfl (by kernel_rfl) rfl rfl rfl rfl seenV_key (cnt_key ho)) ?_
          refine u rfl rfl (r_addI rfl rfl rfl rfl (by omega)) ?_
          refine u rfl rfl (r_mapSet (dk := .int .i64) (j) rfl rfl (by kernel_rfl) rfl rfl rfl rfl rfl seenV_key hj1 hj2) ?_
          refine jd ?_
          have hes1 : es1 = seenAdd es t.num := by rw [he1, if_pos h11]
          have q1 : seenV es1 = (seenV es).set j (.int .i64 t.num, cnt es t.num + 1) := by rw [hes1, hj3]
          have q2 : outR es1 = outR es := by rw [hes1, hj4]
          rw [q1, q2]
          exact cut_in () ⟨rfl, rfl, rfl, rfl, rfl, rfl, trivial⟩
      · intro h11
        replace h11 := of_decide_eq_false h11
        refine jd ?_
        refine w7 1 2 3 6 11 2003 3000 ?_
        refine J_condF rfl ?_
        refine J_skip ?_
        have hes1 : es1 = es := by rw [he1, if_neg h11]
        rw [hes1]
        exact cut_in () ⟨rfl, rfl, rfl, rfl, rfl, rfl, trivial⟩
    · rintro _
      try dsimp only
      refine J_seq ?_
      refine js ?_
      refine u rfl rfl (fA 2 1) ?_
      refine u rfl rfl ld ?_
      refine u rfl rfl ln0 ?_
      refine u rfl rfl mv ?_
      refine jd ?_
      refine w7 1 2 6 28 29 30 3000 ?_
      refine J_block ?_
      refine J_loopF (α := { p : Nat × Seen // p.1 ≤ t.kids.length ∧ t.kids.foldl (fun es k => tVars m k es) es1 = (t.kids.drop p.1).foldl (fun es k => tVars m k es) p.2 ∧ ∃ c2, OkS p.2 c2 ∧ c2 + Ty.sizes (t.kids.drop p.1) ≤ c + 1 + Ty.sizes t.kids ∧ p.2.length + Ty.sizes (t.kids.drop p.1) ≤ es.length + 1 + Ty.sizes t.kids }) (fun p => [(30, .c (.lit (.int .i64 (p.1.1 : Int)))), (2, .own 3 1 (outR (p.1.2))), (3000, .var mapT (vmap (seenV (p.1.2))))]) [(1, _), (6, _), (28, _), (29, _)] (fun p => t.kids.length - p.1.1) ⟨(0, es1), Nat.zero_le _, rfl, c + 1, ho1, Nat.le_refl _, by simp only [List.drop_zero]; omega⟩ ⟨rfl, rfl, rfl, rfl, rfl, rfl, rfl, trivial⟩ ?_
      rintro ⟨⟨i, es2⟩, hi, hI, c2, ho2, hc2, hl2⟩
      dsimp only at hi hI hc2 hl2 ⊢
      refine js ?_
      refine JR.runB rfl rfl (r_ltI rfl rfl rfl rfl) ?_ ?_
      · intro h31
        replace h31 := of_decide_eq_true h31
        obtain ⟨x, hx⟩ := get_some (l := t.kids) (i := i) (by omega)
        have hxs := Ty.kid_lt' hx
        refine jd ?_
        refine w8 1 2 6 28 29 30 31 3000 ?_
        refine J_seq ?_
        refine J_condT rfl ?_
        refine J_skip ?_
        refine J_seq ?_
        refine J_block ?_
        refine js ?_
        refine u rfl rfl (r_indexAddr (e := 24) (sz := 3) rfl rfl (by kernel_rfl) rfl rfl (by omega) (tysD_at hx)) ?_
        refine u rfl rfl (eA 3) ?_
        refine u rfl rfl (r_alloc (x := 2008) (zs := zt) dt rfl rfl rfl (by kernel_rfl) kt) ?_
        refine u rfl rfl sA ?_
        refine jd ?_
        refine w12 1 2 6 8 28 29 30 31 32 33 2008 3000 ?_
        refine JR.start ?_
        refine u rfl rfl (lA 3) ?_
        refine u rfl rfl mv ?_
        refine u rfl rfl (r_moveOwn rfl rfl rfl rfl) ?_
        refine u rfl rfl (cl (kTvars m x es2 c2 (by omega) ho2 (szx hx hc2) (szl hx hl2))) ?_
        refine u rfl rfl (r_assignOwn rfl rfl rfl rfl) ?_
        refine jd ?_
        refine w14 1 2 6 8 28 29 30 31 32 33 34 35 2008 3000 ?_
        refine JR.start ?_
        refine u rfl rfl (r_addI rfl rfl rfl rfl (by omega)) ?_
        refine u rfl rfl mv ?_
        refine jd ?_
        have hc3 := hc2
        have hl3 := hl2
        rw [drop_get hx, Ty.sizes_cons] at hc3 hl3
        have hv := tVars_ok m x es2 c2 (by omega) ho2
        refine ⟨⟨(i + 1, tVars m x es2), by simp only; omega, by rw [hI, drop_get hx, List.foldl_cons], c2 + x.size, hv.1, by simp only; omega, by simp only; omega⟩, by simp only; omega, rfl, rfl, rfl, rfl, rfl, rfl, rfl, trivial⟩
      · intro h31
        replace h31 := of_decide_eq_false h31
        refine jd ?_
        refine w8 1 2 6 28 29 30 31 3000 ?_
        refine J_seq ?_
        refine J_condF rfl ?_
        refine J_exit ?_
        refine js ?_
        refine u rfl rfl (r_moveOwn rfl rfl rfl rfl) ?_
        refine u rfl rfl (r_assignOwn rfl rfl rfl rfl) ?_
        refine jd ?_
        refine w2 6 3000 ?_
        refine J_ret ?_
        refine ⟨.inl rfl, _, rfl, .of ?_, ?_, trivial⟩
        · rw [hI, List.drop_eq_nil_of_le (by omega)]; rfl
        · rw [hI, List.drop_eq_nil_of_le (by omega)]; rfl

theorem kTVars (t : Ty) (h : t.size ≤ 100000) : Con Tryz.prog 44 [.agg (tyE t)] [] (.own 3 1 (outR (tVars t.size t []))) [] := by
  have hc := con_nil2 (kTvars t.size t [] 0 (Nat.le_refl _) ⟨by simp, by simp⟩ (by omega) (by simp; omega))
  refine con_intro rfl rfl (by kernel_rfl) (by kernel_rfl) ?_
  refine js ?_
  refine u rfl rfl (r_boxA (x := 2001) rfl rfl rfl rfl) ?_
  refine u rfl rfl asg ?_
  refine jd ?_
  refine w3 1 2 2001 ?_
  refine js ?_
  refine u rfl rfl (r_makeMap (x := 3000) rfl rfl rfl) ?_
  refine u rfl rfl asg ?_
  refine jd ?_
  refine w5 1 2 3 2001 3000 ?_
  refine js ?_
  refine u rfl rfl (lA 3) ?_
  refine u rfl rfl mv ?_
  refine u rfl rfl (cl (hc)) ?_
  refine u rfl rfl (r_assignOwn rfl rfl rfl rfl) ?_
  refine jd ?_
  refine w1 2 ?_
  refine J_ret ?_
  exact ⟨.inl rfl, _, rfl, .refl _, trivial⟩

theorem cPut_var {m : Nat} {vs : List Int} {t : Ty} (h : t.kind = 6) : cPut (m + 1) vs t = (match ixOf 0 vs t.num with | some i => .mk 6 (i : Int) [] | none => t) := by rw [cPut, if_pos h]; rfl
theorem cPut_leaf {m : Nat} {vs : List Int} {t : Ty} (h : ¬ t.kind = 6) (h0 : t.kids.length = 0) : cPut (m + 1) vs t = t := by rw [cPut, if_neg h, if_pos h0]
theorem cPut_kids {m : Nat} {vs : List Int} {t : Ty} (h : ¬ t.kind = 6) (h0 : ¬ t.kids.length = 0) : cPut (m + 1) vs t = .mk t.kind 0 (t.kids.map (cPut m vs)) := by rw [cPut, if_neg h, if_neg h0]
theorem kSput : ∀ (m : Nat) (vs : List Int) (t : Ty), vs.Nodup → vs.length ≤ 1000000 → t.size ≤ m → m ≤ 1000000 → Con Tryz.prog 63 [.agg (tyE t), .c (.sl 4 (bndR 0 vs)), .ptr 3000 mapT] [(3000, .var mapT (vmap (fstV 0 vs)))] (.agg (tyE (cPut m vs t))) [(3000, .var mapT (vmap (fstV 0 vs)))]
  | 0, _, t, _, _, h, _ => absurd t.size_pos (by omega)
  | m + 1, vs, t, hnd, hvl, h, hm => by
    have hk := t.kids_lt
    have hl := tysD_len t.kids
    have hbl := bndR_len 0 vs
    obtain ⟨n0, b, hn0, hbt, hbf⟩ := fst_spec hnd t.num
    refine con_intro rfl rfl (by kernel_rfl) (by kernel_rfl) ?_
    refine js ?_
    refine u rfl rfl (r_boxA (x := 2003) rfl rfl rfl rfl) ?_
    refine u rfl rfl (r_alloc (x := 2006) (zs := zt) dt rfl rfl rfl (by kernel_rfl) kt) ?_
    refine jd ?_
    refine w7 1 2 3 6 2003 2006 3000 ?_
    refine J_seq ?_
    refine js ?_
    refine u rfl rfl (fA 0 1) ?_
    refine u rfl rfl ld ?_
    refine JR.runB rfl rfl (r_eqI rfl rfl rfl rfl) ?_ ?_
    · intro h14
      replace h14 := of_decide_eq_true h14
      refine jd ?_
      refine w8 1 2 3 6 14 2003 2006 3000 ?_
      refine J_condT rfl ?_
      refine J_seq ?_
      refine js ?_
      refine u rfl rfl mv ?_
      refine u rfl rfl (fA 1 1) ?_
      refine u rfl rfl ld ?_
      refine u rfl rfl (r_lookupOk (dk := .int .i64) (n0) b rfl rfl (by kernel_rfl) rfl rfl rfl rfl fstV_key hn0) ?_
      refine u rfl rfl mv ?_
      refine u rfl rfl xt ?_
      refine u rfl rfl xt ?_
      refine u rfl rfl asg ?_
      refine u rfl rfl asg ?_
      refine jd ?_
      refine w9 1 2 3 6 7 8 2003 2006 3000 ?_
      refine js ?_
      refine u rfl rfl mv ?_
      refine jd ?_
      refine w9 1 2 3 6 7 22 2003 2006 3000 ?_
      cases b
      · skip
        refine J_condF rfl ?_
        refine J_skip ?_
        refine js ?_
        refine u rfl rfl (lA 3) ?_
        refine u rfl rfl sA ?_
        refine jd ?_
        refine w7 1 2 3 6 2003 2006 3000 ?_
        refine J_ret ?_
        refine ⟨.inl rfl, _, rfl, .of ?_, rfl, trivial⟩
        rw [cPut_var h14, hbf rfl]
        try rfl
      · skip
        obtain ⟨i, rfl, hix, hvi, hil⟩ := hbt rfl
        refine J_condT rfl ?_
        refine js ?_
        refine u rfl rfl mv ?_
        refine u rfl rfl mv ?_
        refine u rfl rfl (r_indexAddr (e := 76) (sz := 4) rfl rfl (by kernel_rfl) rfl rfl (by omega) (bndR_at hvi)) ?_
        refine u rfl rfl (fE 1 3) ?_
        refine u rfl rfl (eA 3) ?_
        refine u rfl rfl sA ?_
        refine jd ?_
        refine w7 1 2 3 6 2003 2006 3000 ?_
        refine J_ret ?_
        refine ⟨.inl rfl, _, rfl, .of ?_, rfl, trivial⟩
        rw [cPut_var h14, hix]
        try rfl
    · intro h14
      replace h14 := of_decide_eq_false h14
      refine jd ?_
      refine w8 1 2 3 6 14 2003 2006 3000 ?_
      refine J_condF rfl ?_
      refine J_skip ?_
      refine J_seq ?_
      refine js ?_
      refine u rfl rfl (fA 2 1) ?_
      refine u rfl rfl ld ?_
      refine u rfl rfl ln0 ?_
      refine JR.runB rfl rfl (r_eqI rfl rfl rfl rfl) ?_ ?_
      · intro h32
        replace h32 := of_decide_eq_true h32
        refine jd ?_
        refine w8 1 2 3 6 32 2003 2006 3000 ?_
        refine J_condT rfl ?_
        refine js ?_
        refine u rfl rfl (lA 3) ?_
        refine u rfl rfl sA ?_
        refine jd ?_
        refine w7 1 2 3 6 2003 2006 3000 ?_
        refine J_ret ?_
        refine ⟨.inl rfl, _, rfl, .of ?_, rfl, trivial⟩
        rw [cPut_leaf h14 (by omega)]
      · intro h32
        replace h32 := of_decide_eq_false h32
        refine jd ?_
        refine w8 1 2 3 6 32 2003 2006 3000 ?_
        refine J_condF rfl ?_
        refine J_skip ?_
        refine js ?_
        refine u rfl rfl (fA 0 1) ?_
        refine u rfl rfl ld ?_
        refine u rfl rfl (r_build (zs := zt) (qs := [(0, 1), (1, 1), (2, 1)]) [.lit (.int .i64 0), .lit (.int .i64 0), .lit (.slice none 0 0)] rfl rfl (by kernel_rfl) (by kernel_rfl) ⟨.refl _, .refl _, .refl _, trivial⟩ rfl rfl) ?_
        refine u rfl rfl (r_alloc (x := 2009) (zs := zt) dt rfl rfl rfl (by kernel_rfl) kt) ?_
        refine u rfl rfl sA ?_
        refine jd ?_
        refine w9 1 2 3 6 9 2003 2006 2009 3000 ?_
        refine J_seq ?_
        refine J_seq ?_
        refine J_turn (t_nilGh 2009 2 1146 24 3 rfl rfl (by kernel_rfl)) (by kernel_rfl) ?_
        refine JR.start ?_
        refine u rfl rfl (fA 2 1) ?_
        refine u rfl rfl ld ?_
        refine u rfl rfl ln0 ?_
        refine u rfl rfl mv ?_
        refine jd ?_
        refine w11 1 2 6 9 38 39 40 1146 2006 2009 3000 ?_
        refine J_block ?_
        refine J_loopF (α := { i : Nat // i ≤ t.kids.length }) (fun p => [(40, .c (.lit (.int .i64 (p.1 : Int)))), (1146, .own 24 3 (tysD ((t.kids.map (cPut m vs)).take p.1)))]) [(1, _), (2, _), (6, _), (9, _), (38, _), (39, _), (2006, _), (2009, _), (3000, _)] (fun p => t.kids.length - p.1) ⟨0, Nat.zero_le _⟩ ⟨rfl, rfl, rfl, rfl, rfl, rfl, rfl, rfl, rfl, rfl, rfl, trivial⟩ ?_
        rintro ⟨i, hi⟩
        dsimp only
        refine js ?_
        refine JR.runB rfl rfl (r_ltI rfl rfl rfl rfl) ?_ ?_
        · intro h41
          replace h41 := of_decide_eq_true h41
          obtain ⟨x, hx⟩ := get_some (l := t.kids) (i := i) (by omega)
          have hxs := Ty.kid_lt' hx
          refine jd ?_
          refine w12 1 2 6 9 38 39 40 41 1146 2006 2009 3000 ?_
          refine J_seq ?_
          refine J_condT rfl ?_
          refine J_skip ?_
          refine J_seq ?_
          refine J_block ?_
          refine js ?_
          refine u rfl rfl (r_indexAddr (e := 24) (sz := 3) rfl rfl (by kernel_rfl) rfl rfl (by omega) (tysD_at hx)) ?_
          refine u rfl rfl (eA 3) ?_
          refine u rfl rfl (r_alloc (x := 2011) (zs := zt) dt rfl rfl rfl (by kernel_rfl) kt) ?_
          refine u rfl rfl sA ?_
          refine jd ?_
          refine w16 1 2 6 9 11 38 39 40 41 42 43 1146 2006 2009 2011 3000 ?_
          refine JR.start ?_
          refine u rfl rfl (fA 2 1) ?_
          refine u rfl rfl (r_loadOwn rfl rfl (by kernel_rfl) rfl rfl rfl rfl) ?_
          refine u rfl rfl (lA 3) ?_
          refine u rfl rfl mv ?_
          refine u rfl rfl mv ?_
          refine u rfl rfl (cl (kSput m vs x hnd hvl (by omega) (by omega))) ?_
          refine u rfl rfl (r_buildSlice (e := 24) (sz := 3) (zs := zt) ([tyE (cPut m vs x)]) rfl rfl (by kernel_rfl) (by kernel_rfl) rfl rfl rfl rfl) ?_
          refine u rfl rfl (r_append (e := 24) (sz := 3) (b := 40) rfl rfl (by kernel_rfl) rfl rfl (by have q := tysD_len ((t.kids.map (cPut m vs)).take i); simp only [List.length_take, List.length_map, List.length_cons, List.length_nil] at *; omega) (by have q := tysD_len ((t.kids.map (cPut m vs)).take i); simp only [List.length_take, List.length_map, List.length_cons, List.length_nil] at *; omega)) ?_
          refine u rfl rfl (fA 2 1) ?_
          refine u rfl rfl (r_storeOwn 1146 rfl rfl (by kernel_rfl) rfl rfl rfl rfl (by kernel_rfl)) ?_
          refine jD [0, 1, 0, 0, 0, 28, 60, 127, 255, 511] ?_
          refine J_weak [(1, _), (2, _), (6, _), (9, _), (11, _), (38, _), (39, _), (40, _), (41, _), (42, _), (43, _), (44, _), (46, _), (47, _), (48, _), (49, _), (50, _), (52, _), (1146, _), (2006, _), (2009, _), (2011, _), (3000, _)] ⟨rfl, rfl, rfl, rfl, rfl, rfl, rfl, rfl, rfl, rfl, rfl, rfl, rfl, rfl, rfl, rfl, rfl, rfl, rfl, rfl, rfl, rfl, rfl, trivial⟩ ?_
          refine JR.start ?_
          refine u rfl rfl (r_addI rfl rfl rfl rfl (by omega)) ?_
          refine u rfl rfl mv ?_
          refine jd ?_
          have hsn : tysD ((t.kids.map (cPut m vs)).take i) ++ [tyE (cPut m vs x)] = tysD ((t.kids.map (cPut m vs)).take (i + 1)) := by rw [← take_snoc (l := t.kids.map (cPut m vs)) (i := i) (x := cPut m vs x) (by simp [hx]), tysD_map, tysD_map, List.map_append, List.map_cons, tyD_eq]; rfl
          refine ⟨⟨i + 1, by omega⟩, by simp only; omega, rfl, ?_, rfl, rfl, rfl, rfl, rfl, rfl, rfl, rfl, rfl, trivial⟩
          show some (F.own _ _ (tysD ((t.kids.map (cPut m vs)).take i) ++ [tyE (cPut m vs x)])) = some (F.own _ _ (tysD ((t.kids.map (cPut m vs)).take (i + 1))))
          rw [hsn]
        · intro h41
          replace h41 := of_decide_eq_false h41
          refine jd ?_
          refine w12 1 2 6 9 38 39 40 41 1146 2006 2009 3000 ?_
          refine J_seq ?_
          refine J_condF rfl ?_
          refine J_exit ?_
          refine J_seq ?_
          refine J_turn (t_ownC 1146 rfl) (by kernel_rfl) ?_
          refine J_turn (t_wkV 2009 [.d (.lit (.int .i64 t.kind)), .d (.lit (.int .i64 0)), .d (.sl 3 (tysD ((t.kids.map (cPut m vs)).take i)))] rfl ⟨.refl _, .refl _, .gh rfl, trivial⟩) (by kernel_rfl) ?_
          refine JR.start ?_
          refine u rfl rfl (lA 3) ?_
          refine u rfl rfl sA ?_
          refine jd ?_
          refine w3 6 2006 3000 ?_
          refine J_ret ?_
          refine ⟨.inl rfl, _, rfl, .of ?_, rfl, trivial⟩
          rw [cPut_kids h14 (by omega)]
          have e : (t.kids.map (cPut m vs)).take i = t.kids.map (cPut m vs) := List.take_of_length_le (by simp; omega)
          show F.agg [_, _, .sl 3 (tysD ((t.kids.map (cPut m vs)).take i))] = _
          rw [e]
          rfl

theorem kVarCheck (i : Nat) (h : i ≤ 1000000) : Con Tryz.prog 43 [.agg [.lit (.int .i64 6), .lit (.int .i64 (i : Int)), .sl 3 []]] [] (.c (.lit (.int .i64 0))) [] := by
  have c := kCheck (.mk 6 (i : Int) []) (by rw [Ty.size, Ty.sizes]; omega)
  have e : mRight (.mk 6 (i : Int) []) = true := by
    rw [mRight]
    simp [mKids, mRights]
    omega
  rw [e] at c
  have e2 : tyE (.mk 6 (i : Int) []) = [.lit (.int .i64 6), .lit (.int .i64 (i : Int)), .sl 3 []] := by
    show [D.lit (.int .i64 6), .lit (.int .i64 (i : Int)), .sl 3 (tysD [])] = _
    rw [tysD_map]; rfl
  rw [e2] at c
  exact c
theorem take_snoc' {α : Type} {l : List α} {i : Nat} {x : α} (h : l[i]? = some x) : l.take (i + 1) = l.take i ++ [x] := (take_snoc h).symm
theorem kSubst (t : Ty) (vs : List Int) (hr : mRight t = true) (hs : t.size ≤ 100000) (hnd : vs.Nodup) (hvl : vs.length ≤ 100000) (hvn : ∀ v, v ∈ vs → 0 ≤ v ∧ v ≤ 1048576) : Con Tryz.prog 45 [.agg (tyE t), .c (.sl 4 (bndR 0 vs))] [] (.tup [.agg (tyE (cPut t.size vs t)), .c (.lit (.int .i64 0))]) [] := by
  have hc := kCheck t (by omega)
  rw [hr] at hc
  have hbl := bndR_len 0 vs
  refine con_intro rfl rfl (by kernel_rfl) (by kernel_rfl) ?_
  refine js ?_
  refine u rfl rfl (r_boxA (x := 2002) rfl rfl rfl rfl) ?_
  refine u rfl rfl (r_alloc (x := 2004) (zs := zt) dt rfl rfl rfl (by kernel_rfl) kt) ?_
  refine u rfl rfl asg ?_
  refine jd ?_
  refine w6 1 2 4 5 2002 2004 ?_
  refine J_seq ?_
  refine js ?_
  refine u rfl rfl (lA 3) ?_
  refine u rfl rfl (cl (hc)) ?_
  refine u rfl rfl (r_neI rfl rfl rfl rfl) ?_
  refine jd ?_
  refine w7 1 2 4 5 13 2002 2004 ?_
  refine J_condF rfl ?_
  refine J_skip ?_
  refine js ?_
  refine u rfl rfl (r_makeMap (x := 3000) rfl rfl rfl) ?_
  refine u rfl rfl asg ?_
  refine jd ?_
  refine w8 1 2 4 5 6 2002 2004 3000 ?_
  refine J_seq ?_
  refine js ?_
  refine u rfl rfl mv ?_
  refine u rfl rfl ln0 ?_
  refine u rfl rfl mv ?_
  refine jd ?_
  refine w11 1 2 4 5 6 16 17 18 2002 2004 3000 ?_
  refine J_block ?_
  refine J_loopF (α := { i : Nat // i ≤ vs.length }) (fun p => [(18, .c (.lit (.int .i64 (p.1 : Int)))), (3000, .var mapT (vmap (fstV 0 (vs.take p.1))))]) [(1, _), (2, _), (4, _), (5, _), (6, _), (16, _), (17, _), (2002, _), (2004, _)] (fun p => vs.length - p.1) ⟨0, Nat.zero_le _⟩ ⟨rfl, rfl, rfl, rfl, rfl, rfl, rfl, rfl, rfl, rfl, rfl, trivial⟩ ?_
  rintro ⟨i, hi⟩
  dsimp only
  refine js ?_
  refine JR.runB rfl rfl (r_ltI rfl rfl rfl rfl) ?_ ?_
  · intro h19
    replace h19 := of_decide_eq_true h19
    obtain ⟨v, hv⟩ := get_some (l := vs) (i := i) (by omega)
    have hvb := hvn v (List.mem_of_getElem? hv)
    have hno : v ∉ vs.take i := fun hm => by
      obtain ⟨q, hq⟩ := List.getElem?_of_mem hm
      rw [List.getElem?_take] at hq
      split at hq
      · have := nodup_get hnd hq hv; omega
      · cases hq
    refine jd ?_
    refine w12 1 2 4 5 6 16 17 18 19 2002 2004 3000 ?_
    refine J_seq ?_
    refine J_condT rfl ?_
    refine J_skip ?_
    refine J_seq ?_
    refine J_block ?_
    refine js ?_
    refine u rfl rfl mv ?_
    refine u rfl rfl (r_indexAddr (e := 76) (sz := 4) rfl rfl (by kernel_rfl) rfl rfl (by omega) (bndR_at hv)) ?_
    refine u rfl rfl (eA 4) ?_
    refine u rfl rfl (r_alloc (x := 2008) (zs := [.int .i64 0, .int .i64 0, .int .i64 0, .slice none 0 0]) [.lit (.int .i64 0), .lit (.int .i64 0), .lit (.int .i64 0), .sl 3 []] rfl rfl rfl (by kernel_rfl) ⟨.refl _, .refl _, .refl _, .nil _, trivial⟩) ?_
    refine u rfl rfl asg ?_
    refine u rfl rfl sA ?_
    refine jd ?_
    refine w18 1 2 4 5 6 7 8 16 17 18 19 20 21 22 2002 2004 2008 3000 ?_
    refine J_seq ?_
    refine js ?_
    refine u rfl rfl (fA 0 1) ?_
    refine u rfl rfl ld ?_
    refine u rfl rfl ((r_ltI rfl rfl rfl rfl).cast (cast_b (b' := false) (by exact decide_eq_false (by omega)))) ?_
    refine u rfl rfl mv ?_
    refine u rfl rfl (fA 0 1) ?_
    refine u rfl rfl ld ?_
    refine u rfl rfl ((r_gtI rfl rfl rfl rfl).cast (cast_b (b' := false) (by exact decide_eq_false (by omega)))) ?_
    refine u rfl rfl pF ?_
    refine u rfl rfl mv ?_
    refine u rfl rfl (fA 1 3) ?_
    refine u rfl rfl (lA 3) ?_
    refine u rfl rfl (cl (kVarCheck i (by omega))) ?_
    refine u rfl rfl (r_neI rfl rfl rfl rfl) ?_
    refine u rfl rfl pF ?_
    refine jd ?_
    refine J_weak [(1, _), (2, _), (4, _), (5, _), (6, _), (7, _), (8, _), (16, _), (17, _), (18, _), (19, _), (20, _), (21, _), (22, _), (23, _), (24, _), (25, _), (26, _), (27, _), (28, _), (29, _), (30, _), (31, _), (32, _), (33, _), (34, _), (35, _), (36, _), (2002, _), (2004, _), (2008, _), (3000, _)] ⟨rfl, rfl, rfl, rfl, rfl, rfl, rfl, rfl, rfl, rfl, rfl, rfl, rfl, rfl, rfl, rfl, rfl, rfl, rfl, rfl, rfl, rfl, rfl, rfl, rfl, rfl, rfl, rfl, rfl, rfl, rfl, rfl, trivial⟩ ?_
    refine J_condF rfl ?_
    refine J_skip ?_
    refine js ?_
    refine u rfl rfl mv ?_
    refine u rfl rfl (fA 0 1) ?_
    refine u rfl rfl ld ?_
    refine u rfl rfl (r_lookupOk (dk := .int .i64) (0) false rfl rfl (by kernel_rfl) rfl rfl rfl rfl fstV_key (.inl ⟨fst_no hno, rfl, rfl⟩)) ?_
    refine u rfl rfl mv ?_
    refine u rfl rfl xt ?_
    refine u rfl rfl xt ?_
    refine u rfl rfl asg ?_
    refine u rfl rfl asg ?_
    refine jd ?_
    refine J_weak [(1, _), (2, _), (4, _), (5, _), (6, _), (7, _), (8, _), (10, _), (16, _), (17, _), (18, _), (19, _), (20, _), (21, _), (22, _), (23, _), (24, _), (25, _), (26, _), (27, _), (28, _), (29, _), (30, _), (31, _), (32, _), (33, _), (34, _), (35, _), (36, _), (38, _), (39, _), (40, _), (41, _), (42, _), (43, _), (44, _), (2002, _), (2004, _), (2008, _), (3000, _)] ⟨rfl, rfl, rfl, rfl, rfl, rfl, rfl, rfl, rfl, rfl, rfl, rfl, rfl, rfl, rfl, rfl, rfl, rfl, rfl, rfl, rfl, rfl, rfl, rfl, rfl, rfl, rfl, rfl, rfl, rfl, rfl, rfl, rfl, rfl, rfl, rfl, rfl, rfl, rfl, rfl, trivial⟩ ?_
    refine js ?_
    refine u rfl rfl mv ?_
    refine u rfl rfl nt ?_
    refine jd ?_
    refine J_weak [(1, _), (2, _), (4, _), (5, _), (6, _), (7, _), (8, _), (10, _), (16, _), (17, _), (18, _), (19, _), (20, _), (21, _), (22, _), (23, _), (24, _), (25, _), (26, _), (27, _), (28, _), (29, _), (30, _), (31, _), (32, _), (33, _), (34, _), (35, _), (36, _), (38, _), (39, _), (40, _), (41, _), (42, _), (43, _), (44, _), (45, _), (46, _), (2002, _), (2004, _), (2008, _), (3000, _)] ⟨rfl, rfl, rfl, rfl, rfl, rfl, rfl, rfl, rfl, rfl, rfl, rfl, rfl, rfl, rfl, rfl, rfl, rfl, rfl, rfl, rfl, rfl, rfl, rfl, rfl, rfl, rfl, rfl, rfl, rfl, rfl, rfl, rfl, rfl, rfl, rfl, rfl, rfl, rfl, rfl, rfl, rfl, trivial⟩ ?_
    refine J_condT rfl ?_
    refine JR.start ?_
    refine u rfl rfl mv ?_
    refine u rfl rfl (fA 0 1) ?_
    refine u rfl rfl ld ?_
    refine u rfl rfl mv ?_
    refine u rfl rfl (r_mapPush (dk := .int .i64) rfl rfl (by kernel_rfl) rfl rfl rfl rfl rfl fstV_key (fst_no hno)) ?_
    refine jd ?_
    refine J_weak [(1, _), (2, _), (4, _), (5, _), (6, _), (7, _), (8, _), (10, _), (16, _), (17, _), (18, _), (19, _), (20, _), (21, _), (22, _), (23, _), (24, _), (25, _), (26, _), (27, _), (28, _), (29, _), (30, _), (31, _), (32, _), (33, _), (34, _), (35, _), (36, _), (38, _), (39, _), (40, _), (41, _), (42, _), (43, _), (44, _), (45, _), (46, _), (47, _), (48, _), (49, _), (50, _), (2002, _), (2004, _), (2008, _), (3000, _)] ⟨rfl, rfl, rfl, rfl, rfl, rfl, rfl, rfl, rfl, rfl, rfl, rfl, rfl, rfl, rfl, rfl, rfl, rfl, rfl, rfl, rfl, rfl, rfl, rfl, rfl, rfl, rfl, rfl, rfl, rfl, rfl, rfl, rfl, rfl, rfl, rfl, rfl, rfl, rfl, rfl, rfl, rfl, rfl, rfl, rfl, rfl, trivial⟩ ?_
    refine JR.start ?_
    refine u rfl rfl (r_addI rfl rfl rfl rfl (by omega)) ?_
    refine u rfl rfl mv ?_
    refine jd ?_
    have hsn : fstV 0 (vs.take i) ++ [(.int .i64 v, (i : Int))] = fstV 0 (vs.take (i + 1)) := by rw [take_snoc' hv, fstV_snoc, List.length_take, Nat.zero_add, Nat.min_eq_left (by omega)]
    refine ⟨⟨i + 1, by omega⟩, by simp only; omega, rfl, ?_, rfl, rfl, rfl, rfl, rfl, rfl, rfl, rfl, rfl, trivial⟩
    show some (F.var mapT (vmap (fstV 0 (vs.take i) ++ [(.int .i64 v, (i : Int))]))) = some (F.var mapT (vmap (fstV 0 (vs.take (i + 1)))))
    rw [hsn]
  · intro h19
    replace h19 := of_decide_eq_false h19
    refine jd ?_
    refine w12 1 2 4 5 6 16 17 18 19 2002 2004 3000 ?_
    refine J_seq ?_
    refine J_condF rfl ?_
    refine J_exit ?_
    refine J_seq ?_
    have e : vs.take i = vs := List.take_of_length_le (by omega)
    rw [e]
    refine JR.start ?_
    refine u rfl rfl (lA 3) ?_
    refine u rfl rfl mv ?_
    refine u rfl rfl mv ?_
    refine u rfl rfl (cl (kSput t.size vs t hnd (by omega) (Nat.le_refl _) (by omega))) ?_
    refine u rfl rfl sA ?_
    refine u rfl rfl asg ?_
    refine jd ?_
    refine w3 4 5 2004 ?_
    refine J_ret ?_
    exact ⟨.inl rfl, _, rfl, .refl _, trivial⟩

theorem outR_vars (es : Seen) : outR es = (es.map (·.1)).map fun v => [D.lit (.int .i64 v)] := by simp [outR]
theorem kCanon (t : Ty) (hr : mRight t = true) (hs : t.size ≤ 100000) : Con Tryz.prog 23 [.agg (tyE t)] [] (.tup [.agg (tyE (canon t)), .c (.lit (.int .i64 0))]) [] := by
  have hc := kCheck t (by omega)
  rw [hr] at hc
  have hv := kTVars t hs
  rw [outR_vars, show (tVars t.size t []).map (·.1) = varsOf t from rfl] at hv
  have hok := varsOf_ok t
  have hsb := kSubst t (varsOf t) hr hs hok.1 (by omega) (varsOf_num hr)
  rw [show cPut t.size (varsOf t) t = canon t from rfl] at hsb
  generalize varsOf t = vs at hv hok hsb
  have hml : (vs.map fun v => [D.lit (.int .i64 v)]).length = vs.length := by simp
  refine con_intro rfl rfl (by kernel_rfl) (by kernel_rfl) ?_
  refine js ?_
  refine u rfl rfl (r_boxA (x := 2001) rfl rfl rfl rfl) ?_
  refine u rfl rfl (r_alloc (x := 2002) (zs := zt) dt rfl rfl rfl (by kernel_rfl) kt) ?_
  refine u rfl rfl asg ?_
  refine jd ?_
  refine w5 1 2 3 2001 2002 ?_
  refine J_seq ?_
  refine js ?_
  refine u rfl rfl (lA 3) ?_
  refine u rfl rfl (cl (hc)) ?_
  refine u rfl rfl (r_neI rfl rfl rfl rfl) ?_
  refine jd ?_
  refine w6 1 2 3 9 2001 2002 ?_
  refine J_condF rfl ?_
  refine J_skip ?_
  refine js ?_
  refine u rfl rfl asg ?_
  refine jd ?_
  refine w6 1 2 3 4 2001 2002 ?_
  refine J_seq ?_
  refine js ?_
  refine u rfl rfl (lA 3) ?_
  refine u rfl rfl (cl (hv)) ?_
  refine u rfl rfl (r_lenOwn rfl rfl (by kernel_rfl) rfl) ?_
  refine u rfl rfl mv ?_
  refine jd ?_
  refine w9 1 2 3 4 12 13 14 2001 2002 ?_
  refine J_block ?_
  refine J_turn (t_ownC 12 rfl) (by kernel_rfl) ?_
  refine J_turn (t_nilOwn 4 76 4 (by kernel_rfl) rfl) (by kernel_rfl) ?_
  refine J_loopF (α := { i : Nat // i ≤ vs.length }) (fun p => [(14, .c (.lit (.int .i64 (p.1 : Int)))), (4, .own 76 4 (bndR 0 (vs.take p.1)))]) [(1, _), (2, _), (3, _), (12, _), (13, _), (2001, _), (2002, _)] (fun p => vs.length - p.1) ⟨0, Nat.zero_le _⟩ ⟨rfl, rfl, rfl, rfl, rfl, rfl, rfl, rfl, rfl, trivial⟩ ?_
  rintro ⟨i, hi⟩
  dsimp only
  refine js ?_
  refine JR.runB rfl rfl (r_ltI rfl rfl rfl rfl) ?_ ?_
  · intro h15
    replace h15 := of_decide_eq_true h15
    obtain ⟨v, hv2⟩ := get_some (l := vs) (i := i) (by omega)
    have hvr : (vs.map fun v => [D.lit (.int .i64 v)])[((i : Nat) : Int).toNat]? = some [.lit (.int .i64 v)] := by simp [hv2]
    refine jd ?_
    refine w10 1 2 3 4 12 13 14 15 2001 2002 ?_
    refine J_seq ?_
    refine J_condT rfl ?_
    refine J_skip ?_
    refine J_seq ?_
    refine J_block ?_
    refine js ?_
    refine u rfl rfl mv ?_
    refine u rfl rfl (r_indexAddr (e := 3) (sz := 1) rfl rfl (by kernel_rfl) rfl rfl (by omega) (hvr)) ?_
    refine u rfl rfl lE ?_
    refine u rfl rfl asg ?_
    refine u rfl rfl asg ?_
    refine jd ?_
    refine w15 1 2 3 4 5 6 12 13 14 15 16 17 18 2001 2002 ?_
    refine JR.start ?_
    refine u rfl rfl (r_moveOwn rfl rfl rfl rfl) ?_
    refine u rfl rfl mv ?_
    refine u rfl rfl mv ?_
    refine u rfl rfl (r_build (zs := zt) (qs := [(0, 1), (1, 1), (2, 1)]) dt rfl rfl (by kernel_rfl) (by kernel_rfl) kt rfl rfl) ?_
    refine u rfl rfl (r_build (zs := [.int .i64 0, .int .i64 0, .int .i64 0, .slice none 0 0]) (qs := [(0, 1), (1, 3)]) [.lit (.int .i64 0), .lit (.int .i64 0), .lit (.int .i64 0), .sl 3 []] rfl rfl (by kernel_rfl) (by kernel_rfl) ⟨.refl _, .refl _, .refl _, .nil _, trivial⟩ rfl rfl) ?_
    refine u rfl rfl (r_buildSlice (e := 76) (sz := 4) (zs := [.int .i64 0, .int .i64 0, .int .i64 0, .slice none 0 0]) ([[.lit (.int .i64 v), .lit (.int .i64 6), .lit (.int .i64 (i : Int)), .sl 3 []]]) rfl rfl (by kernel_rfl) (by kernel_rfl) rfl rfl rfl rfl) ?_
    refine u rfl rfl (r_append (e := 76) (sz := 4) (b := 48) rfl rfl (by kernel_rfl) rfl rfl (by have q := bndR_len 0 (vs.take i); rw [List.length_take] at q; simp only [List.length_cons, List.length_nil]; omega) (by have q := bndR_len 0 (vs.take i); rw [List.length_take] at q; simp only [List.length_cons, List.length_nil]; omega)) ?_
    refine u rfl rfl (r_assignOwn rfl rfl rfl rfl) ?_
    refine jd ?_
    refine J_weak [(1, _), (2, _), (3, _), (4, _), (5, _), (6, _), (12, _), (13, _), (14, _), (15, _), (16, _), (17, _), (18, _), (20, _), (21, _), (22, _), (23, _), (24, _), (2001, _), (2002, _)] ⟨rfl, rfl, rfl, rfl, rfl, rfl, rfl, rfl, rfl, rfl, rfl, rfl, rfl, rfl, rfl, rfl, rfl, rfl, rfl, rfl, trivial⟩ ?_
    refine JR.start ?_
    refine u rfl rfl (r_addI rfl rfl rfl rfl (by omega)) ?_
    refine u rfl rfl mv ?_
    refine jd ?_
    have hsn : bndR 0 (vs.take i) ++ [[.lit (.int .i64 v), .lit (.int .i64 6), .lit (.int .i64 (i : Int)), .sl 3 []]] = bndR 0 (vs.take (i + 1)) := by rw [take_snoc' hv2, bndR_snoc, List.length_take, Nat.zero_add, Nat.min_eq_left (by omega)]
    refine ⟨⟨i + 1, by omega⟩, by simp only; omega, rfl, ?_, rfl, rfl, rfl, rfl, rfl, rfl, rfl, trivial⟩
    show some (F.own 76 4 (bndR 0 (vs.take i) ++ [[.lit (.int .i64 v), .lit (.int .i64 6), .lit (.int .i64 (i : Int)), .sl 3 []]])) = some (F.own 76 4 (bndR 0 (vs.take (i + 1))))
    rw [hsn]
  · intro h15
    replace h15 := of_decide_eq_false h15
    refine jd ?_
    refine w10 1 2 3 4 12 13 14 15 2001 2002 ?_
    refine J_seq ?_
    refine J_condF rfl ?_
    refine J_exit ?_
    refine J_seq ?_
    refine J_turn (t_ownC 4 rfl) (by kernel_rfl) ?_
    have e : vs.take i = vs := List.take_of_length_le (by omega)
    rw [e]
    refine JR.start ?_
    refine u rfl rfl (lA 3) ?_
    refine u rfl rfl mv ?_
    refine u rfl rfl (cl (hsb)) ?_
    refine u rfl rfl xt ?_
    refine u rfl rfl xt ?_
    refine u rfl rfl sA ?_
    refine u rfl rfl asg ?_
    refine jd ?_
    refine w3 2 3 2002 ?_
    refine J_ret ?_
    exact ⟨.inl rfl, _, rfl, .refl _, trivial⟩

theorem kCanonNo (t : Ty) (hr : mRight t = false) (hs : t.size ≤ 100000) : Con Tryz.prog 23 [.agg (tyE t)] [] (.tup [.agg [.any, .any, .any], .c (.lit (.int .i64 1))]) [] := by
  have hc := kCheck t (by omega)
  rw [hr] at hc
  refine con_intro rfl rfl (by kernel_rfl) (by kernel_rfl) ?_
  refine js ?_
  refine u rfl rfl (r_boxA (x := 2001) rfl rfl rfl rfl) ?_
  refine u rfl rfl (r_alloc (x := 2002) (zs := zt) dt rfl rfl rfl (by kernel_rfl) kt) ?_
  refine u rfl rfl asg ?_
  refine jd ?_
  refine w5 1 2 3 2001 2002 ?_
  refine J_seq ?_
  refine js ?_
  refine u rfl rfl (lA 3) ?_
  refine u rfl rfl (cl (hc)) ?_
  refine u rfl rfl (r_neI rfl rfl rfl rfl) ?_
  refine jd ?_
  refine w6 1 2 3 9 2001 2002 ?_
  refine J_condT rfl ?_
  refine js ?_
  refine u rfl rfl (r_build (zs := zt) (qs := [(0, 1), (1, 1), (2, 1)]) dt rfl rfl (by kernel_rfl) (by kernel_rfl) kt rfl rfl) ?_
  refine u rfl rfl sA ?_
  refine u rfl rfl asg ?_
  refine jd ?_
  refine w5 1 2 3 2001 2002 ?_
  refine J_ret ?_
  exact ⟨.inl rfl, _, rfl, jk3, trivial⟩

theorem kTtype (t : Ty) (hs : t.size ≤ 100000) : Con Tryz.prog 8 [.agg (tyE t)] [] (.c (.lit (str (tyT t)))) [] := by
  cases hr : mRight t with
  | false =>
    have hc := kCanonNo t hr hs
    rw [show tyT t = [] by unfold tyT; rw [hr]; rfl]
    refine con_intro rfl rfl (by kernel_rfl) (by kernel_rfl) ?_
    refine js ?_
    refine u rfl rfl (r_boxA (x := 2001) rfl rfl rfl rfl) ?_
    refine u rfl rfl asg ?_
    refine jd ?_
    refine w3 1 2 2001 ?_
    refine js ?_
    refine u rfl rfl (lA 3) ?_
    refine u rfl rfl (cl (hc)) ?_
    refine u rfl rfl mv ?_
    refine u rfl rfl xt ?_
    refine u rfl rfl xt ?_
    refine u rfl rfl (r_alloc (x := 2003) (zs := zt) dt rfl rfl rfl (by kernel_rfl) kt) ?_
    refine u rfl rfl sA ?_
    refine u rfl rfl asg ?_
    refine jd ?_
    refine w4 2 3 4 2003 ?_
    refine J_seq ?_
    refine js ?_
    refine u rfl rfl mv ?_
    refine u rfl rfl (r_neI rfl rfl rfl rfl) ?_
    refine jd ?_
    refine w4 2 3 13 2003 ?_
    refine J_condT rfl ?_
    refine js ?_
    refine u rfl rfl asg ?_
    refine jd ?_
    refine w3 2 3 2003 ?_
    refine J_ret ?_
    exact ⟨.inl rfl, _, rfl, .refl _, trivial⟩
  | true =>
    have hc := kCanon t hr hs
    have ht := kText (canon t) (by have := canon_size t; omega)
    rw [show tyT t = if mRight (canon t) then mTxt (canon t) else [] by unfold tyT; rw [hr]; rfl]
    refine con_intro rfl rfl (by kernel_rfl) (by kernel_rfl) ?_
    refine js ?_
    refine u rfl rfl (r_boxA (x := 2001) rfl rfl rfl rfl) ?_
    refine u rfl rfl asg ?_
    refine jd ?_
    refine w3 1 2 2001 ?_
    refine js ?_
    refine u rfl rfl (lA 3) ?_
    refine u rfl rfl (cl (hc)) ?_
    refine u rfl rfl mv ?_
    refine u rfl rfl xt ?_
    refine u rfl rfl xt ?_
    refine u rfl rfl (r_alloc (x := 2003) (zs := zt) dt rfl rfl rfl (by kernel_rfl) kt) ?_
    refine u rfl rfl sA ?_
    refine u rfl rfl asg ?_
    refine jd ?_
    refine w4 2 3 4 2003 ?_
    refine J_seq ?_
    refine js ?_
    refine u rfl rfl mv ?_
    refine u rfl rfl (r_neI rfl rfl rfl rfl) ?_
    refine jd ?_
    refine w4 2 3 13 2003 ?_
    refine J_condF rfl ?_
    refine J_skip ?_
    refine js ?_
    refine u rfl rfl (lA 3) ?_
    refine u rfl rfl (cl (ht)) ?_
    refine u rfl rfl mv ?_
    refine u rfl rfl xt ?_
    refine u rfl rfl xt ?_
    refine u rfl rfl asg ?_
    refine u rfl rfl asg ?_
    refine jd ?_
    refine w2 2 5 ?_
    refine js ?_
    refine u rfl rfl mv ?_
    refine u rfl rfl asg ?_
    refine jd ?_
    refine w1 2 ?_
    refine J_ret ?_
    exact ⟨.inl rfl, _, rfl, .refl _, trivial⟩

end Go.Proofs.YtccdnmjijakofaaGreatDoor
