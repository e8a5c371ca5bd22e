/- The reference's reader of types: post, Type, Read. -/
import Derived.Test.YtoadmjnaakbljaaDoorRr1
namespace Go.Proofs.YtoadmjnaakbljaaDoor
open Go Go.RowKit
set_option maxRecDepth 100000
set_option linter.unusedVariables false

theorem rPost_any (f : Nat) (hT : RrTyp f) (ts : List Tok) (i : Nat) (hm : ts.length ≤ 1000000000) (hi : i ≤ ts.length) (hf : ts.length - i < f + 1) : RrOK 49 (mPost (mTypF f)) ts i := by
  have hc := rAtom_any f hT ts i hm hi hf
  have hok := mAtom_ok (mTypF_ok f) (ts.drop i)
  unfold RrOK at hc ⊢
  obtain ⟨M, hM⟩ : ∃ M, M = mPost (mTypF f) (ts.drop i) := ⟨_, rfl⟩
  rw [← hM]
  rw [mPost] at hM
  cases hx : mAtom (mTypF f) (ts.drop i) with
  | error k =>
    rw [hx] at hc hM
    subst hM
    simp only [retR, posE, badE] at hc ⊢
    refine con_intro rfl rfl (by kernel_rfl) (by kernel_rfl) ?_
    refine J_seq ?_
    refine JR.start ?_
    refine JR.run rfl rfl (r_alloc (x := 2002) (zs := [.int .i64 0, .int .i64 0, .slice none 0 0]) [.lit (.int .i64 0), .lit (.int .i64 0), .sl 3 []] rfl rfl rfl (by kernel_rfl) ⟨.refl _, .refl _, .nil _, trivial⟩) ?_
    refine JR.done [] (by kernel_rfl) rfl (by kernel_rfl) ?_
    refine J_weak [(0, _), (2, _), (2002, _), (3000, _)] ⟨rfl, rfl, rfl, rfl, trivial⟩ ?_
    refine J_seq ?_
    refine JR.start ?_
    refine JR.run rfl rfl (r_move rfl rfl rfl trivial) ?_
    refine JR.run rfl rfl (r_call (hc) rfl rfl rfl ⟨rfl, trivial⟩ (by kernel_rfl)) ?_
    refine JR.run rfl rfl (r_alloc (x := 2003) (zs := [.int .i64 0, .int .i64 0, .slice none 0 0]) [.lit (.int .i64 0), .lit (.int .i64 0), .sl 3 []] rfl rfl rfl (by kernel_rfl) ⟨.refl _, .refl _, .nil _, trivial⟩) ?_
    refine JR.run rfl rfl (r_storeA rfl rfl (by kernel_rfl) rfl rfl rfl rfl rfl) ?_
    refine JR.done [] (by kernel_rfl) rfl (by kernel_rfl) ?_
    refine J_weak [(0, _), (2, _), (3, _), (2002, _), (2003, _), (3000, _)] ⟨rfl, rfl, rfl, rfl, rfl, rfl, trivial⟩ ?_
    refine J_seq ?_
    refine J_block ?_
    refine J_loopExit ?_
    refine J_seq ?_
    refine J_seq ?_
    refine JR.start ?_
    refine JR.run rfl rfl (r_move rfl rfl rfl trivial) ?_
    refine JR.run rfl rfl (r_call (rMayB ts _ _ 2 tkList (by omega)) rfl rfl rfl ⟨rfl, trivial⟩ (by kernel_rfl)) ?_
    refine JR.done [] (by kernel_rfl) rfl (by kernel_rfl) ?_
    refine J_weak [(0, _), (2, _), (3, _), (6, _), (7, _), (2002, _), (2003, _), (3000, _)] ⟨rfl, rfl, rfl, rfl, rfl, rfl, rfl, rfl, trivial⟩ ?_
    refine J_condF rfl ?_
    refine J_exit ?_
    refine J_seq ?_
    refine JR.start ?_
    refine JR.run rfl rfl (r_loadA (m := 3) (us := _) rfl rfl (by kernel_rfl) rfl rfl rfl rfl) ?_
    refine JR.run rfl rfl (r_storeA rfl rfl (by kernel_rfl) rfl rfl rfl rfl rfl) ?_
    refine JR.done [] (by kernel_rfl) rfl (by kernel_rfl) ?_
    refine J_weak [(2, _), (2002, _), (3000, _)] ⟨rfl, rfl, rfl, trivial⟩ ?_
    refine J_ret ?_
    exact ⟨.inl rfl, _, rfl, .refl _, rfl, trivial⟩
  | ok p =>
    obtain ⟨t, r⟩ := p
    obtain ⟨j, hj1, hj2, rfl⟩ := ok_drop hok hx hi
    rw [hx] at hc hM
    simp only [retR, posE, badE, pos_drop hj2, tyD_eq] at hc
    simp only at hM
    obtain ⟨⟨tf, rf⟩, hq⟩ : ∃ q, q = mLists t (ts.drop j) := ⟨_, rfl⟩
    rw [← hq] at hM
    subst hM
    refine con_intro rfl rfl (by kernel_rfl) (by kernel_rfl) ?_
    refine J_seq ?_
    refine JR.start ?_
    refine JR.run rfl rfl (r_alloc (x := 2002) (zs := [.int .i64 0, .int .i64 0, .slice none 0 0]) [.lit (.int .i64 0), .lit (.int .i64 0), .sl 3 []] rfl rfl rfl (by kernel_rfl) ⟨.refl _, .refl _, .nil _, trivial⟩) ?_
    refine JR.done [] (by kernel_rfl) rfl (by kernel_rfl) ?_
    refine J_weak [(0, _), (2, _), (2002, _), (3000, _)] ⟨rfl, rfl, rfl, rfl, trivial⟩ ?_
    refine J_seq ?_
    refine JR.start ?_
    refine JR.run rfl rfl (r_move rfl rfl rfl trivial) ?_
    refine JR.run rfl rfl (r_call (hc) rfl rfl rfl ⟨rfl, trivial⟩ (by kernel_rfl)) ?_
    refine JR.run rfl rfl (r_alloc (x := 2003) (zs := [.int .i64 0, .int .i64 0, .slice none 0 0]) [.lit (.int .i64 0), .lit (.int .i64 0), .sl 3 []] rfl rfl rfl (by kernel_rfl) ⟨.refl _, .refl _, .nil _, trivial⟩) ?_
    refine JR.run rfl rfl (r_storeA rfl rfl (by kernel_rfl) rfl rfl rfl rfl rfl) ?_
    refine JR.done [] (by kernel_rfl) rfl (by kernel_rfl) ?_
    refine J_weak [(0, _), (2, _), (3, _), (2002, _), (2003, _), (3000, _)] ⟨rfl, rfl, rfl, rfl, rfl, rfl, trivial⟩ ?_
    refine J_seq ?_
    refine J_block ?_
    refine J_loop (α := { p : Ty × Nat // p.2 ≤ ts.length ∧ (tf, rf) = mLists p.1 (ts.drop p.2) }) (fun p => [(0, .ptr 3000 0), (2, .ptr 2002 0), (3, .ptr 2003 0), (2002, .var 24 zeroTyC), (2003, .var 24 (tyC p.1.1)), (3000, rRdr ts p.1.2 (-1))]) (fun p => ts.length - p.1.2) ⟨(t, j), hj2, hq⟩ ⟨rfl, rfl, rfl, rfl, rfl, rfl, trivial⟩ ?_
    rintro ⟨⟨t', j'⟩, hj', hM'⟩
    dsimp only at hj' hM' ⊢
    clear hc hx hok hj1 hj2 hq
    cases h : hit 2 tkList (ts.drop j') with
    | true =>
      have hlt := hit_lt h
      rw [mLists_hit h, hit_tail h] at hM'
      refine J_seq ?_
      refine J_seq ?_
      refine JR.start ?_
      refine JR.run rfl rfl (r_move rfl rfl rfl trivial) ?_
      refine JR.run rfl rfl (r_call (rMayT ts j' 2 tkList hm h) rfl rfl rfl ⟨rfl, trivial⟩ (by kernel_rfl)) ?_
      refine JR.done [] (by kernel_rfl) rfl (by kernel_rfl) ?_
      refine J_weak [(0, _), (2, _), (3, _), (6, _), (7, _), (2002, _), (2003, _), (3000, _)] ⟨rfl, rfl, rfl, rfl, rfl, rfl, rfl, rfl, trivial⟩ ?_
      refine J_condT rfl ?_
      refine J_skip ?_
      refine J_block ?_
      refine JR.start ?_
      refine JR.run rfl rfl (r_loadA (m := 3) (us := _) rfl rfl (by kernel_rfl) rfl rfl rfl rfl) ?_
      refine JR.run rfl rfl (r_call (rList t') rfl rfl rfl trivial (by kernel_rfl)) ?_
      refine JR.run rfl rfl (r_storeA rfl rfl (by kernel_rfl) rfl rfl rfl rfl rfl) ?_
      refine JR.done [] (by kernel_rfl) rfl (by kernel_rfl) ?_
      exact ⟨⟨(.one 8 t', j' + 1), by simp only; omega, hM'⟩, by simp only; omega, rfl, rfl, rfl, rfl, rfl, rfl, trivial⟩
    | false =>
      rw [mLists_miss h] at hM'
      refine J_seq ?_
      refine J_seq ?_
      refine JR.start ?_
      refine JR.run rfl rfl (r_move rfl rfl rfl trivial) ?_
      refine JR.run rfl rfl (r_call (rMayF ts j' 2 tkList hm h) rfl rfl rfl ⟨rfl, trivial⟩ (by kernel_rfl)) ?_
      refine JR.done [] (by kernel_rfl) rfl (by kernel_rfl) ?_
      refine J_weak [(0, _), (2, _), (3, _), (6, _), (7, _), (2002, _), (2003, _), (3000, _)] ⟨rfl, rfl, rfl, rfl, rfl, rfl, rfl, rfl, trivial⟩ ?_
      refine J_condF rfl ?_
      refine J_exit ?_
      refine J_seq ?_
      refine JR.start ?_
      refine JR.run rfl rfl (r_loadA (m := 3) (us := _) rfl rfl (by kernel_rfl) rfl rfl rfl rfl) ?_
      refine JR.run rfl rfl (r_storeA rfl rfl (by kernel_rfl) rfl rfl rfl rfl rfl) ?_
      refine JR.done [] (by kernel_rfl) rfl (by kernel_rfl) ?_
      refine J_weak [(2, _), (2002, _), (3000, _)] ⟨rfl, rfl, rfl, trivial⟩ ?_
      refine J_ret ?_
      refine ⟨.inl rfl, _, rfl, ?_, ?_, trivial⟩
      · show WkF _ (.agg (tyD tf))
        rw [show tf = t' from congrArg Prod.fst hM', tyD_eq]
        exact .refl _
      · show _ = some (rRdr ts (ts.length - rf.length) (-1))
        rw [show rf = ts.drop j' from congrArg Prod.snd hM', pos_drop hj']
        rfl

theorem rType_step (f : Nat) (hT : RrTyp f) (ts : List Tok) (i : Nat) (hm : ts.length ≤ 1000000000) (hi : i ≤ ts.length) (hf : ts.length - i < f + 1) : RrOK 37 (mTypF (f + 1)) ts i := by
  have hc := rPost_any f hT ts i hm hi hf
  have hok := mPost_ok (mTypF_ok f) (ts.drop i)
  unfold RrOK at hc ⊢
  obtain ⟨M, hM⟩ : ∃ M, M = mTypF (f + 1) (ts.drop i) := ⟨_, rfl⟩
  rw [← hM]
  rw [mTypF, mProd] at hM
  cases hx : mPost (mTypF f) (ts.drop i) with
  | error k =>
    rw [hx] at hc hM
    subst hM
    simp only [retR, posE, badE] at hc ⊢
    refine con_intro rfl rfl (by kernel_rfl) (by kernel_rfl) ?_
    refine J_seq ?_
    refine JR.start ?_
    refine JR.run rfl rfl (r_alloc (x := 2002) (zs := [.int .i64 0, .int .i64 0, .slice none 0 0]) [.lit (.int .i64 0), .lit (.int .i64 0), .sl 3 []] rfl rfl rfl (by kernel_rfl) ⟨.refl _, .refl _, .nil _, trivial⟩) ?_
    refine JR.done [] (by kernel_rfl) rfl (by kernel_rfl) ?_
    refine J_weak [(0, _), (2, _), (2002, _), (3000, _)] ⟨rfl, rfl, rfl, rfl, trivial⟩ ?_
    refine J_seq ?_
    refine JR.start ?_
    refine JR.run rfl rfl (r_move rfl rfl rfl trivial) ?_
    refine JR.run rfl rfl (r_call (hc) rfl rfl rfl ⟨rfl, trivial⟩ (by kernel_rfl)) ?_
    refine JR.run rfl rfl (r_alloc (x := 2003) (zs := [.int .i64 0, .int .i64 0, .slice none 0 0]) [.lit (.int .i64 0), .lit (.int .i64 0), .sl 3 []] rfl rfl rfl (by kernel_rfl) ⟨.refl _, .refl _, .nil _, trivial⟩) ?_
    refine JR.run rfl rfl (r_storeA rfl rfl (by kernel_rfl) rfl rfl rfl rfl rfl) ?_
    refine JR.done [] (by kernel_rfl) rfl (by kernel_rfl) ?_
    refine J_weak [(0, _), (2, _), (3, _), (2002, _), (2003, _), (3000, _)] ⟨rfl, rfl, rfl, rfl, rfl, rfl, trivial⟩ ?_
    refine J_seq ?_
    refine J_seq ?_
    refine JR.start ?_
    refine JR.run rfl rfl (r_move rfl rfl rfl trivial) ?_
    refine JR.run rfl rfl (r_call (rMayB ts _ _ 5 [42] (by omega)) rfl rfl rfl ⟨rfl, trivial⟩ (by kernel_rfl)) ?_
    refine JR.done [] (by kernel_rfl) rfl (by kernel_rfl) ?_
    refine J_weak [(0, _), (2, _), (3, _), (7, _), (2002, _), (2003, _), (3000, _)] ⟨rfl, rfl, rfl, rfl, rfl, rfl, rfl, trivial⟩ ?_
    refine J_condF rfl ?_
    refine J_skip ?_
    refine J_seq ?_
    refine J_seq ?_
    refine JR.start ?_
    refine JR.run rfl rfl (r_move rfl rfl rfl trivial) ?_
    refine JR.run rfl rfl (r_call (rMayB ts _ _ 5 [45, 62] (by omega)) rfl rfl rfl ⟨rfl, trivial⟩ (by kernel_rfl)) ?_
    refine JR.done [] (by kernel_rfl) rfl (by kernel_rfl) ?_
    refine J_weak [(0, _), (2, _), (3, _), (13, _), (2002, _), (2003, _), (3000, _)] ⟨rfl, rfl, rfl, rfl, rfl, rfl, rfl, trivial⟩ ?_
    refine J_condF rfl ?_
    refine J_skip ?_
    refine J_seq ?_
    refine JR.start ?_
    refine JR.run rfl rfl (r_loadA (m := 3) (us := _) rfl rfl (by kernel_rfl) rfl rfl rfl rfl) ?_
    refine JR.run rfl rfl (r_storeA rfl rfl (by kernel_rfl) rfl rfl rfl rfl rfl) ?_
    refine JR.done [] (by kernel_rfl) rfl (by kernel_rfl) ?_
    refine J_weak [(2, _), (2002, _), (3000, _)] ⟨rfl, rfl, rfl, trivial⟩ ?_
    refine J_ret ?_
    exact ⟨.inl rfl, _, rfl, .refl _, rfl, trivial⟩
  | ok p =>
    obtain ⟨t, r⟩ := p
    obtain ⟨j, hj1, jle, rfl⟩ := ok_drop hok hx hi
    rw [hx] at hc hM
    simp only [retR, posE, badE, pos_drop jle, tyD_eq] at hc
    simp only at hM
    cases h : hit 5 [42] (ts.drop j) with
    | false =>
      rw [h] at hM
      simp only [Bool.false_eq_true, if_false] at hM
      cases h2 : hit 5 [45, 62] (ts.drop j) with
      | false =>
        rw [h2] at hM
        simp only [Bool.false_eq_true, if_false] at hM
        subst hM
        simp only [retR, posE, badE, pos_drop jle]
        refine con_intro rfl rfl (by kernel_rfl) (by kernel_rfl) ?_
        refine J_seq ?_
        refine JR.start ?_
        refine JR.run rfl rfl (r_alloc (x := 2002) (zs := [.int .i64 0, .int .i64 0, .slice none 0 0]) [.lit (.int .i64 0), .lit (.int .i64 0), .sl 3 []] rfl rfl rfl (by kernel_rfl) ⟨.refl _, .refl _, .nil _, trivial⟩) ?_
        refine JR.done [] (by kernel_rfl) rfl (by kernel_rfl) ?_
        refine J_weak [(0, _), (2, _), (2002, _), (3000, _)] ⟨rfl, rfl, rfl, rfl, trivial⟩ ?_
        refine J_seq ?_
        refine JR.start ?_
        refine JR.run rfl rfl (r_move rfl rfl rfl trivial) ?_
        refine JR.run rfl rfl (r_call (hc) rfl rfl rfl ⟨rfl, trivial⟩ (by kernel_rfl)) ?_
        refine JR.run rfl rfl (r_alloc (x := 2003) (zs := [.int .i64 0, .int .i64 0, .slice none 0 0]) [.lit (.int .i64 0), .lit (.int .i64 0), .sl 3 []] rfl rfl rfl (by kernel_rfl) ⟨.refl _, .refl _, .nil _, trivial⟩) ?_
        refine JR.run rfl rfl (r_storeA rfl rfl (by kernel_rfl) rfl rfl rfl rfl rfl) ?_
        refine JR.done [] (by kernel_rfl) rfl (by kernel_rfl) ?_
        refine J_weak [(0, _), (2, _), (3, _), (2002, _), (2003, _), (3000, _)] ⟨rfl, rfl, rfl, rfl, rfl, rfl, trivial⟩ ?_
        refine J_seq ?_
        refine J_seq ?_
        refine JR.start ?_
        refine JR.run rfl rfl (r_move rfl rfl rfl trivial) ?_
        refine JR.run rfl rfl (r_call (rMayF ts j 5 [42] hm h) rfl rfl rfl ⟨rfl, trivial⟩ (by kernel_rfl)) ?_
        refine JR.done [] (by kernel_rfl) rfl (by kernel_rfl) ?_
        refine J_weak [(0, _), (2, _), (3, _), (7, _), (2002, _), (2003, _), (3000, _)] ⟨rfl, rfl, rfl, rfl, rfl, rfl, rfl, trivial⟩ ?_
        refine J_condF rfl ?_
        refine J_skip ?_
        refine J_seq ?_
        refine J_seq ?_
        refine JR.start ?_
        refine JR.run rfl rfl (r_move rfl rfl rfl trivial) ?_
        refine JR.run rfl rfl (r_call (rMayF ts j 5 [45, 62] hm h2) rfl rfl rfl ⟨rfl, trivial⟩ (by kernel_rfl)) ?_
        refine JR.done [] (by kernel_rfl) rfl (by kernel_rfl) ?_
        refine J_weak [(0, _), (2, _), (3, _), (13, _), (2002, _), (2003, _), (3000, _)] ⟨rfl, rfl, rfl, rfl, rfl, rfl, rfl, trivial⟩ ?_
        refine J_condF rfl ?_
        refine J_skip ?_
        refine J_seq ?_
        refine JR.start ?_
        refine JR.run rfl rfl (r_loadA (m := 3) (us := _) rfl rfl (by kernel_rfl) rfl rfl rfl rfl) ?_
        refine JR.run rfl rfl (r_storeA rfl rfl (by kernel_rfl) rfl rfl rfl rfl rfl) ?_
        refine JR.done [] (by kernel_rfl) rfl (by kernel_rfl) ?_
        refine J_weak [(2, _), (2002, _), (3000, _)] ⟨rfl, rfl, rfl, trivial⟩ ?_
        refine J_ret ?_
        refine ⟨.inl rfl, _, rfl, ?_, rfl, trivial⟩
        rw [tyD_eq]
        exact .refl _
      | true =>
        have hlt2 := hit_lt h2
        have hc3 := hT ts (j + 1) hm (by omega) (by omega)
        have hok3 := mTypF_ok f (ts.drop (j + 1))
        unfold RrOK at hc3
        rw [h2] at hM
        simp only [if_true, hit_tail h2] at hM
        cases hz : mTypF f (ts.drop (j + 1)) with
        | error k =>
          rw [hz] at hc3 hM
          simp only at hM
          subst hM
          simp only [retR, posE, badE] at hc3 ⊢
          refine con_intro rfl rfl (by kernel_rfl) (by kernel_rfl) ?_
          refine J_seq ?_
          refine JR.start ?_
          refine JR.run rfl rfl (r_alloc (x := 2002) (zs := [.int .i64 0, .int .i64 0, .slice none 0 0]) [.lit (.int .i64 0), .lit (.int .i64 0), .sl 3 []] rfl rfl rfl (by kernel_rfl) ⟨.refl _, .refl _, .nil _, trivial⟩) ?_
          refine JR.done [] (by kernel_rfl) rfl (by kernel_rfl) ?_
          refine J_weak [(0, _), (2, _), (2002, _), (3000, _)] ⟨rfl, rfl, rfl, rfl, trivial⟩ ?_
          refine J_seq ?_
          refine JR.start ?_
          refine JR.run rfl rfl (r_move rfl rfl rfl trivial) ?_
          refine JR.run rfl rfl (r_call (hc) rfl rfl rfl ⟨rfl, trivial⟩ (by kernel_rfl)) ?_
          refine JR.run rfl rfl (r_alloc (x := 2003) (zs := [.int .i64 0, .int .i64 0, .slice none 0 0]) [.lit (.int .i64 0), .lit (.int .i64 0), .sl 3 []] rfl rfl rfl (by kernel_rfl) ⟨.refl _, .refl _, .nil _, trivial⟩) ?_
          refine JR.run rfl rfl (r_storeA rfl rfl (by kernel_rfl) rfl rfl rfl rfl rfl) ?_
          refine JR.done [] (by kernel_rfl) rfl (by kernel_rfl) ?_
          refine J_weak [(0, _), (2, _), (3, _), (2002, _), (2003, _), (3000, _)] ⟨rfl, rfl, rfl, rfl, rfl, rfl, trivial⟩ ?_
          refine J_seq ?_
          refine J_seq ?_
          refine JR.start ?_
          refine JR.run rfl rfl (r_move rfl rfl rfl trivial) ?_
          refine JR.run rfl rfl (r_call (rMayF ts j 5 [42] hm h) rfl rfl rfl ⟨rfl, trivial⟩ (by kernel_rfl)) ?_
          refine JR.done [] (by kernel_rfl) rfl (by kernel_rfl) ?_
          refine J_weak [(0, _), (2, _), (3, _), (7, _), (2002, _), (2003, _), (3000, _)] ⟨rfl, rfl, rfl, rfl, rfl, rfl, rfl, trivial⟩ ?_
          refine J_condF rfl ?_
          refine J_skip ?_
          refine J_seq ?_
          refine J_seq ?_
          refine JR.start ?_
          refine JR.run rfl rfl (r_move rfl rfl rfl trivial) ?_
          refine JR.run rfl rfl (r_call (rMayT ts j 5 [45, 62] hm h2) rfl rfl rfl ⟨rfl, trivial⟩ (by kernel_rfl)) ?_
          refine JR.done [] (by kernel_rfl) rfl (by kernel_rfl) ?_
          refine J_weak [(0, _), (2, _), (3, _), (13, _), (2002, _), (2003, _), (3000, _)] ⟨rfl, rfl, rfl, rfl, rfl, rfl, rfl, trivial⟩ ?_
          refine J_condT rfl ?_
          refine JR.start ?_
          refine JR.run rfl rfl (r_loadA (m := 3) (us := _) rfl rfl (by kernel_rfl) rfl rfl rfl rfl) ?_
          refine JR.run rfl rfl (r_move rfl rfl rfl trivial) ?_
          refine JR.run rfl rfl (r_call (hc3) rfl rfl rfl ⟨rfl, trivial⟩ (by kernel_rfl)) ?_
          refine JR.run rfl rfl (r_call (rTwoD 9 (.lit (.int .i64 t.kind)) (.lit (.int .i64 t.num)) (.sl 3 (tysD t.kids)) .any .any .any) rfl rfl rfl trivial (by kernel_rfl)) ?_
          refine JR.run rfl rfl (r_storeA rfl rfl (by kernel_rfl) rfl rfl rfl rfl rfl) ?_
          refine JR.done [[], [], [1], [0, 1, 2], [0, 1, 2, 3]] (by kernel_rfl) rfl (by kernel_rfl) ?_
          refine J_weak [(2, _), (3, _), (2002, _), (2003, _), (3000, _)] ⟨rfl, rfl, rfl, rfl, rfl, trivial⟩ ?_
          refine J_seq ?_
          refine JR.start ?_
          refine JR.run rfl rfl (r_loadA (m := 3) (us := _) rfl rfl (by kernel_rfl) rfl rfl rfl rfl) ?_
          refine JR.run rfl rfl (r_storeA rfl rfl (by kernel_rfl) rfl rfl rfl rfl rfl) ?_
          refine JR.done [] (by kernel_rfl) rfl (by kernel_rfl) ?_
          refine J_weak [(2, _), (2002, _), (3000, _)] ⟨rfl, rfl, rfl, trivial⟩ ?_
          refine J_ret ?_
          exact ⟨.inl rfl, _, rfl, .agg ⟨.any _, .any _, .any _, trivial⟩, rfl, trivial⟩
        | ok q3 =>
          obtain ⟨t3, r3⟩ := q3
          obtain ⟨j3, hj5, hj6, rfl⟩ := ok_drop hok3 hz (by omega)
          rw [hz] at hc3 hM
          simp only [retR, posE, badE, pos_drop hj6, tyD_eq] at hc3
          simp only at hM
          subst hM
          simp only [retR, posE, badE, pos_drop hj6]
          refine con_intro rfl rfl (by kernel_rfl) (by kernel_rfl) ?_
          refine J_seq ?_
          refine JR.start ?_
          refine JR.run rfl rfl (r_alloc (x := 2002) (zs := [.int .i64 0, .int .i64 0, .slice none 0 0]) [.lit (.int .i64 0), .lit (.int .i64 0), .sl 3 []] rfl rfl rfl (by kernel_rfl) ⟨.refl _, .refl _, .nil _, trivial⟩) ?_
          refine JR.done [] (by kernel_rfl) rfl (by kernel_rfl) ?_
          refine J_weak [(0, _), (2, _), (2002, _), (3000, _)] ⟨rfl, rfl, rfl, rfl, trivial⟩ ?_
          refine J_seq ?_
          refine JR.start ?_
          refine JR.run rfl rfl (r_move rfl rfl rfl trivial) ?_
          refine JR.run rfl rfl (r_call (hc) rfl rfl rfl ⟨rfl, trivial⟩ (by kernel_rfl)) ?_
          refine JR.run rfl rfl (r_alloc (x := 2003) (zs := [.int .i64 0, .int .i64 0, .slice none 0 0]) [.lit (.int .i64 0), .lit (.int .i64 0), .sl 3 []] rfl rfl rfl (by kernel_rfl) ⟨.refl _, .refl _, .nil _, trivial⟩) ?_
          refine JR.run rfl rfl (r_storeA rfl rfl (by kernel_rfl) rfl rfl rfl rfl rfl) ?_
          refine JR.done [] (by kernel_rfl) rfl (by kernel_rfl) ?_
          refine J_weak [(0, _), (2, _), (3, _), (2002, _), (2003, _), (3000, _)] ⟨rfl, rfl, rfl, rfl, rfl, rfl, trivial⟩ ?_
          refine J_seq ?_
          refine J_seq ?_
          refine JR.start ?_
          refine JR.run rfl rfl (r_move rfl rfl rfl trivial) ?_
          refine JR.run rfl rfl (r_call (rMayF ts j 5 [42] hm h) rfl rfl rfl ⟨rfl, trivial⟩ (by kernel_rfl)) ?_
          refine JR.done [] (by kernel_rfl) rfl (by kernel_rfl) ?_
          refine J_weak [(0, _), (2, _), (3, _), (7, _), (2002, _), (2003, _), (3000, _)] ⟨rfl, rfl, rfl, rfl, rfl, rfl, rfl, trivial⟩ ?_
          refine J_condF rfl ?_
          refine J_skip ?_
          refine J_seq ?_
          refine J_seq ?_
          refine JR.start ?_
          refine JR.run rfl rfl (r_move rfl rfl rfl trivial) ?_
          refine JR.run rfl rfl (r_call (rMayT ts j 5 [45, 62] hm h2) rfl rfl rfl ⟨rfl, trivial⟩ (by kernel_rfl)) ?_
          refine JR.done [] (by kernel_rfl) rfl (by kernel_rfl) ?_
          refine J_weak [(0, _), (2, _), (3, _), (13, _), (2002, _), (2003, _), (3000, _)] ⟨rfl, rfl, rfl, rfl, rfl, rfl, rfl, trivial⟩ ?_
          refine J_condT rfl ?_
          refine JR.start ?_
          refine JR.run rfl rfl (r_loadA (m := 3) (us := _) rfl rfl (by kernel_rfl) rfl rfl rfl rfl) ?_
          refine JR.run rfl rfl (r_move rfl rfl rfl trivial) ?_
          refine JR.run rfl rfl (r_call (hc3) rfl rfl rfl ⟨rfl, trivial⟩ (by kernel_rfl)) ?_
          refine JR.run rfl rfl (r_call (rTwoD 9 (.lit (.int .i64 t.kind)) (.lit (.int .i64 t.num)) (.sl 3 (tysD t.kids)) (.lit (.int .i64 t3.kind)) (.lit (.int .i64 t3.num)) (.sl 3 (tysD t3.kids))) rfl rfl rfl trivial (by kernel_rfl)) ?_
          refine JR.run rfl rfl (r_storeA rfl rfl (by kernel_rfl) rfl rfl rfl rfl rfl) ?_
          refine JR.done [[], [], [1], [0, 1, 2], [0, 1, 2, 3]] (by kernel_rfl) rfl (by kernel_rfl) ?_
          refine J_weak [(2, _), (3, _), (2002, _), (2003, _), (3000, _)] ⟨rfl, rfl, rfl, rfl, rfl, trivial⟩ ?_
          refine J_seq ?_
          refine JR.start ?_
          refine JR.run rfl rfl (r_loadA (m := 3) (us := _) rfl rfl (by kernel_rfl) rfl rfl rfl rfl) ?_
          refine JR.run rfl rfl (r_storeA rfl rfl (by kernel_rfl) rfl rfl rfl rfl rfl) ?_
          refine JR.done [] (by kernel_rfl) rfl (by kernel_rfl) ?_
          refine J_weak [(2, _), (2002, _), (3000, _)] ⟨rfl, rfl, rfl, trivial⟩ ?_
          refine J_ret ?_
          refine ⟨.inl rfl, _, rfl, ?_, rfl, trivial⟩
          show WkF _ (.agg [.lit (.int .i64 9), .lit (.int .i64 0), .sl 3 [tyD t, tyD t3]])
          simp only [tyD_eq]
          exact .refl _
    | true =>
      have hlt := hit_lt h
      have hc2 := rPost_any f hT ts (j + 1) hm (by omega) (by omega)
      have hok2 := mPost_ok (mTypF_ok f) (ts.drop (j + 1))
      unfold RrOK at hc2
      rw [h] at hM
      simp only [if_true, hit_tail h] at hM
      cases hy : mPost (mTypF f) (ts.drop (j + 1)) with
      | error k =>
        rw [hy] at hc2 hM
        simp only at hM
        subst hM
        simp only [retR, posE, badE] at hc2 ⊢
        refine con_intro rfl rfl (by kernel_rfl) (by kernel_rfl) ?_
        refine J_seq ?_
        refine JR.start ?_
        refine JR.run rfl rfl (r_alloc (x := 2002) (zs := [.int .i64 0, .int .i64 0, .slice none 0 0]) [.lit (.int .i64 0), .lit (.int .i64 0), .sl 3 []] rfl rfl rfl (by kernel_rfl) ⟨.refl _, .refl _, .nil _, trivial⟩) ?_
        refine JR.done [] (by kernel_rfl) rfl (by kernel_rfl) ?_
        refine J_weak [(0, _), (2, _), (2002, _), (3000, _)] ⟨rfl, rfl, rfl, rfl, trivial⟩ ?_
        refine J_seq ?_
        refine JR.start ?_
        refine JR.run rfl rfl (r_move rfl rfl rfl trivial) ?_
        refine JR.run rfl rfl (r_call (hc) rfl rfl rfl ⟨rfl, trivial⟩ (by kernel_rfl)) ?_
        refine JR.run rfl rfl (r_alloc (x := 2003) (zs := [.int .i64 0, .int .i64 0, .slice none 0 0]) [.lit (.int .i64 0), .lit (.int .i64 0), .sl 3 []] rfl rfl rfl (by kernel_rfl) ⟨.refl _, .refl _, .nil _, trivial⟩) ?_
        refine JR.run rfl rfl (r_storeA rfl rfl (by kernel_rfl) rfl rfl rfl rfl rfl) ?_
        refine JR.done [] (by kernel_rfl) rfl (by kernel_rfl) ?_
        refine J_weak [(0, _), (2, _), (3, _), (2002, _), (2003, _), (3000, _)] ⟨rfl, rfl, rfl, rfl, rfl, rfl, trivial⟩ ?_
        refine J_seq ?_
        refine J_seq ?_
        refine JR.start ?_
        refine JR.run rfl rfl (r_move rfl rfl rfl trivial) ?_
        refine JR.run rfl rfl (r_call (rMayT ts j 5 [42] hm h) rfl rfl rfl ⟨rfl, trivial⟩ (by kernel_rfl)) ?_
        refine JR.done [] (by kernel_rfl) rfl (by kernel_rfl) ?_
        refine J_weak [(0, _), (2, _), (3, _), (7, _), (2002, _), (2003, _), (3000, _)] ⟨rfl, rfl, rfl, rfl, rfl, rfl, rfl, trivial⟩ ?_
        refine J_condT rfl ?_
        refine JR.start ?_
        refine JR.run rfl rfl (r_loadA (m := 3) (us := _) rfl rfl (by kernel_rfl) rfl rfl rfl rfl) ?_
        refine JR.run rfl rfl (r_move rfl rfl rfl trivial) ?_
        refine JR.run rfl rfl (r_call (hc2) rfl rfl rfl ⟨rfl, trivial⟩ (by kernel_rfl)) ?_
        refine JR.run rfl rfl (r_call (rTwoD 7 (.lit (.int .i64 t.kind)) (.lit (.int .i64 t.num)) (.sl 3 (tysD t.kids)) .any .any .any) rfl rfl rfl trivial (by kernel_rfl)) ?_
        refine JR.run rfl rfl (r_storeA rfl rfl (by kernel_rfl) rfl rfl rfl rfl rfl) ?_
        refine JR.done [[], [], [1], [0, 1, 2], [0, 1, 2, 3]] (by kernel_rfl) rfl (by kernel_rfl) ?_
        refine J_weak [(0, _), (2, _), (3, _), (2002, _), (2003, _), (3000, _)] ⟨rfl, rfl, rfl, rfl, rfl, rfl, trivial⟩ ?_
        refine J_seq ?_
        refine J_seq ?_
        refine JR.start ?_
        refine JR.run rfl rfl (r_move rfl rfl rfl trivial) ?_
        refine JR.run rfl rfl (r_call (rMayB ts _ _ 5 [45, 62] (by omega)) rfl rfl rfl ⟨rfl, trivial⟩ (by kernel_rfl)) ?_
        refine JR.done [] (by kernel_rfl) rfl (by kernel_rfl) ?_
        refine J_weak [(0, _), (2, _), (3, _), (13, _), (2002, _), (2003, _), (3000, _)] ⟨rfl, rfl, rfl, rfl, rfl, rfl, rfl, trivial⟩ ?_
        refine J_condF rfl ?_
        refine J_skip ?_
        refine J_seq ?_
        refine JR.start ?_
        refine JR.run rfl rfl (r_loadA (m := 3) (us := _) rfl rfl (by kernel_rfl) rfl rfl rfl rfl) ?_
        refine JR.run rfl rfl (r_storeA rfl rfl (by kernel_rfl) rfl rfl rfl rfl rfl) ?_
        refine JR.done [] (by kernel_rfl) rfl (by kernel_rfl) ?_
        refine J_weak [(2, _), (2002, _), (3000, _)] ⟨rfl, rfl, rfl, trivial⟩ ?_
        refine J_ret ?_
        exact ⟨.inl rfl, _, rfl, .agg ⟨.any _, .any _, .any _, trivial⟩, rfl, trivial⟩
      | ok q =>
        obtain ⟨t2, r2⟩ := q
        obtain ⟨j2, hj3, j2le, rfl⟩ := ok_drop hok2 hy (by omega)
        rw [hy] at hc2 hM
        simp only [retR, posE, badE, pos_drop j2le, tyD_eq] at hc2
        simp only at hM
        cases h2 : hit 5 [45, 62] (ts.drop j2) with
        | false =>
          rw [h2] at hM
          simp only [Bool.false_eq_true, if_false] at hM
          subst hM
          simp only [retR, posE, badE, pos_drop j2le]
          refine con_intro rfl rfl (by kernel_rfl) (by kernel_rfl) ?_
          refine J_seq ?_
          refine JR.start ?_
          refine JR.run rfl rfl (r_alloc (x := 2002) (zs := [.int .i64 0, .int .i64 0, .slice none 0 0]) [.lit (.int .i64 0), .lit (.int .i64 0), .sl 3 []] rfl rfl rfl (by kernel_rfl) ⟨.refl _, .refl _, .nil _, trivial⟩) ?_
          refine JR.done [] (by kernel_rfl) rfl (by kernel_rfl) ?_
          refine J_weak [(0, _), (2, _), (2002, _), (3000, _)] ⟨rfl, rfl, rfl, rfl, trivial⟩ ?_
          refine J_seq ?_
          refine JR.start ?_
          refine JR.run rfl rfl (r_move rfl rfl rfl trivial) ?_
          refine JR.run rfl rfl (r_call (hc) rfl rfl rfl ⟨rfl, trivial⟩ (by kernel_rfl)) ?_
          refine JR.run rfl rfl (r_alloc (x := 2003) (zs := [.int .i64 0, .int .i64 0, .slice none 0 0]) [.lit (.int .i64 0), .lit (.int .i64 0), .sl 3 []] rfl rfl rfl (by kernel_rfl) ⟨.refl _, .refl _, .nil _, trivial⟩) ?_
          refine JR.run rfl rfl (r_storeA rfl rfl (by kernel_rfl) rfl rfl rfl rfl rfl) ?_
          refine JR.done [] (by kernel_rfl) rfl (by kernel_rfl) ?_
          refine J_weak [(0, _), (2, _), (3, _), (2002, _), (2003, _), (3000, _)] ⟨rfl, rfl, rfl, rfl, rfl, rfl, trivial⟩ ?_
          refine J_seq ?_
          refine J_seq ?_
          refine JR.start ?_
          refine JR.run rfl rfl (r_move rfl rfl rfl trivial) ?_
          refine JR.run rfl rfl (r_call (rMayT ts j 5 [42] hm h) rfl rfl rfl ⟨rfl, trivial⟩ (by kernel_rfl)) ?_
          refine JR.done [] (by kernel_rfl) rfl (by kernel_rfl) ?_
          refine J_weak [(0, _), (2, _), (3, _), (7, _), (2002, _), (2003, _), (3000, _)] ⟨rfl, rfl, rfl, rfl, rfl, rfl, rfl, trivial⟩ ?_
          refine J_condT rfl ?_
          refine JR.start ?_
          refine JR.run rfl rfl (r_loadA (m := 3) (us := _) rfl rfl (by kernel_rfl) rfl rfl rfl rfl) ?_
          refine JR.run rfl rfl (r_move rfl rfl rfl trivial) ?_
          refine JR.run rfl rfl (r_call (hc2) rfl rfl rfl ⟨rfl, trivial⟩ (by kernel_rfl)) ?_
          refine JR.run rfl rfl (r_call (rTwoD 7 (.lit (.int .i64 t.kind)) (.lit (.int .i64 t.num)) (.sl 3 (tysD t.kids)) (.lit (.int .i64 t2.kind)) (.lit (.int .i64 t2.num)) (.sl 3 (tysD t2.kids))) rfl rfl rfl trivial (by kernel_rfl)) ?_
          refine JR.run rfl rfl (r_storeA rfl rfl (by kernel_rfl) rfl rfl rfl rfl rfl) ?_
          refine JR.done [[], [], [1], [0, 1, 2], [0, 1, 2, 3]] (by kernel_rfl) rfl (by kernel_rfl) ?_
          refine J_weak [(0, _), (2, _), (3, _), (2002, _), (2003, _), (3000, _)] ⟨rfl, rfl, rfl, rfl, rfl, rfl, trivial⟩ ?_
          refine J_seq ?_
          refine J_seq ?_
          refine JR.start ?_
          refine JR.run rfl rfl (r_move rfl rfl rfl trivial) ?_
          refine JR.run rfl rfl (r_call (rMayF ts j2 5 [45, 62] hm h2) rfl rfl rfl ⟨rfl, trivial⟩ (by kernel_rfl)) ?_
          refine JR.done [] (by kernel_rfl) rfl (by kernel_rfl) ?_
          refine J_weak [(0, _), (2, _), (3, _), (13, _), (2002, _), (2003, _), (3000, _)] ⟨rfl, rfl, rfl, rfl, rfl, rfl, rfl, trivial⟩ ?_
          refine J_condF rfl ?_
          refine J_skip ?_
          refine J_seq ?_
          refine JR.start ?_
          refine JR.run rfl rfl (r_loadA (m := 3) (us := _) rfl rfl (by kernel_rfl) rfl rfl rfl rfl) ?_
          refine JR.run rfl rfl (r_storeA rfl rfl (by kernel_rfl) rfl rfl rfl rfl rfl) ?_
          refine JR.done [] (by kernel_rfl) rfl (by kernel_rfl) ?_
          refine J_weak [(2, _), (2002, _), (3000, _)] ⟨rfl, rfl, rfl, trivial⟩ ?_
          refine J_ret ?_
          refine ⟨.inl rfl, _, rfl, ?_, rfl, trivial⟩
          rw [tyD_eq]
          exact (by
            show WkF _ (.agg [.lit (.int .i64 7), .lit (.int .i64 0), .sl 3 [tyD t, tyD t2]])
            simp only [tyD_eq]
            exact .refl _)
        | true =>
          have hlt2 := hit_lt h2
          have hc3 := hT ts (j2 + 1) hm (by omega) (by omega)
          have hok3 := mTypF_ok f (ts.drop (j2 + 1))
          unfold RrOK at hc3
          rw [h2] at hM
          simp only [if_true, hit_tail h2] at hM
          cases hz : mTypF f (ts.drop (j2 + 1)) with
          | error k =>
            rw [hz] at hc3 hM
            simp only at hM
            subst hM
            simp only [retR, posE, badE] at hc3 ⊢
            refine con_intro rfl rfl (by kernel_rfl) (by kernel_rfl) ?_
            refine J_seq ?_
            refine JR.start ?_
            refine JR.run rfl rfl (r_alloc (x := 2002) (zs := [.int .i64 0, .int .i64 0, .slice none 0 0]) [.lit (.int .i64 0), .lit (.int .i64 0), .sl 3 []] rfl rfl rfl (by kernel_rfl) ⟨.refl _, .refl _, .nil _, trivial⟩) ?_
            refine JR.done [] (by kernel_rfl) rfl (by kernel_rfl) ?_
            refine J_weak [(0, _), (2, _), (2002, _), (3000, _)] ⟨rfl, rfl, rfl, rfl, trivial⟩ ?_
            refine J_seq ?_
            refine JR.start ?_
            refine JR.run rfl rfl (r_move rfl rfl rfl trivial) ?_
            refine JR.run rfl rfl (r_call (hc) rfl rfl rfl ⟨rfl, trivial⟩ (by kernel_rfl)) ?_
            refine JR.run rfl rfl (r_alloc (x := 2003) (zs := [.int .i64 0, .int .i64 0, .slice none 0 0]) [.lit (.int .i64 0), .lit (.int .i64 0), .sl 3 []] rfl rfl rfl (by kernel_rfl) ⟨.refl _, .refl _, .nil _, trivial⟩) ?_
            refine JR.run rfl rfl (r_storeA rfl rfl (by kernel_rfl) rfl rfl rfl rfl rfl) ?_
            refine JR.done [] (by kernel_rfl) rfl (by kernel_rfl) ?_
            refine J_weak [(0, _), (2, _), (3, _), (2002, _), (2003, _), (3000, _)] ⟨rfl, rfl, rfl, rfl, rfl, rfl, trivial⟩ ?_
            refine J_seq ?_
            refine J_seq ?_
            refine JR.start ?_
            refine JR.run rfl rfl (r_move rfl rfl rfl trivial) ?_
            refine JR.run rfl rfl (r_call (rMayT ts j 5 [42] hm h) rfl rfl rfl ⟨rfl, trivial⟩ (by kernel_rfl)) ?_
            refine JR.done [] (by kernel_rfl) rfl (by kernel_rfl) ?_
            refine J_weak [(0, _), (2, _), (3, _), (7, _), (2002, _), (2003, _), (3000, _)] ⟨rfl, rfl, rfl, rfl, rfl, rfl, rfl, trivial⟩ ?_
            refine J_condT rfl ?_
            refine JR.start ?_
            refine JR.run rfl rfl (r_loadA (m := 3) (us := _) rfl rfl (by kernel_rfl) rfl rfl rfl rfl) ?_
            refine JR.run rfl rfl (r_move rfl rfl rfl trivial) ?_
            refine JR.run rfl rfl (r_call (hc2) rfl rfl rfl ⟨rfl, trivial⟩ (by kernel_rfl)) ?_
            refine JR.run rfl rfl (r_call (rTwoD 7 (.lit (.int .i64 t.kind)) (.lit (.int .i64 t.num)) (.sl 3 (tysD t.kids)) (.lit (.int .i64 t2.kind)) (.lit (.int .i64 t2.num)) (.sl 3 (tysD t2.kids))) rfl rfl rfl trivial (by kernel_rfl)) ?_
            refine JR.run rfl rfl (r_storeA rfl rfl (by kernel_rfl) rfl rfl rfl rfl rfl) ?_
            refine JR.done [[], [], [1], [0, 1, 2], [0, 1, 2, 3]] (by kernel_rfl) rfl (by kernel_rfl) ?_
            refine J_weak [(0, _), (2, _), (3, _), (2002, _), (2003, _), (3000, _)] ⟨rfl, rfl, rfl, rfl, rfl, rfl, trivial⟩ ?_
            refine J_seq ?_
            refine J_seq ?_
            refine JR.start ?_
            refine JR.run rfl rfl (r_move rfl rfl rfl trivial) ?_
            refine JR.run rfl rfl (r_call (rMayT ts j2 5 [45, 62] hm h2) rfl rfl rfl ⟨rfl, trivial⟩ (by kernel_rfl)) ?_
            refine JR.done [] (by kernel_rfl) rfl (by kernel_rfl) ?_
            refine J_weak [(0, _), (2, _), (3, _), (13, _), (2002, _), (2003, _), (3000, _)] ⟨rfl, rfl, rfl, rfl, rfl, rfl, rfl, trivial⟩ ?_
            refine J_condT rfl ?_
            refine JR.start ?_
            refine JR.run rfl rfl (r_loadA (m := 3) (us := _) rfl rfl (by kernel_rfl) rfl rfl rfl rfl) ?_
            refine JR.run rfl rfl (r_move rfl rfl rfl trivial) ?_
            refine JR.run rfl rfl (r_call (hc3) rfl rfl rfl ⟨rfl, trivial⟩ (by kernel_rfl)) ?_
            refine JR.run rfl rfl (r_call (rTwoD 9 (.lit (.int .i64 7)) (.lit (.int .i64 0)) (.sl 3 [[.lit (.int .i64 t.kind), .lit (.int .i64 t.num), .sl 3 (tysD t.kids)], [.lit (.int .i64 t2.kind), .lit (.int .i64 t2.num), .sl 3 (tysD t2.kids)]]) .any .any .any) rfl rfl rfl trivial (by kernel_rfl)) ?_
            refine JR.run rfl rfl (r_storeA rfl rfl (by kernel_rfl) rfl rfl rfl rfl rfl) ?_
            refine JR.done [[], [], [1], [0, 1, 2], [0, 1, 2, 3]] (by kernel_rfl) rfl (by kernel_rfl) ?_
            refine J_weak [(2, _), (3, _), (2002, _), (2003, _), (3000, _)] ⟨rfl, rfl, rfl, rfl, rfl, trivial⟩ ?_
            refine J_seq ?_
            refine JR.start ?_
            refine JR.run rfl rfl (r_loadA (m := 3) (us := _) rfl rfl (by kernel_rfl) rfl rfl rfl rfl) ?_
            refine JR.run rfl rfl (r_storeA rfl rfl (by kernel_rfl) rfl rfl rfl rfl rfl) ?_
            refine JR.done [] (by kernel_rfl) rfl (by kernel_rfl) ?_
            refine J_weak [(2, _), (2002, _), (3000, _)] ⟨rfl, rfl, rfl, trivial⟩ ?_
            refine J_ret ?_
            exact ⟨.inl rfl, _, rfl, .agg ⟨.any _, .any _, .any _, trivial⟩, rfl, trivial⟩
          | ok q3 =>
            obtain ⟨t3, r3⟩ := q3
            obtain ⟨j3, hj5, hj6, rfl⟩ := ok_drop hok3 hz (by omega)
            rw [hz] at hc3 hM
            simp only [retR, posE, badE, pos_drop hj6, tyD_eq] at hc3
            simp only at hM
            subst hM
            simp only [retR, posE, badE, pos_drop hj6]
            refine con_intro rfl rfl (by kernel_rfl) (by kernel_rfl) ?_
            refine J_seq ?_
            refine JR.start ?_
            refine JR.run rfl rfl (r_alloc (x := 2002) (zs := [.int .i64 0, .int .i64 0, .slice none 0 0]) [.lit (.int .i64 0), .lit (.int .i64 0), .sl 3 []] rfl rfl rfl (by kernel_rfl) ⟨.refl _, .refl _, .nil _, trivial⟩) ?_
            refine JR.done [] (by kernel_rfl) rfl (by kernel_rfl) ?_
            refine J_weak [(0, _), (2, _), (2002, _), (3000, _)] ⟨rfl, rfl, rfl, rfl, trivial⟩ ?_
            refine J_seq ?_
            refine JR.start ?_
            refine JR.run rfl rfl (r_move rfl rfl rfl trivial) ?_
            refine JR.run rfl rfl (r_call (hc) rfl rfl rfl ⟨rfl, trivial⟩ (by kernel_rfl)) ?_
            refine JR.run rfl rfl (r_alloc (x := 2003) (zs := [.int .i64 0, .int .i64 0, .slice none 0 0]) [.lit (.int .i64 0), .lit (.int .i64 0), .sl 3 []] rfl rfl rfl (by kernel_rfl) ⟨.refl _, .refl _, .nil _, trivial⟩) ?_
            refine JR.run rfl rfl (r_storeA rfl rfl (by kernel_rfl) rfl rfl rfl rfl rfl) ?_
            refine JR.done [] (by kernel_rfl) rfl (by kernel_rfl) ?_
            refine J_weak [(0, _), (2, _), (3, _), (2002, _), (2003, _), (3000, _)] ⟨rfl, rfl, rfl, rfl, rfl, rfl, trivial⟩ ?_
            refine J_seq ?_
            refine J_seq ?_
            refine JR.start ?_
            refine JR.run rfl rfl (r_move rfl rfl rfl trivial) ?_
            refine JR.run rfl rfl (r_call (rMayT ts j 5 [42] hm h) rfl rfl rfl ⟨rfl, trivial⟩ (by kernel_rfl)) ?_
            refine JR.done [] (by kernel_rfl) rfl (by kernel_rfl) ?_
            refine J_weak [(0, _), (2, _), (3, _), (7, _), (2002, _), (2003, _), (3000, _)] ⟨rfl, rfl, rfl, rfl, rfl, rfl, rfl, trivial⟩ ?_
            refine J_condT rfl ?_
            refine JR.start ?_
            refine JR.run rfl rfl (r_loadA (m := 3) (us := _) rfl rfl (by kernel_rfl) rfl rfl rfl rfl) ?_
            refine JR.run rfl rfl (r_move rfl rfl rfl trivial) ?_
            refine JR.run rfl rfl (r_call (hc2) rfl rfl rfl ⟨rfl, trivial⟩ (by kernel_rfl)) ?_
            refine JR.run rfl rfl (r_call (rTwoD 7 (.lit (.int .i64 t.kind)) (.lit (.int .i64 t.num)) (.sl 3 (tysD t.kids)) (.lit (.int .i64 t2.kind)) (.lit (.int .i64 t2.num)) (.sl 3 (tysD t2.kids))) rfl rfl rfl trivial (by kernel_rfl)) ?_
            refine JR.run rfl rfl (r_storeA rfl rfl (by kernel_rfl) rfl rfl rfl rfl rfl) ?_
            refine JR.done [[], [], [1], [0, 1, 2], [0, 1, 2, 3]] (by kernel_rfl) rfl (by kernel_rfl) ?_
            refine J_weak [(0, _), (2, _), (3, _), (2002, _), (2003, _), (3000, _)] ⟨rfl, rfl, rfl, rfl, rfl, rfl, trivial⟩ ?_
            refine J_seq ?_
            refine J_seq ?_
            refine JR.start ?_
            refine JR.run rfl rfl (r_move rfl rfl rfl trivial) ?_
            refine JR.run rfl rfl (r_call (rMayT ts j2 5 [45, 62] hm h2) rfl rfl rfl ⟨rfl, trivial⟩ (by kernel_rfl)) ?_
            refine JR.done [] (by kernel_rfl) rfl (by kernel_rfl) ?_
            refine J_weak [(0, _), (2, _), (3, _), (13, _), (2002, _), (2003, _), (3000, _)] ⟨rfl, rfl, rfl, rfl, rfl, rfl, rfl, trivial⟩ ?_
            refine J_condT rfl ?_
            refine JR.start ?_
            refine JR.run rfl rfl (r_loadA (m := 3) (us := _) rfl rfl (by kernel_rfl) rfl rfl rfl rfl) ?_
            refine JR.run rfl rfl (r_move rfl rfl rfl trivial) ?_
            refine JR.run rfl rfl (r_call (hc3) rfl rfl rfl ⟨rfl, trivial⟩ (by kernel_rfl)) ?_
            refine JR.run rfl rfl (r_call (rTwoD 9 (.lit (.int .i64 7)) (.lit (.int .i64 0)) (.sl 3 [[.lit (.int .i64 t.kind), .lit (.int .i64 t.num), .sl 3 (tysD t.kids)], [.lit (.int .i64 t2.kind), .lit (.int .i64 t2.num), .sl 3 (tysD t2.kids)]]) (.lit (.int .i64 t3.kind)) (.lit (.int .i64 t3.num)) (.sl 3 (tysD t3.kids))) rfl rfl rfl trivial (by kernel_rfl)) ?_
            refine JR.run rfl rfl (r_storeA rfl rfl (by kernel_rfl) rfl rfl rfl rfl rfl) ?_
            refine JR.done [[], [], [1], [0, 1, 2], [0, 1, 2, 3]] (by kernel_rfl) rfl (by kernel_rfl) ?_
            refine J_weak [(2, _), (3, _), (2002, _), (2003, _), (3000, _)] ⟨rfl, rfl, rfl, rfl, rfl, trivial⟩ ?_
            refine J_seq ?_
            refine JR.start ?_
            refine JR.run rfl rfl (r_loadA (m := 3) (us := _) rfl rfl (by kernel_rfl) rfl rfl rfl rfl) ?_
            refine JR.run rfl rfl (r_storeA rfl rfl (by kernel_rfl) rfl rfl rfl rfl rfl) ?_
            refine JR.done [] (by kernel_rfl) rfl (by kernel_rfl) ?_
            refine J_weak [(2, _), (2002, _), (3000, _)] ⟨rfl, rfl, rfl, trivial⟩ ?_
            refine J_ret ?_
            refine ⟨.inl rfl, _, rfl, ?_, rfl, trivial⟩
            show WkF _ (.agg [.lit (.int .i64 9), .lit (.int .i64 0), .sl 3 [[.lit (.int .i64 7), .lit (.int .i64 0), .sl 3 [tyD t, tyD t2]], tyD t3]])
            simp only [tyD_eq]
            exact .refl _
theorem rType_any : ∀ f, RrTyp f
  | 0 => fun _ _ _ _ h => absurd h (Nat.not_lt_zero _)
  | f + 1 => fun ts i h1 h2 h3 => rType_step f (rType_any f) ts i h1 h2 h3

theorem rRead_any (ts : List Tok) (i : Int) (hm : ts.length ≤ 1000000000) : Con Tryd.prog 17 [.c (toksD ts), .c (.lit (.int .i64 i))] [] (readD (mRead ts i)) [] := by
  have hlen : (((ts.map tokD).length : Nat) : Int) = ts.length := by simp
  by_cases h0 : i < 0
  · rw [mRead, if_pos (.inl h0)]
    refine con_intro rfl rfl (by kernel_rfl) (by kernel_rfl) ?_
    refine J_seq ?_
    refine JR.start ?_
    refine JR.run rfl rfl (r_alloc (x := 2004) (zs := [.int .i64 0, .int .i64 0, .slice none 0 0]) [.lit (.int .i64 0), .lit (.int .i64 0), .sl 3 []] rfl rfl rfl (by kernel_rfl) ⟨.refl _, .refl _, .nil _, trivial⟩) ?_
    refine JR.run rfl rfl (r_assign rfl rfl rfl trivial) ?_
    refine JR.run rfl rfl (r_assign rfl rfl rfl trivial) ?_
    refine JR.done [] (by kernel_rfl) rfl (by kernel_rfl) ?_
    refine J_weak [(0, _), (1, _), (4, _), (5, _), (6, _), (2004, _)] ⟨rfl, rfl, rfl, rfl, rfl, rfl, trivial⟩ ?_
    refine J_seq ?_
    refine J_seq ?_
    refine JR.start ?_
    refine JR.run rfl rfl (r_move rfl rfl rfl trivial) ?_
    refine JR.run rfl rfl ((r_ltI rfl rfl rfl rfl).cast (by rw [decide_eq_true h0])) ?_
    refine JR.run rfl rfl (r_move rfl rfl rfl trivial) ?_
    refine JR.skip rfl rfl ?_
    refine JR.skip rfl rfl ?_
    refine JR.skip rfl rfl ?_
    refine JR.skip rfl rfl ?_
    refine JR.run rfl rfl (r_pickT rfl rfl rfl rfl trivial) ?_
    refine JR.done [] (by kernel_rfl) rfl (by kernel_rfl) ?_
    refine J_weak [(0, _), (1, _), (4, _), (5, _), (6, _), (16, _), (2004, _)] ⟨rfl, rfl, rfl, rfl, rfl, rfl, rfl, trivial⟩ ?_
    refine J_condT rfl ?_
    refine J_seq ?_
    refine JR.start ?_
    refine JR.run rfl rfl (r_build (zs := [.int .i64 0, .int .i64 0, .slice none 0 0]) (qs := [(0, 1), (1, 1), (2, 1)]) [.lit (.int .i64 0), .lit (.int .i64 0), .sl 3 []] rfl rfl (by kernel_rfl) (by kernel_rfl) ⟨.refl _, .refl _, .nil _, trivial⟩ rfl rfl) ?_
    refine JR.run rfl rfl (r_storeA rfl rfl (by kernel_rfl) rfl rfl rfl rfl rfl) ?_
    refine JR.run rfl rfl (r_assign rfl rfl rfl trivial) ?_
    refine JR.run rfl rfl (r_assign rfl rfl rfl trivial) ?_
    refine JR.done [] (by kernel_rfl) rfl (by kernel_rfl) ?_
    refine J_weak [(0, _), (1, _), (4, _), (5, _), (6, _), (2004, _)] ⟨rfl, rfl, rfl, rfl, rfl, rfl, trivial⟩ ?_
    refine J_ret ?_
    exact ⟨.inl rfl, _, rfl, .refl _, trivial⟩
  by_cases h1 : (ts.length : Int) < i
  · rw [mRead, if_pos (.inr h1)]
    refine con_intro rfl rfl (by kernel_rfl) (by kernel_rfl) ?_
    refine J_seq ?_
    refine JR.start ?_
    refine JR.run rfl rfl (r_alloc (x := 2004) (zs := [.int .i64 0, .int .i64 0, .slice none 0 0]) [.lit (.int .i64 0), .lit (.int .i64 0), .sl 3 []] rfl rfl rfl (by kernel_rfl) ⟨.refl _, .refl _, .nil _, trivial⟩) ?_
    refine JR.run rfl rfl (r_assign rfl rfl rfl trivial) ?_
    refine JR.run rfl rfl (r_assign rfl rfl rfl trivial) ?_
    refine JR.done [] (by kernel_rfl) rfl (by kernel_rfl) ?_
    refine J_weak [(0, _), (1, _), (4, _), (5, _), (6, _), (2004, _)] ⟨rfl, rfl, rfl, rfl, rfl, rfl, trivial⟩ ?_
    refine J_seq ?_
    refine J_seq ?_
    refine JR.start ?_
    refine JR.run rfl rfl (r_move rfl rfl rfl trivial) ?_
    refine JR.run rfl rfl ((r_ltI rfl rfl rfl rfl).cast (by rw [decide_eq_false h0])) ?_
    refine JR.run rfl rfl (r_move rfl rfl rfl trivial) ?_
    refine JR.run rfl rfl (r_move rfl rfl rfl trivial) ?_
    refine JR.run rfl rfl (r_move rfl rfl rfl trivial) ?_
    refine JR.run rfl rfl (r_len rfl rfl (by kernel_rfl) rfl) ?_
    refine JR.run rfl rfl ((r_gtI rfl rfl rfl rfl).cast (by rw [hlen, decide_eq_true h1])) ?_
    refine JR.run rfl rfl (r_pickF rfl rfl rfl rfl trivial) ?_
    refine JR.done [] (by kernel_rfl) rfl (by kernel_rfl) ?_
    refine J_weak [(0, _), (1, _), (4, _), (5, _), (6, _), (16, _), (2004, _)] ⟨rfl, rfl, rfl, rfl, rfl, rfl, rfl, trivial⟩ ?_
    refine J_condT rfl ?_
    refine J_seq ?_
    refine JR.start ?_
    refine JR.run rfl rfl (r_build (zs := [.int .i64 0, .int .i64 0, .slice none 0 0]) (qs := [(0, 1), (1, 1), (2, 1)]) [.lit (.int .i64 0), .lit (.int .i64 0), .sl 3 []] rfl rfl (by kernel_rfl) (by kernel_rfl) ⟨.refl _, .refl _, .nil _, trivial⟩ rfl rfl) ?_
    refine JR.run rfl rfl (r_storeA rfl rfl (by kernel_rfl) rfl rfl rfl rfl rfl) ?_
    refine JR.run rfl rfl (r_assign rfl rfl rfl trivial) ?_
    refine JR.run rfl rfl (r_assign rfl rfl rfl trivial) ?_
    refine JR.done [] (by kernel_rfl) rfl (by kernel_rfl) ?_
    refine J_weak [(0, _), (1, _), (4, _), (5, _), (6, _), (2004, _)] ⟨rfl, rfl, rfl, rfl, rfl, rfl, trivial⟩ ?_
    refine J_ret ?_
    exact ⟨.inl rfl, _, rfl, .refl _, trivial⟩
  obtain ⟨k, rfl⟩ : ∃ k : Nat, i = (k : Int) := ⟨i.toNat, by omega⟩
  have hk : k ≤ ts.length := by omega
  rw [mRead, if_neg (by omega), Int.toNat_natCast, mTyp]
  have hc := rType_any ((ts.drop k).length + 1) ts k hm hk (by rw [List.length_drop]; omega)
  have hok := mTypF_ok ((ts.drop k).length + 1) (ts.drop k)
  unfold RrOK at hc
  cases hx : mTypF ((ts.drop k).length + 1) (ts.drop k) with
  | error q =>
    rw [hx] at hc
    simp only [retR, posE, badE] at hc
    have hb : 0 ≤ ((ts.length - q : Nat) : Int) := by omega
    refine con_intro rfl rfl (by kernel_rfl) (by kernel_rfl) ?_
    refine J_seq ?_
    refine JR.start ?_
    refine JR.run rfl rfl (r_alloc (x := 2004) (zs := [.int .i64 0, .int .i64 0, .slice none 0 0]) [.lit (.int .i64 0), .lit (.int .i64 0), .sl 3 []] rfl rfl rfl (by kernel_rfl) ⟨.refl _, .refl _, .nil _, trivial⟩) ?_
    refine JR.run rfl rfl (r_assign rfl rfl rfl trivial) ?_
    refine JR.run rfl rfl (r_assign rfl rfl rfl trivial) ?_
    refine JR.done [] (by kernel_rfl) rfl (by kernel_rfl) ?_
    refine J_weak [(0, _), (1, _), (4, _), (5, _), (6, _), (2004, _)] ⟨rfl, rfl, rfl, rfl, rfl, rfl, trivial⟩ ?_
    refine J_seq ?_
    refine J_seq ?_
    refine JR.start ?_
    refine JR.run rfl rfl (r_move rfl rfl rfl trivial) ?_
    refine JR.run rfl rfl ((r_ltI rfl rfl rfl rfl).cast (by rw [decide_eq_false h0])) ?_
    refine JR.run rfl rfl (r_move rfl rfl rfl trivial) ?_
    refine JR.run rfl rfl (r_move rfl rfl rfl trivial) ?_
    refine JR.run rfl rfl (r_move rfl rfl rfl trivial) ?_
    refine JR.run rfl rfl (r_len rfl rfl (by kernel_rfl) rfl) ?_
    refine JR.run rfl rfl ((r_gtI rfl rfl rfl rfl).cast (by rw [hlen, decide_eq_false h1])) ?_
    refine JR.run rfl rfl (r_pickF rfl rfl rfl rfl trivial) ?_
    refine JR.done [] (by kernel_rfl) rfl (by kernel_rfl) ?_
    refine J_weak [(0, _), (1, _), (4, _), (5, _), (6, _), (16, _), (2004, _)] ⟨rfl, rfl, rfl, rfl, rfl, rfl, rfl, trivial⟩ ?_
    refine J_condF rfl ?_
    refine J_skip ?_
    refine J_seq ?_
    refine JR.start ?_
    refine JR.run rfl rfl (r_move rfl rfl rfl trivial) ?_
    refine JR.run rfl rfl (r_move rfl rfl rfl trivial) ?_
    refine JR.run rfl rfl (r_build (zs := [.slice none 0 0, .int .i64 0, .int .i64 0]) (qs := [(0, 1), (1, 1), (2, 1)]) [.sl 5 [], .lit (.int .i64 0), .lit (.int .i64 0)] rfl rfl (by kernel_rfl) (by kernel_rfl) ⟨.nil _, .refl _, .refl _, trivial⟩ rfl rfl) ?_
    refine JR.run rfl rfl (r_boxA (x := 3000) rfl rfl rfl rfl) ?_
    refine JR.run rfl rfl (r_assign rfl rfl rfl trivial) ?_
    refine JR.done [] (by kernel_rfl) rfl (by kernel_rfl) ?_
    refine J_weak [(4, _), (5, _), (6, _), (7, _), (2004, _), (3000, _)] ⟨rfl, rfl, rfl, rfl, rfl, rfl, trivial⟩ ?_
    refine J_seq ?_
    refine JR.start ?_
    refine JR.run rfl rfl (r_move rfl rfl rfl trivial) ?_
    refine JR.run rfl rfl (r_call (hc) rfl rfl rfl ⟨rfl, trivial⟩ (by kernel_rfl)) ?_
    refine JR.run rfl rfl (r_alloc (x := 2008) (zs := [.int .i64 0, .int .i64 0, .slice none 0 0]) [.lit (.int .i64 0), .lit (.int .i64 0), .sl 3 []] rfl rfl rfl (by kernel_rfl) ⟨.refl _, .refl _, .nil _, trivial⟩) ?_
    refine JR.run rfl rfl (r_storeA rfl rfl (by kernel_rfl) rfl rfl rfl rfl rfl) ?_
    refine JR.done [] (by kernel_rfl) rfl (by kernel_rfl) ?_
    refine J_weak [(4, _), (5, _), (6, _), (7, _), (8, _), (2004, _), (2008, _), (3000, _)] ⟨rfl, rfl, rfl, rfl, rfl, rfl, rfl, rfl, trivial⟩ ?_
    refine J_seq ?_
    refine J_seq ?_
    refine JR.start ?_
    refine JR.run rfl rfl (r_move rfl rfl rfl trivial) ?_
    refine JR.run rfl rfl (r_nilCheck rfl rfl rfl) ?_
    refine JR.run rfl rfl (r_fieldAddr (off := 2) (m := 1) rfl rfl (by kernel_rfl) rfl) ?_
    refine JR.run rfl rfl (r_load rfl rfl (by kernel_rfl) rfl rfl rfl) ?_
    refine JR.run rfl rfl ((r_geI rfl rfl rfl rfl).cast (by rw [decide_eq_true hb])) ?_
    refine JR.done [] (by kernel_rfl) rfl (by kernel_rfl) ?_
    refine J_weak [(4, _), (5, _), (6, _), (7, _), (8, _), (28, _), (2004, _), (2008, _), (3000, _)] ⟨rfl, rfl, rfl, rfl, rfl, rfl, rfl, rfl, rfl, trivial⟩ ?_
    refine J_condT rfl ?_
    refine J_seq ?_
    refine JR.start ?_
    refine JR.run rfl rfl (r_build (zs := [.int .i64 0, .int .i64 0, .slice none 0 0]) (qs := [(0, 1), (1, 1), (2, 1)]) [.lit (.int .i64 0), .lit (.int .i64 0), .sl 3 []] rfl rfl (by kernel_rfl) (by kernel_rfl) ⟨.refl _, .refl _, .nil _, trivial⟩ rfl rfl) ?_
    refine JR.run rfl rfl (r_move rfl rfl rfl trivial) ?_
    refine JR.run rfl rfl (r_nilCheck rfl rfl rfl) ?_
    refine JR.run rfl rfl (r_fieldAddr (off := 2) (m := 1) rfl rfl (by kernel_rfl) rfl) ?_
    refine JR.run rfl rfl (r_load rfl rfl (by kernel_rfl) rfl rfl rfl) ?_
    refine JR.run rfl rfl (r_storeA rfl rfl (by kernel_rfl) rfl rfl rfl rfl rfl) ?_
    refine JR.run rfl rfl (r_assign rfl rfl rfl trivial) ?_
    refine JR.run rfl rfl (r_assign rfl rfl rfl trivial) ?_
    refine JR.done [[], [], [1], [1, 2], [1, 2, 3], [0], [0, 1, 2, 3, 4, 5], [0, 1, 2, 3, 4, 5, 6]] (by kernel_rfl) rfl (by kernel_rfl) ?_
    refine J_weak [(4, _), (5, _), (6, _), (7, _), (8, _), (2004, _), (2008, _), (3000, _)] ⟨rfl, rfl, rfl, rfl, rfl, rfl, rfl, rfl, trivial⟩ ?_
    refine J_ret ?_
    exact ⟨.inl rfl, _, rfl, .refl _, trivial⟩
  | ok p =>
    obtain ⟨t, r⟩ := p
    obtain ⟨j, hj1, hj2, rfl⟩ := ok_drop hok hx hk
    rw [hx] at hc
    simp only [retR, posE, badE, pos_drop hj2, tyD_eq] at hc
    simp only [readD, pos_drop hj2, tyD_eq]
    refine con_intro rfl rfl (by kernel_rfl) (by kernel_rfl) ?_
    refine J_seq ?_
    refine JR.start ?_
    refine JR.run rfl rfl (r_alloc (x := 2004) (zs := [.int .i64 0, .int .i64 0, .slice none 0 0]) [.lit (.int .i64 0), .lit (.int .i64 0), .sl 3 []] rfl rfl rfl (by kernel_rfl) ⟨.refl _, .refl _, .nil _, trivial⟩) ?_
    refine JR.run rfl rfl (r_assign rfl rfl rfl trivial) ?_
    refine JR.run rfl rfl (r_assign rfl rfl rfl trivial) ?_
    refine JR.done [] (by kernel_rfl) rfl (by kernel_rfl) ?_
    refine J_weak [(0, _), (1, _), (4, _), (5, _), (6, _), (2004, _)] ⟨rfl, rfl, rfl, rfl, rfl, rfl, trivial⟩ ?_
    refine J_seq ?_
    refine J_seq ?_
    refine JR.start ?_
    refine JR.run rfl rfl (r_move rfl rfl rfl trivial) ?_
    refine JR.run rfl rfl ((r_ltI rfl rfl rfl rfl).cast (by rw [decide_eq_false h0])) ?_
    refine JR.run rfl rfl (r_move rfl rfl rfl trivial) ?_
    refine JR.run rfl rfl (r_move rfl rfl rfl trivial) ?_
    refine JR.run rfl rfl (r_move rfl rfl rfl trivial) ?_
    refine JR.run rfl rfl (r_len rfl rfl (by kernel_rfl) rfl) ?_
    refine JR.run rfl rfl ((r_gtI rfl rfl rfl rfl).cast (by rw [hlen, decide_eq_false h1])) ?_
    refine JR.run rfl rfl (r_pickF rfl rfl rfl rfl trivial) ?_
    refine JR.done [] (by kernel_rfl) rfl (by kernel_rfl) ?_
    refine J_weak [(0, _), (1, _), (4, _), (5, _), (6, _), (16, _), (2004, _)] ⟨rfl, rfl, rfl, rfl, rfl, rfl, rfl, trivial⟩ ?_
    refine J_condF rfl ?_
    refine J_skip ?_
    refine J_seq ?_
    refine JR.start ?_
    refine JR.run rfl rfl (r_move rfl rfl rfl trivial) ?_
    refine JR.run rfl rfl (r_move rfl rfl rfl trivial) ?_
    refine JR.run rfl rfl (r_build (zs := [.slice none 0 0, .int .i64 0, .int .i64 0]) (qs := [(0, 1), (1, 1), (2, 1)]) [.sl 5 [], .lit (.int .i64 0), .lit (.int .i64 0)] rfl rfl (by kernel_rfl) (by kernel_rfl) ⟨.nil _, .refl _, .refl _, trivial⟩ rfl rfl) ?_
    refine JR.run rfl rfl (r_boxA (x := 3000) rfl rfl rfl rfl) ?_
    refine JR.run rfl rfl (r_assign rfl rfl rfl trivial) ?_
    refine JR.done [] (by kernel_rfl) rfl (by kernel_rfl) ?_
    refine J_weak [(4, _), (5, _), (6, _), (7, _), (2004, _), (3000, _)] ⟨rfl, rfl, rfl, rfl, rfl, rfl, trivial⟩ ?_
    refine J_seq ?_
    refine JR.start ?_
    refine JR.run rfl rfl (r_move rfl rfl rfl trivial) ?_
    refine JR.run rfl rfl (r_call (hc) rfl rfl rfl ⟨rfl, trivial⟩ (by kernel_rfl)) ?_
    refine JR.run rfl rfl (r_alloc (x := 2008) (zs := [.int .i64 0, .int .i64 0, .slice none 0 0]) [.lit (.int .i64 0), .lit (.int .i64 0), .sl 3 []] rfl rfl rfl (by kernel_rfl) ⟨.refl _, .refl _, .nil _, trivial⟩) ?_
    refine JR.run rfl rfl (r_storeA rfl rfl (by kernel_rfl) rfl rfl rfl rfl rfl) ?_
    refine JR.done [] (by kernel_rfl) rfl (by kernel_rfl) ?_
    refine J_weak [(4, _), (5, _), (6, _), (7, _), (8, _), (2004, _), (2008, _), (3000, _)] ⟨rfl, rfl, rfl, rfl, rfl, rfl, rfl, rfl, trivial⟩ ?_
    refine J_seq ?_
    refine J_seq ?_
    refine JR.start ?_
    refine JR.run rfl rfl (r_move rfl rfl rfl trivial) ?_
    refine JR.run rfl rfl (r_nilCheck rfl rfl rfl) ?_
    refine JR.run rfl rfl (r_fieldAddr (off := 2) (m := 1) rfl rfl (by kernel_rfl) rfl) ?_
    refine JR.run rfl rfl (r_load rfl rfl (by kernel_rfl) rfl rfl rfl) ?_
    refine JR.run rfl rfl ((r_geI rfl rfl rfl rfl).cast (by rfl)) ?_
    refine JR.done [] (by kernel_rfl) rfl (by kernel_rfl) ?_
    refine J_weak [(4, _), (5, _), (6, _), (7, _), (8, _), (28, _), (2004, _), (2008, _), (3000, _)] ⟨rfl, rfl, rfl, rfl, rfl, rfl, rfl, rfl, rfl, trivial⟩ ?_
    refine J_condF rfl ?_
    refine J_skip ?_
    refine J_seq ?_
    refine JR.start ?_
    refine JR.run rfl rfl (r_loadA (m := 3) (us := _) rfl rfl (by kernel_rfl) rfl rfl rfl rfl) ?_
    refine JR.run rfl rfl (r_move rfl rfl rfl trivial) ?_
    refine JR.run rfl rfl (r_nilCheck rfl rfl rfl) ?_
    refine JR.run rfl rfl (r_fieldAddr (off := 1) (m := 1) rfl rfl (by kernel_rfl) rfl) ?_
    refine JR.run rfl rfl (r_load rfl rfl (by kernel_rfl) rfl rfl rfl) ?_
    refine JR.run rfl rfl (r_storeA rfl rfl (by kernel_rfl) rfl rfl rfl rfl rfl) ?_
    refine JR.run rfl rfl (r_assign rfl rfl rfl trivial) ?_
    refine JR.run rfl rfl (r_assign rfl rfl rfl trivial) ?_
    refine JR.done [[], [], [1], [1, 2], [1, 2, 3], [0], [0, 1, 2, 3, 4, 5], [0, 1, 2, 3, 4, 5, 6]] (by kernel_rfl) rfl (by kernel_rfl) ?_
    refine J_weak [(4, _), (5, _), (6, _), (2004, _)] ⟨rfl, rfl, rfl, rfl, trivial⟩ ?_
    refine J_ret ?_
    exact ⟨.inl rfl, _, rfl, .refl _, trivial⟩

end Go.Proofs.YtoadmjnaakbljaaDoor
