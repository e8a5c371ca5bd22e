/- The program's reader of types: post, prod, typ, Read. -/
import Derived.Test.YtlagglkpbnbmeaaGreatDoorShC
import Derived.Test.YtlagglkpbnbmeaaGreatDoorNr1
namespace Go.Proofs.YtlagglkpbnbmeaaGreatDoor
open Go Go.RowKit
set_option maxRecDepth 100000
set_option linter.unusedVariables false

def tyC (t : Ty) : List C := [.d (.lit (.int .i64 t.kind)), .d (.lit (.int .i64 t.num)), .d (.sl 3 (tysD t.kids))]
def zeroTyC : List C := [.d (.lit (.int .i64 0)), .d (.lit (.int .i64 0)), .d (.sl 3 [])]

theorem nPost_any (f : Nat) (hT : NrTyp f) (ts : List Tok) (i : Nat) (hm : ts.length ≤ 1000000000) (hi : i ≤ ts.length) (hf : ts.length - i < f + 1) : NrOK 166 (mPost (mTypF f)) ts i := by
  have hc := nAtom_any f hT ts i hm hi hf; have hok := mAtom_ok (mTypF_ok f) (ts.drop i); unfold NrOK at hc ⊢; obtain ⟨M, hM⟩ : ∃ M, M = mPost (mTypF f) (ts.drop i) := ⟨_, rfl⟩; rw [← hM]; rw [mPost] at hM
  cases hx : mAtom (mTypF f) (ts.drop i) with
  | error k =>
    rw [hx] at hc hM; subst hM; refine gg [38,5,25,2002,1,0,9,5,3000,2002,3,2,0,5,2] ?_; refine u rfl rfl (r_call (hc) rfl rfl rfl ⟨rfl, trivial⟩ (by kernel_rfl)) ?_; refine gg [2,14,14,25,2004,10,1,0,9,8,3000,2004,2002,5,4,3,2,0,31,35] ?_; refine J_loopExit ?_; refine gg [31,5,2,2,3,3,17,0,9,11,3000,2004,2002,15,12,11,5,4,3,2,0,8,36,5,20,3,2,10,1,0,9,4,3000,2002,3,2,33] ?_; exact ⟨.inl rfl, _, rfl, .refl _, rfl, trivial⟩
  | ok p =>
    obtain ⟨t, r⟩ := p; obtain ⟨j, hj1, hj2, rfl⟩ := ok_drop hok hx hi; rw [hx] at hc hM; simp only [retD, posE, pos_drop hj2, tyD_eq] at hc; simp only at hM; obtain ⟨⟨tf, rf⟩, hq⟩ : ∃ q, q = mLists t (ts.drop j) := ⟨_, rfl⟩; rw [← hq] at hM; subst hM; refine gg [38,5,25,2002,1,0,9,5,3000,2002,3,2,0,5,2] ?_; refine u rfl rfl (r_call (hc) rfl rfl rfl ⟨rfl, trivial⟩ (by kernel_rfl)) ?_; refine gg [2,14,14,25,2004,10,1,0,9,8,3000,2004,2002,5,4,3,2,0,31,35] ?_; refine J_loop (α := { p : Ty × Nat // p.2 ≤ ts.length ∧ (tf, rf) = mLists p.1 (ts.drop p.2) }) (fun p => [(0, .ptr 3000 0), (2, .ptr 2002 0), (4, .ptr 2004 0), (5, .c (.lit (.bool true))), (2002, .var 26 zeroTyC), (2004, .var 26 (tyC p.1.1)), (3000, nRdr ts p.1.2)]) (fun p => ts.length - p.1.2) ⟨(t, j), hj2, hq⟩ ⟨rfl, rfl, rfl, rfl, rfl, rfl, rfl, trivial⟩ ?_; rintro ⟨⟨t', j'⟩, hj', hM'⟩; dsimp only at hj' hM' ⊢
    clear hc hx hok hj1 hj2 hq
    cases h : hit 2 tkList (ts.drop j') with
    | true =>
      have hlt := hit_lt h; rw [mLists_hit h, hit_tail h] at hM'; refine gg [31,5,2,2,2] ?_; refine u rfl rfl (r_call (nTakesT ts j' 2 tkList hm h) rfl rfl rfl ⟨rfl, trivial⟩ (by kernel_rfl)) ?_; refine gg [16,0,9,12,3000,2004,2002,15,14,13,12,11,5,4,2,0,32,34,35,37,20,3] ?_; refine u rfl rfl (r_buildSlice (e := 26) (sz := 3) (zs := zt) ([tyD t']) rfl rfl (by kernel_rfl) (by kernel_rfl) rfl rfl (by simp only [tyD_eq]; rfl) (by simp only [tyD_eq]; rfl)) ?_; refine u rfl rfl (r_build (zs := zt) (qs := [(0, 1), (1, 1), (2, 1)]) dt rfl rfl (by kernel_rfl) (by kernel_rfl) kt rfl rfl) ?_; refine gg [10,0] ?_; refine ⟨⟨(.one 8 t', j' + 1), by simp only; omega, hM'⟩, by simp only; omega, rfl, rfl, rfl, rfl, rfl, ?_, ?_, trivial⟩
      · rfl
      rfl
    | false =>
      rw [mLists_miss h] at hM'; refine gg [31,5,2,2,2] ?_; refine u rfl rfl (r_call (nTakesF ts j' 2 tkList hm h) rfl rfl rfl ⟨rfl, trivial⟩ (by kernel_rfl)) ?_; refine gg [16,0,9,12,3000,2004,2002,15,14,13,12,11,5,4,2,0,8,36,5,20,3,2,10,1,0,9,4,3000,2002,3,2,33] ?_; refine ⟨.inl rfl, _, rfl, ?_, ?_, trivial⟩
      · show WkF _ (.tup [.agg (tyD tf), .c (.lit (.bool true))])
        rw [show tf = t' from congrArg Prod.fst hM', tyD_eq]; exact .refl _
      show _ = some (nRdr ts (ts.length - rf.length))
      rw [show rf = ts.drop j' from congrArg Prod.snd hM', pos_drop hj']
      rfl

theorem nProd_any (f : Nat) (hT : NrTyp f) (ts : List Tok) (i : Nat) (hm : ts.length ≤ 1000000000) (hi : i ≤ ts.length) (hf : ts.length - i < f + 1) : NrOK 162 (mProd (mTypF f)) ts i := by
  have hc := nPost_any f hT ts i hm hi hf; have hok := mPost_ok (mTypF_ok f) (ts.drop i); unfold NrOK at hc ⊢; obtain ⟨M, hM⟩ : ∃ M, M = mProd (mTypF f) (ts.drop i) := ⟨_, rfl⟩; rw [← hM]; rw [mProd] at hM
  cases hx : mPost (mTypF f) (ts.drop i) with
  | error k =>
    rw [hx] at hc hM; subst hM; refine gg [38,5,25,2002,1,0,9,5,3000,2002,3,2,0,5,2] ?_; refine u rfl rfl (r_call (hc) rfl rfl rfl ⟨rfl, trivial⟩ (by kernel_rfl)) ?_; refine gg [2,14,14,25,2004,10,1,0,9,8,3000,2004,2002,5,4,3,2,0,31,5,2,15,2,39,3,16,0,9,9,3000,2004,2002,18,5,4,3,2,0,32,5,20,3,2,10,1,0,9,8,3000,2004,2002,5,4,3,2,0,33] ?_; exact ⟨.inl rfl, _, rfl, .refl _, rfl, trivial⟩
  | ok p =>
    obtain ⟨t, r⟩ := p; obtain ⟨j, hj1, hj2, rfl⟩ := ok_drop hok hx hi; rw [hx] at hc hM; simp only [retD, posE, pos_drop hj2, tyD_eq] at hc; simp only at hM
    cases h : hit 5 [42] (ts.drop j) with
    | false =>
      rw [h] at hM; simp only [Bool.false_eq_true, if_false] at hM; subst hM; simp only [retD, posE, pos_drop hj2, tyD_eq]; refine gg [38,5,25,2002,1,0,9,5,3000,2002,3,2,0,5,2] ?_; refine u rfl rfl (r_call (hc) rfl rfl rfl ⟨rfl, trivial⟩ (by kernel_rfl)) ?_; refine gg [2,14,14,25,2004,10,1,0,9,8,3000,2004,2002,5,4,3,2,0,31,5,2,15,2,2] ?_; refine u rfl rfl (r_call (nTakesF ts j 5 [42] hm h) rfl rfl rfl ⟨rfl, trivial⟩ (by kernel_rfl)) ?_; refine gg [15,17,0,9,9,3000,2004,2002,18,5,4,3,2,0,32,5,20,3,2,10,1,0,9,8,3000,2004,2002,5,4,3,2,0,33] ?_; exact ⟨.inl rfl, _, rfl, .refl _, rfl, trivial⟩
    | true =>
      have hlt := hit_lt h; have hc2 := nPost_any f hT ts (j + 1) hm (by omega) (by omega); have hok2 := mPost_ok (mTypF_ok f) (ts.drop (j + 1)); unfold NrOK at hc2; rw [h] at hM; simp only [if_true, hit_tail h] at hM
      cases hy : mPost (mTypF f) (ts.drop (j + 1)) with
      | error k =>
        rw [hy] at hc2 hM; simp only at hM; subst hM; refine gg [38,5,25,2002,1,0,9,5,3000,2002,3,2,0,5,2] ?_; refine u rfl rfl (r_call (hc) rfl rfl rfl ⟨rfl, trivial⟩ (by kernel_rfl)) ?_; refine gg [2,14,14,25,2004,10,1,0,9,8,3000,2004,2002,5,4,3,2,0,31,5,2,15,2,2] ?_; refine u rfl rfl (r_call (nTakesT ts j 5 [42] hm h) rfl rfl rfl ⟨rfl, trivial⟩ (by kernel_rfl)) ?_; refine gg [15,17,0,9,9,3000,2004,2002,18,5,4,3,2,0,8,34,5,2] ?_; refine u rfl rfl (r_call (hc2) rfl rfl rfl ⟨rfl, trivial⟩ (by kernel_rfl)) ?_; refine gg [2,14,14,25,2006,10,1,0,9,9,3000,2006,2004,2002,6,5,4,3,2,5,20,3,20,3] ?_; refine u rfl rfl (r_buildSlice (e := 26) (sz := 3) (zs := zt) ([[.lit (.int .i64 t.kind), .lit (.int .i64 t.num), .sl 3 (tysD t.kids)], [.any, .any, .any]]) rfl rfl (by kernel_rfl) (by kernel_rfl) rfl rfl rfl rfl) ?_; refine u rfl rfl (r_build (zs := zt) (qs := [(0, 1), (1, 1), (2, 1)]) dt rfl rfl (by kernel_rfl) (by kernel_rfl) kt rfl rfl) ?_
        refine gg [2,10,1,0,9,4,3000,2002,3,2,33] ?_; exact ⟨.inl rfl, _, rfl, .tup ⟨.agg ⟨.any _, .any _, .any _, trivial⟩, .refl _, trivial⟩, rfl, trivial⟩
      | ok q =>
        obtain ⟨t2, r2⟩ := q; obtain ⟨j2, hj3, hj4, rfl⟩ := ok_drop hok2 hy (by omega); rw [hy] at hc2 hM; simp only [retD, posE, pos_drop hj4, tyD_eq] at hc2; simp only at hM; subst hM; simp only [retD, posE, pos_drop hj4]; refine gg [38,5,25,2002,1,0,9,5,3000,2002,3,2,0,5,2] ?_; refine u rfl rfl (r_call (hc) rfl rfl rfl ⟨rfl, trivial⟩ (by kernel_rfl)) ?_; refine gg [2,14,14,25,2004,10,1,0,9,8,3000,2004,2002,5,4,3,2,0,31,5,2,15,2,2] ?_; refine u rfl rfl (r_call (nTakesT ts j 5 [42] hm h) rfl rfl rfl ⟨rfl, trivial⟩ (by kernel_rfl)) ?_; refine gg [15,17,0,9,9,3000,2004,2002,18,5,4,3,2,0,8,34,5,2] ?_; refine u rfl rfl (r_call (hc2) rfl rfl rfl ⟨rfl, trivial⟩ (by kernel_rfl)) ?_; refine gg [2,14,14,25,2006,10,1,0,9,9,3000,2006,2004,2002,6,5,4,3,2,5,20,3,20,3] ?_; refine u rfl rfl (r_buildSlice (e := 26) (sz := 3) (zs := zt) ([tyD t, tyD t2]) rfl rfl (by kernel_rfl) (by kernel_rfl) rfl rfl (by simp only [tyD_eq]; rfl) (by simp only [tyD_eq]; rfl)) ?_
        refine u rfl rfl (r_build (zs := zt) (qs := [(0, 1), (1, 1), (2, 1)]) dt rfl rfl (by kernel_rfl) (by kernel_rfl) kt rfl rfl) ?_; refine gg [2,10,1,0,9,4,3000,2002,3,2,33] ?_; exact ⟨.inl rfl, _, rfl, .refl _, rfl, trivial⟩

theorem nTyp_step (f : Nat) (hT : NrTyp f) (ts : List Tok) (i : Nat) (hm : ts.length ≤ 1000000000) (hi : i ≤ ts.length) (hf : ts.length - i < f + 1) : NrOK 158 (mTypF (f + 1)) ts i := by
  have hc := nProd_any f hT ts i hm hi hf; have hok := mProd_ok (mTypF_ok f) (ts.drop i); unfold NrOK at hc ⊢; obtain ⟨M, hM⟩ : ∃ M, M = mTypF (f + 1) (ts.drop i) := ⟨_, rfl⟩; rw [← hM]; rw [mTypF] at hM
  cases hx : mProd (mTypF f) (ts.drop i) with
  | error k =>
    rw [hx] at hc hM; subst hM; refine gg [38,5,25,2002,1,0,9,5,3000,2002,3,2,0,5,2] ?_; refine u rfl rfl (r_call (hc) rfl rfl rfl ⟨rfl, trivial⟩ (by kernel_rfl)) ?_; refine gg [2,14,14,25,2004,10,1,0,9,8,3000,2004,2002,5,4,3,2,0,31,5,2,15,2,39,3,16,0,9,9,3000,2004,2002,18,5,4,3,2,0,32,5,20,3,2,10,1,0,9,8,3000,2004,2002,5,4,3,2,0,33] ?_; exact ⟨.inl rfl, _, rfl, .refl _, rfl, trivial⟩
  | ok p =>
    obtain ⟨t, r⟩ := p; obtain ⟨j, hj1, hj2, rfl⟩ := ok_drop hok hx hi; rw [hx] at hc hM; simp only [retD, posE, pos_drop hj2, tyD_eq] at hc; simp only at hM
    cases h : hit 5 [45, 62] (ts.drop j) with
    | false =>
      rw [h] at hM; simp only [Bool.false_eq_true, if_false] at hM; subst hM; simp only [retD, posE, pos_drop hj2, tyD_eq]; refine gg [38,5,25,2002,1,0,9,5,3000,2002,3,2,0,5,2] ?_; refine u rfl rfl (r_call (hc) rfl rfl rfl ⟨rfl, trivial⟩ (by kernel_rfl)) ?_; refine gg [2,14,14,25,2004,10,1,0,9,8,3000,2004,2002,5,4,3,2,0,31,5,2,15,2,2] ?_; refine u rfl rfl (r_call (nTakesF ts j 5 [45, 62] hm h) rfl rfl rfl ⟨rfl, trivial⟩ (by kernel_rfl)) ?_; refine gg [15,17,0,9,9,3000,2004,2002,18,5,4,3,2,0,32,5,20,3,2,10,1,0,9,8,3000,2004,2002,5,4,3,2,0,33] ?_; exact ⟨.inl rfl, _, rfl, .refl _, rfl, trivial⟩
    | true =>
      have hlt := hit_lt h; have hc2 := hT ts (j + 1) hm (by omega) (by omega); have hok2 := mTypF_ok f (ts.drop (j + 1)); unfold NrOK at hc2; rw [h] at hM; simp only [if_true, hit_tail h] at hM
      cases hy : mTypF f (ts.drop (j + 1)) with
      | error k =>
        rw [hy] at hc2 hM; simp only at hM; subst hM; refine gg [38,5,25,2002,1,0,9,5,3000,2002,3,2,0,5,2] ?_; refine u rfl rfl (r_call (hc) rfl rfl rfl ⟨rfl, trivial⟩ (by kernel_rfl)) ?_; refine gg [2,14,14,25,2004,10,1,0,9,8,3000,2004,2002,5,4,3,2,0,31,5,2,15,2,2] ?_; refine u rfl rfl (r_call (nTakesT ts j 5 [45, 62] hm h) rfl rfl rfl ⟨rfl, trivial⟩ (by kernel_rfl)) ?_; refine gg [15,17,0,9,9,3000,2004,2002,18,5,4,3,2,0,8,34,5,2] ?_; refine u rfl rfl (r_call (hc2) rfl rfl rfl ⟨rfl, trivial⟩ (by kernel_rfl)) ?_; refine gg [2,14,14,25,2006,10,1,0,9,9,3000,2006,2004,2002,6,5,4,3,2,5,20,3,20,3] ?_; refine u rfl rfl (r_buildSlice (e := 26) (sz := 3) (zs := zt) ([[.lit (.int .i64 t.kind), .lit (.int .i64 t.num), .sl 3 (tysD t.kids)], [.any, .any, .any]]) rfl rfl (by kernel_rfl) (by kernel_rfl) rfl rfl rfl rfl) ?_; refine u rfl rfl (r_build (zs := zt) (qs := [(0, 1), (1, 1), (2, 1)]) dt rfl rfl (by kernel_rfl) (by kernel_rfl) kt rfl rfl) ?_
        refine gg [2,10,1,0,9,4,3000,2002,3,2,33] ?_; exact ⟨.inl rfl, _, rfl, .tup ⟨.agg ⟨.any _, .any _, .any _, trivial⟩, .refl _, trivial⟩, rfl, trivial⟩
      | ok q =>
        obtain ⟨t2, r2⟩ := q; obtain ⟨j2, hj3, hj4, rfl⟩ := ok_drop hok2 hy (by omega); rw [hy] at hc2 hM; simp only [retD, posE, pos_drop hj4, tyD_eq] at hc2; simp only at hM; subst hM; simp only [retD, posE, pos_drop hj4]; refine gg [38,5,25,2002,1,0,9,5,3000,2002,3,2,0,5,2] ?_; refine u rfl rfl (r_call (hc) rfl rfl rfl ⟨rfl, trivial⟩ (by kernel_rfl)) ?_; refine gg [2,14,14,25,2004,10,1,0,9,8,3000,2004,2002,5,4,3,2,0,31,5,2,15,2,2] ?_; refine u rfl rfl (r_call (nTakesT ts j 5 [45, 62] hm h) rfl rfl rfl ⟨rfl, trivial⟩ (by kernel_rfl)) ?_; refine gg [15,17,0,9,9,3000,2004,2002,18,5,4,3,2,0,8,34,5,2] ?_; refine u rfl rfl (r_call (hc2) rfl rfl rfl ⟨rfl, trivial⟩ (by kernel_rfl)) ?_; refine gg [2,14,14,25,2006,10,1,0,9,9,3000,2006,2004,2002,6,5,4,3,2,5,20,3,20,3] ?_; refine u rfl rfl (r_buildSlice (e := 26) (sz := 3) (zs := zt) ([tyD t, tyD t2]) rfl rfl (by kernel_rfl) (by kernel_rfl) rfl rfl (by simp only [tyD_eq]; rfl) (by simp only [tyD_eq]; rfl)) ?_
        refine u rfl rfl (r_build (zs := zt) (qs := [(0, 1), (1, 1), (2, 1)]) dt rfl rfl (by kernel_rfl) (by kernel_rfl) kt rfl rfl) ?_; refine gg [2,10,1,0,9,4,3000,2002,3,2,33] ?_; exact ⟨.inl rfl, _, rfl, .refl _, rfl, trivial⟩

theorem nTyp_any : ∀ f, NrTyp f
  | 0 => fun _ _ _ _ h => absurd h (Nat.not_lt_zero _)
  | f + 1 => fun ts i h1 h2 h3 => nTyp_step f (nTyp_any f) ts i h1 h2 h3

def readD (m : Ty × Int × Int) : F := .tup [.agg (tyD m.1), .c (.lit (.int .i64 m.2.1)), .c (.lit (.int .i64 m.2.2))]
theorem nRead_any (ts : List Tok) (i : Int) (hm : ts.length ≤ 1000000000) : Con Tryz.prog 148 [.c (toksD ts), .c (.lit (.int .i64 i))] [] (readD (mRead ts i)) [] := by
  have hlen : (((ts.map tokD).length : Nat) : Int) = ts.length := by simp
  by_cases h0 : i < 0
  · rw [mRead, if_pos (.inl h0)]; refine gg [38,5,25,2004,1,1,0,9,6,2004,6,5,4,1,0,31,5,2] ?_; refine u rfl rfl ((r_ltI rfl rfl rfl rfl).cast (by rw [decide_eq_true h0])) ?_; refine gg [2,39,4,16,0,9,7,2004,16,6,5,4,1,0,32,5] ?_; refine u rfl rfl (r_build (zs := zt) (qs := [(0, 1), (1, 1), (2, 1)]) dt rfl rfl (by kernel_rfl) (by kernel_rfl) kt rfl rfl) ?_; refine gg [10,1,1,0,9,6,2004,6,5,4,1,0,33] ?_; exact ⟨.inl rfl, _, rfl, .refl _, trivial⟩
  by_cases h1 : (ts.length : Int) < i
  · rw [mRead, if_pos (.inr h1)]; refine gg [38,5,25,2004,1,1,0,9,6,2004,6,5,4,1,0,31,5,2] ?_; refine u rfl rfl ((r_ltI rfl rfl rfl rfl).cast (by rw [decide_eq_false h0])) ?_; refine gg [2,2,2,18] ?_; refine u rfl rfl ((r_gtI rfl rfl rfl rfl).cast (by rw [hlen, decide_eq_true h1])) ?_; refine gg [17,0,9,7,2004,16,6,5,4,1,0,32,5] ?_; refine u rfl rfl (r_build (zs := zt) (qs := [(0, 1), (1, 1), (2, 1)]) dt rfl rfl (by kernel_rfl) (by kernel_rfl) kt rfl rfl) ?_; refine gg [10,1,1,0,9,6,2004,6,5,4,1,0,33] ?_; exact ⟨.inl rfl, _, rfl, .refl _, trivial⟩
  obtain ⟨k, rfl⟩ : ∃ k : Nat, i = (k : Int) := ⟨i.toNat, by omega⟩; have hk : k ≤ ts.length := by omega
  rw [mRead, if_neg (by omega), Int.toNat_natCast, mTyp]; have hc := nTyp_any ((ts.drop k).length + 1) ts k hm hk (by rw [List.length_drop]; omega); have hok := mTypF_ok ((ts.drop k).length + 1) (ts.drop k); unfold NrOK at hc
  cases hx : mTypF ((ts.drop k).length + 1) (ts.drop k) with
  | error q =>
    rw [hx] at hc; refine gg [38,5,25,2004,1,1,0,9,6,2004,6,5,4,1,0,31,5,2] ?_; refine u rfl rfl ((r_ltI rfl rfl rfl rfl).cast (by rw [decide_eq_false h0])) ?_; refine gg [2,2,2,18] ?_; refine u rfl rfl ((r_gtI rfl rfl rfl rfl).cast (by rw [hlen, decide_eq_false h1])) ?_; refine gg [17,0,9,7,2004,16,6,5,4,1,0,8,34,5,2,2] ?_; refine u rfl rfl (r_build (zs := [.slice none 0 0, .int .i64 0]) (qs := [(0, 1), (1, 1)]) [.sl 5 [], .lit (.int .i64 0)] rfl rfl (by kernel_rfl) (by kernel_rfl) ⟨.nil _, .refl _, trivial⟩ rfl rfl) ?_; refine gg [22,3000,1,0,9,6,3000,2004,7,6,5,4,5,2] ?_; refine u rfl rfl (r_call (hc) rfl rfl rfl ⟨rfl, trivial⟩ (by kernel_rfl)) ?_; refine gg [2,14,14,10,1,0,9,7,3000,2004,8,7,6,5,4,31,5,2,15,0,9,7,3000,2004,28,7,6,5,4,32,5] ?_; refine u rfl rfl (r_build (zs := zt) (qs := [(0, 1), (1, 1), (2, 1)]) dt rfl rfl (by kernel_rfl) (by kernel_rfl) kt rfl rfl) ?_; refine gg [2,13,6,1,1,7,10,1,1,4,9,6,3000,2004,7,6,5,4,33] ?_
    exact ⟨.inl rfl, _, rfl, .refl _, trivial⟩
  | ok p =>
    obtain ⟨t, r⟩ := p; obtain ⟨j, hj1, hj2, rfl⟩ := ok_drop hok hx hk; rw [hx] at hc; simp only [retD, posE, pos_drop hj2, tyD_eq] at hc; simp only [readD, pos_drop hj2, tyD_eq]; refine gg [38,5,25,2004,1,1,0,9,6,2004,6,5,4,1,0,31,5,2] ?_; refine u rfl rfl ((r_ltI rfl rfl rfl rfl).cast (by rw [decide_eq_false h0])) ?_; refine gg [2,2,2,18] ?_; refine u rfl rfl ((r_gtI rfl rfl rfl rfl).cast (by rw [hlen, decide_eq_false h1])) ?_; refine gg [17,0,9,7,2004,16,6,5,4,1,0,8,34,5,2,2] ?_; refine u rfl rfl (r_build (zs := [.slice none 0 0, .int .i64 0]) (qs := [(0, 1), (1, 1)]) [.sl 5 [], .lit (.int .i64 0)] rfl rfl (by kernel_rfl) (by kernel_rfl) ⟨.nil _, .refl _, trivial⟩ rfl rfl) ?_; refine gg [22,3000,1,0,9,6,3000,2004,7,6,5,4,5,2] ?_; refine u rfl rfl (r_call (hc) rfl rfl rfl ⟨rfl, trivial⟩ (by kernel_rfl)) ?_; refine gg [2,14,14,10,1,0,9,7,3000,2004,8,7,6,5,4,31,5,2,15,0,9,7,3000,2004,28,7,6,5,4,8,34,5,20,3,2,13,6,1,1,7,10,1,1,4,9,4,2004,6,5,4,33] ?_
    exact ⟨.inl rfl, _, rfl, .refl _, trivial⟩

end Go.Proofs.YtlagglkpbnbmeaaGreatDoor
