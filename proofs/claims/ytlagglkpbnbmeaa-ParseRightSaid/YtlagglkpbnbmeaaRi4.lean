/- The program's tree: what is right of one expression. -/
import Derived.Test.YtlagglkpbnbmeaaRi3
namespace Go.Proofs.Ytlagglkpbnbmeaa
open Go Go.RowKit
set_option maxRecDepth 100000
set_option maxHeartbeats 4000000
set_option linter.unusedVariables false
set_option linter.unusedSimpArgs false

theorem tys_at3 {l : List Ty} {k : Nat} {x : Ty} (h : l[k]? = some x) : (tysD l)[((k : Nat) : Int).toNat]? = some (tyX x) := by rw [← tyX_eq]; exact tysD_get (by simpa using h)
theorem tWithout (q : Int) : ∀ (m : Nat) (t : Ty), m ≤ 1000000000 → t.size ≤ m → Con Try.prog 62 [.agg (tyX t), .c (.lit (.int .i64 q))] [] (.c (.lit (.bool (mWithout q t)))) []
  | 0, t, _, h => absurd t.size_pos (by omega)
  | m + 1, t, hm, h => by
    have hk := t.kids_lt
    have hl := tysD_len (t.kids)
    refine con_intro rfl rfl (by kernel_rfl) (by kernel_rfl) ?_
    refine js ?_
    refine u rfl rfl (r_boxA (x := 2002) rfl rfl rfl rfl) ?_
    refine u rfl rfl asg ?_
    refine jd ?_
    refine w4 1 2 4 2002 ?_
    refine J_seq ?_
    refine js ?_
    refine u rfl rfl (fA 0 1) ?_
    refine u rfl rfl ld ?_
    refine u rfl rfl mv ?_
    refine JR.runB rfl rfl (r_eqI rfl rfl rfl rfl) ?_ ?_
    · intro h10
      replace h10 := of_decide_eq_true h10
      refine jd ?_
      refine w5 1 2 4 10 2002 ?_
      refine J_condT rfl ?_
      refine js ?_
      refine u rfl rfl asg ?_
      refine jd ?_
      refine w4 1 2 4 2002 ?_
      refine J_ret ?_
      refine ⟨.inl rfl, _, rfl, .ofB ?_, trivial⟩
      rw [mWithout_eq, decide_eq_true h10]
      rfl
    · intro h10
      replace h10 := of_decide_eq_false h10
      refine jd ?_
      refine w5 1 2 4 10 2002 ?_
      refine J_condF rfl ?_
      refine J_skip ?_
      refine J_seq ?_
      refine js ?_
      refine u rfl rfl (fA 2 1) ?_
      refine u rfl rfl ld ?_
      refine u rfl rfl ln0 ?_
      refine u rfl rfl mv ?_
      refine jd ?_
      refine w5 1 4 12 13 14 ?_
      refine J_block ?_
      refine J_loopF (α := { i : Nat // i ≤ t.kids.length ∧ mWithouts q t.kids = mWithouts q (t.kids.drop i) }) (fun p => [(14, .c (.lit (.int .i64 (p.1 : Int))))]) [(1, _), (4, _), (12, _), (13, _)] (fun p => t.kids.length - p.1) ⟨0, Nat.zero_le _, rfl⟩ ⟨rfl, rfl, rfl, rfl, rfl, trivial⟩ ?_
      rintro ⟨i, hi, hI⟩
      dsimp only
      refine js ?_
      refine JR.runB rfl rfl (r_ltI rfl rfl rfl rfl) ?_ ?_
      · intro h15
        replace h15 := of_decide_eq_true h15
        obtain ⟨x, hx⟩ := get_some (l := t.kids) (i := i) (by omega)
        have hxs := Ty.kid_lt' hx
        refine jd ?_
        refine w6 1 4 12 13 14 15 ?_
        refine J_seq ?_
        refine J_condT rfl ?_
        refine J_skip ?_
        refine J_seq ?_
        refine J_block ?_
        refine js ?_
        refine u rfl rfl (r_indexAddr (e := 27) (sz := 3) rfl rfl (by kernel_rfl) rfl rfl (by omega) (tys_at3 hx)) ?_
        refine u rfl rfl (eA 3) ?_
        refine u rfl rfl (r_alloc (x := 2006) (zs := zt) dt rfl rfl rfl (by kernel_rfl) kt) ?_
        refine u rfl rfl sA ?_
        refine jd ?_
        refine w10 1 4 6 12 13 14 15 16 17 2006 ?_
        refine js ?_
        refine u rfl rfl (lA 3) ?_
        refine u rfl rfl mv ?_
        refine JR.runC rfl rfl (cl (tWithout q m x (by omega) (by omega))) rfl ?_ ?_
        · intro h20
          refine u rfl rfl nt ?_
          refine jd ?_
          refine w14 1 4 6 12 13 14 15 16 17 18 19 20 21 2006 ?_
          refine J_condF rfl ?_
          refine J_skip ?_
          refine JR.start ?_
          refine u rfl rfl (r_addI rfl rfl rfl rfl (by omega)) ?_
          refine u rfl rfl mv ?_
          refine jd ?_
          refine ⟨⟨i + 1, by omega, by rw [hI, drop_get hx, mWithouts, h20, Bool.true_and]⟩, by simp only; omega, rfl, rfl, rfl, rfl, rfl, trivial⟩
        · intro h20
          refine u rfl rfl nt ?_
          refine jd ?_
          refine w14 1 4 6 12 13 14 15 16 17 18 19 20 21 2006 ?_
          refine J_condT rfl ?_
          refine js ?_
          refine u rfl rfl asg ?_
          refine jd ?_
          refine w14 1 4 6 12 13 14 15 16 17 18 19 20 21 2006 ?_
          refine J_ret ?_
          refine ⟨.inl rfl, _, rfl, .ofB ?_, trivial⟩
          rw [mWithout_eq, hI, drop_get hx, mWithouts, h20, Bool.false_and, Bool.and_false]
      · intro h15
        replace h15 := of_decide_eq_false h15
        refine jd ?_
        refine w6 1 4 12 13 14 15 ?_
        refine J_seq ?_
        refine J_condF rfl ?_
        refine J_exit ?_
        refine js ?_
        refine u rfl rfl asg ?_
        refine jd ?_
        refine w1 4 ?_
        refine J_ret ?_
        refine ⟨.inl rfl, _, rfl, .ofB ?_, trivial⟩
        rw [mWithout_eq, hI, List.drop_eq_nil_of_le (by omega), mWithouts, Bool.and_true, decide_eq_false h10]
        rfl

theorem tClosed (t : Ty) (h : t.size ≤ 1000000000) : Con Try.prog 51 [.agg (tyX t)] [] (.c (.lit (.bool (mWithout 6 t)))) [] := by
  refine con_intro rfl rfl (by kernel_rfl) (by kernel_rfl) ?_
  refine js ?_
  refine u rfl rfl (r_boxA (x := 2001) rfl rfl rfl rfl) ?_
  refine u rfl rfl asg ?_
  refine jd ?_
  refine w3 1 2 2001 ?_
  refine js ?_
  refine u rfl rfl (lA 3) ?_
  refine u rfl rfl (cl (tWithout 6 1000000000 t (by omega) h)) ?_
  refine u rfl rfl asg ?_
  refine jd ?_
  refine w1 2 ?_
  refine J_ret ?_
  exact ⟨.inl rfl, _, rfl, .refl _, trivial⟩

def mNone (t : Ty) : Bool := decide (t.kind = 0) && decide (t.num = 0) && decide (t.kids.length = 0)
def mClosed (t : Ty) : Bool := mRight t && mWithout 6 t
theorem tNone (t : Ty) : Con Try.prog 31 [.agg (tyX t)] [] (.c (.lit (.bool (mNone t)))) [] := by
  have hl := tysD_len (t.kids)
  refine con_intro rfl rfl (by kernel_rfl) (by kernel_rfl) ?_
  refine js ?_
  refine u rfl rfl (r_boxA (x := 2001) rfl rfl rfl rfl) ?_
  refine u rfl rfl asg ?_
  refine jd ?_
  refine w3 1 2 2001 ?_
  refine js ?_
  refine u rfl rfl (fA 0 1) ?_
  refine u rfl rfl ld ?_
  refine JR.runB rfl rfl (r_eqI rfl rfl rfl rfl) ?_ ?_
  · intro h5
    replace h5 := of_decide_eq_true h5
    refine u rfl rfl mv ?_
    refine u rfl rfl (fA 1 1) ?_
    refine u rfl rfl ld ?_
    refine JR.runB rfl rfl (r_eqI rfl rfl rfl rfl) ?_ ?_
    · intro h9
      replace h9 := of_decide_eq_true h9
      refine u rfl rfl pT ?_
      refine u rfl rfl mv ?_
      refine u rfl rfl (fA 2 1) ?_
      refine u rfl rfl ld ?_
      refine u rfl rfl ln0 ?_
      refine JR.runB rfl rfl (r_eqI rfl rfl rfl rfl) ?_ ?_
      · intro h15
        replace h15 := of_decide_eq_true h15
        refine u rfl rfl pT ?_
        refine u rfl rfl asg ?_
        refine jd ?_
        refine w1 2 ?_
        refine J_ret ?_
        refine ⟨.inl rfl, _, rfl, .ofB ?_, trivial⟩
        first | (simp_all [mNone, tyX]; done) | (simp_all [mNone, tyX]; omega)
      · intro h15
        replace h15 := of_decide_eq_false h15
        refine u rfl rfl pT ?_
        refine u rfl rfl asg ?_
        refine jd ?_
        refine w1 2 ?_
        refine J_ret ?_
        refine ⟨.inl rfl, _, rfl, .ofB ?_, trivial⟩
        first | (simp_all [mNone, tyX]; done) | (simp_all [mNone, tyX]; omega)
    · intro h9
      replace h9 := of_decide_eq_false h9
      refine u rfl rfl pT ?_
      refine u rfl rfl mv ?_
      refine sk ?_
      refine sk ?_
      refine sk ?_
      refine sk ?_
      refine u rfl rfl pF ?_
      refine u rfl rfl asg ?_
      refine jd ?_
      refine w1 2 ?_
      refine J_ret ?_
      refine ⟨.inl rfl, _, rfl, .ofB ?_, trivial⟩
      first | (simp_all [mNone, tyX]; done) | (simp_all [mNone, tyX]; omega)
  · intro h5
    replace h5 := of_decide_eq_false h5
    refine u rfl rfl mv ?_
    refine sk ?_
    refine sk ?_
    refine sk ?_
    refine u rfl rfl pF ?_
    refine u rfl rfl mv ?_
    refine sk ?_
    refine sk ?_
    refine sk ?_
    refine sk ?_
    refine u rfl rfl pF ?_
    refine u rfl rfl asg ?_
    refine jd ?_
    refine w1 2 ?_
    refine J_ret ?_
    refine ⟨.inl rfl, _, rfl, .ofB ?_, trivial⟩
    first | (simp_all [mNone, tyX]; done) | (simp_all [mNone, tyX]; omega)

theorem tClosedA (t : Ty) (h : t.size ≤ 1000000000) : Con Try.prog 32 [.agg (tyX t)] [] (.c (.lit (.bool (mClosed t)))) [] := by
  have hck := kCheck t h
  refine con_intro rfl rfl (by kernel_rfl) (by kernel_rfl) ?_
  refine js ?_
  refine u rfl rfl (r_boxA (x := 2001) rfl rfl rfl rfl) ?_
  refine u rfl rfl asg ?_
  refine jd ?_
  refine w3 1 2 2001 ?_
  refine js ?_
  refine u rfl rfl (lA 3) ?_
  rcases hr : mRight t with _ | _
  · rw [hr] at hck
    refine u rfl rfl (cl (hck)) ?_
    refine u rfl rfl (r_eqI rfl rfl rfl rfl) ?_
    refine u rfl rfl mv ?_
    refine sk ?_
    refine sk ?_
    refine u rfl rfl pF ?_
    refine u rfl rfl asg ?_
    refine jd ?_
    refine w1 2 ?_
    refine J_ret ?_
    refine ⟨.inl rfl, _, rfl, .ofB ?_, trivial⟩
    first | (simp_all [mClosed]; done) | (unfold mClosed; rw [hr]; simp_all)
  · rw [hr] at hck
    refine u rfl rfl (cl (hck)) ?_
    refine u rfl rfl (r_eqI rfl rfl rfl rfl) ?_
    refine u rfl rfl mv ?_
    refine u rfl rfl (lA 3) ?_
    refine JR.runC rfl rfl (cl (tClosed t h)) rfl ?_ ?_
    · intro h8
      refine u rfl rfl pT ?_
      refine u rfl rfl asg ?_
      refine jd ?_
      refine w1 2 ?_
      refine J_ret ?_
      refine ⟨.inl rfl, _, rfl, .ofB ?_, trivial⟩
      first | (simp_all [mClosed]; done) | (unfold mClosed; rw [hr]; simp_all)
    · intro h8
      refine u rfl rfl pT ?_
      refine u rfl rfl asg ?_
      refine jd ?_
      refine w1 2 ?_
      refine J_ret ?_
      refine ⟨.inl rfl, _, rfl, .ofB ?_, trivial⟩
      first | (simp_all [mClosed]; done) | (unfold mClosed; rw [hr]; simp_all)

/-- which fields an expression of a kind has, and how many kids -/
structure Shp where
  name : Bool
  arg : Bool
  n : Bool
  s : Bool
  op : Bool
  a : Bool
  b : Bool
  must : Bool
  kids : Int
  ok : Bool
def shOf (e : Ex) : Shp := if e.kind = 1 then ⟨true, false, false, false, false, false, false, false, 0, true⟩ else if e.kind = 2 ∨ e.kind = 3 then ⟨false, false, true, false, false, false, false, false, 0, true⟩ else if e.kind = 4 then ⟨false, false, false, true, false, false, false, false, 0, true⟩ else if e.kind = 5 ∨ e.kind = 7 then ⟨false, false, false, false, false, false, false, false, 0, true⟩ else if e.kind = 6 ∨ e.kind = 8 ∨ e.kind = 10 then ⟨false, false, false, false, false, false, false, false, 2, true⟩ else if e.kind = 9 then ⟨true, false, false, false, false, true, false, false, 1, true⟩ else if e.kind = 11 then ⟨true, false, false, false, false, true, false, false, 2, true⟩ else if e.kind = 12 then ⟨true, true, false, false, false, true, true, false, 2, true⟩ else if e.kind = 13 then ⟨false, false, false, false, false, false, false, false, 3, true⟩ else if e.kind = 14 then ⟨false, false, false, false, false, false, false, false, ((e.pats.length : Int) + 1), decide (0 < e.pats.length)⟩ else if e.kind = 15 then ⟨false, false, false, false, false, true, false, true, 1, true⟩ else if e.kind = 16 then ⟨false, false, false, false, true, false, false, false, 2, true⟩ else ⟨false, false, false, false, false, false, false, false, 0, false⟩
def shD (s : Shp) : List D := [.lit (.bool s.name), .lit (.bool s.arg), .lit (.bool s.n), .lit (.bool s.s), .lit (.bool s.op), .lit (.bool s.a), .lit (.bool s.b), .lit (.bool s.must), .lit (.int .i64 s.kids)]
def shR (s : Shp) : F := .tup [.agg (shD s), .c (.lit (.bool s.ok))]

theorem tShape (e : Ex) (he : e.pats.length ≤ 1000000000) : Con Try.prog 29 [.agg (exX e)] [] (shR (shOf e)) [] := by
  have hl := pasD_len3 e.pats
  generalize hM : shOf e = M
  unfold shOf at hM
  refine con_intro rfl rfl (by kernel_rfl) (by kernel_rfl) ?_
  refine js ?_
  refine u rfl rfl (r_boxA (x := 2001) rfl rfl rfl rfl) ?_
  refine u rfl rfl (r_alloc (x := 2002) (zs := [.bool false, .bool false, .bool false, .bool false, .bool false, .bool false, .bool false, .bool false, .int .i64 0]) [.lit (.bool false), .lit (.bool false), .lit (.bool false), .lit (.bool false), .lit (.bool false), .lit (.bool false), .lit (.bool false), .lit (.bool false), .lit (.int .i64 0)] rfl rfl rfl (by kernel_rfl) ⟨.refl _, .refl _, .refl _, .refl _, .refl _, .refl _, .refl _, .refl _, .refl _, trivial⟩) ?_
  refine u rfl rfl asg ?_
  refine jd ?_
  refine w5 1 2 3 2001 2002 ?_
  refine J_seq ?_
  refine js ?_
  refine u rfl rfl (fA 0 1) ?_
  refine u rfl rfl ld ?_
  refine jd ?_
  refine w6 1 2 3 5 2001 2002 ?_
  refine J_block ?_
  refine js ?_
  refine JR.runB rfl rfl (r_eqI rfl rfl rfl rfl) ?_ ?_
  · intro h7
    replace h7 := of_decide_eq_true h7
    refine u rfl rfl asg ?_
    refine jd ?_
    refine w7 1 2 3 5 6 2001 2002 ?_
    refine J_condT rfl ?_
    refine js ?_
    refine u rfl rfl (r_build (zs := [.bool false, .bool false, .bool false, .bool false, .bool false, .bool false, .bool false, .bool false, .int .i64 0]) (qs := [(0, 1), (1, 1), (2, 1), (3, 1), (4, 1), (5, 1), (6, 1), (7, 1), (8, 1)]) [.lit (.bool false), .lit (.bool false), .lit (.bool false), .lit (.bool false), .lit (.bool false), .lit (.bool false), .lit (.bool false), .lit (.bool false), .lit (.int .i64 0)] rfl rfl (by kernel_rfl) (by kernel_rfl) ⟨.refl _, .refl _, .refl _, .refl _, .refl _, .refl _, .refl _, .refl _, .refl _, trivial⟩ rfl rfl) ?_
    refine u rfl rfl sA ?_
    refine u rfl rfl asg ?_
    refine jd ?_
    refine w3 2 3 2002 ?_
    refine J_ret ?_
    subst hM
    refine ⟨.inl rfl, _, rfl, .of ?_, trivial⟩
    first | (simp [*, shR, shD]; done) | (simp [*, shR, shD]; rfl) | (simp_all [shR, shD]; done) | (simp_all [shR, shD]; omega)
  · intro h7
    replace h7 := of_decide_eq_false h7
    refine u rfl rfl asg ?_
    refine jd ?_
    refine w7 1 2 3 5 6 2001 2002 ?_
    refine J_condF rfl ?_
    refine J_seq ?_
    refine js ?_
    refine JR.runB rfl rfl (r_eqI rfl rfl rfl rfl) ?_ ?_
    · intro h10
      replace h10 := of_decide_eq_true h10
      refine u rfl rfl asg ?_
      refine jd ?_
      refine w7 1 2 3 5 9 2001 2002 ?_
      refine J_condT rfl ?_
      refine J_skip ?_
      refine J_condT rfl ?_
      refine js ?_
      refine u rfl rfl (r_build (zs := [.bool false, .bool false, .bool false, .bool false, .bool false, .bool false, .bool false, .bool false, .int .i64 0]) (qs := [(0, 1), (1, 1), (2, 1), (3, 1), (4, 1), (5, 1), (6, 1), (7, 1), (8, 1)]) [.lit (.bool false), .lit (.bool false), .lit (.bool false), .lit (.bool false), .lit (.bool false), .lit (.bool false), .lit (.bool false), .lit (.bool false), .lit (.int .i64 0)] rfl rfl (by kernel_rfl) (by kernel_rfl) ⟨.refl _, .refl _, .refl _, .refl _, .refl _, .refl _, .refl _, .refl _, .refl _, trivial⟩ rfl rfl) ?_
      refine u rfl rfl sA ?_
      refine u rfl rfl asg ?_
      refine jd ?_
      refine w3 2 3 2002 ?_
      refine J_ret ?_
      subst hM
      refine ⟨.inl rfl, _, rfl, .of ?_, trivial⟩
      first | (simp [*, shR, shD]; done) | (simp [*, shR, shD]; rfl) | (simp_all [shR, shD]; done) | (simp_all [shR, shD]; omega)
    · intro h10
      replace h10 := of_decide_eq_false h10
      refine u rfl rfl asg ?_
      refine jd ?_
      refine w7 1 2 3 5 9 2001 2002 ?_
      refine J_condF rfl ?_
      refine JR.start ?_
      refine JR.runB rfl rfl (r_eqI rfl rfl rfl rfl) ?_ ?_
      · intro h11
        replace h11 := of_decide_eq_true h11
        refine u rfl rfl asg ?_
        refine jd ?_
        refine w7 1 2 3 5 9 2001 2002 ?_
        refine J_condT rfl ?_
        refine js ?_
        refine u rfl rfl (r_build (zs := [.bool false, .bool false, .bool false, .bool false, .bool false, .bool false, .bool false, .bool false, .int .i64 0]) (qs := [(0, 1), (1, 1), (2, 1), (3, 1), (4, 1), (5, 1), (6, 1), (7, 1), (8, 1)]) [.lit (.bool false), .lit (.bool false), .lit (.bool false), .lit (.bool false), .lit (.bool false), .lit (.bool false), .lit (.bool false), .lit (.bool false), .lit (.int .i64 0)] rfl rfl (by kernel_rfl) (by kernel_rfl) ⟨.refl _, .refl _, .refl _, .refl _, .refl _, .refl _, .refl _, .refl _, .refl _, trivial⟩ rfl rfl) ?_
        refine u rfl rfl sA ?_
        refine u rfl rfl asg ?_
        refine jd ?_
        refine w3 2 3 2002 ?_
        refine J_ret ?_
        subst hM
        refine ⟨.inl rfl, _, rfl, .of ?_, trivial⟩
        first | (simp [*, shR, shD]; done) | (simp [*, shR, shD]; rfl) | (simp_all [shR, shD]; done) | (simp_all [shR, shD]; omega)
      · intro h11
        replace h11 := of_decide_eq_false h11
        refine u rfl rfl asg ?_
        refine jd ?_
        refine w7 1 2 3 5 9 2001 2002 ?_
        refine J_condF rfl ?_
        refine js ?_
        refine JR.runB rfl rfl (r_eqI rfl rfl rfl rfl) ?_ ?_
        · intro h14
          replace h14 := of_decide_eq_true h14
          refine u rfl rfl asg ?_
          refine jd ?_
          refine w7 1 2 3 5 13 2001 2002 ?_
          refine J_condT rfl ?_
          refine js ?_
          refine u rfl rfl (r_build (zs := [.bool false, .bool false, .bool false, .bool false, .bool false, .bool false, .bool false, .bool false, .int .i64 0]) (qs := [(0, 1), (1, 1), (2, 1), (3, 1), (4, 1), (5, 1), (6, 1), (7, 1), (8, 1)]) [.lit (.bool false), .lit (.bool false), .lit (.bool false), .lit (.bool false), .lit (.bool false), .lit (.bool false), .lit (.bool false), .lit (.bool false), .lit (.int .i64 0)] rfl rfl (by kernel_rfl) (by kernel_rfl) ⟨.refl _, .refl _, .refl _, .refl _, .refl _, .refl _, .refl _, .refl _, .refl _, trivial⟩ rfl rfl) ?_
          refine u rfl rfl sA ?_
          refine u rfl rfl asg ?_
          refine jd ?_
          refine w3 2 3 2002 ?_
          refine J_ret ?_
          subst hM
          refine ⟨.inl rfl, _, rfl, .of ?_, trivial⟩
          first | (simp [*, shR, shD]; done) | (simp [*, shR, shD]; rfl) | (simp_all [shR, shD]; done) | (simp_all [shR, shD]; omega)
        · intro h14
          replace h14 := of_decide_eq_false h14
          refine u rfl rfl asg ?_
          refine jd ?_
          refine w7 1 2 3 5 13 2001 2002 ?_
          refine J_condF rfl ?_
          refine J_seq ?_
          refine js ?_
          refine JR.runB rfl rfl (r_eqI rfl rfl rfl rfl) ?_ ?_
          · intro h17
            replace h17 := of_decide_eq_true h17
            refine u rfl rfl asg ?_
            refine jd ?_
            refine w7 1 2 3 5 16 2001 2002 ?_
            refine J_condT rfl ?_
            refine J_skip ?_
            refine J_condT rfl ?_
            refine js ?_
            refine u rfl rfl (r_build (zs := [.bool false, .bool false, .bool false, .bool false, .bool false, .bool false, .bool false, .bool false, .int .i64 0]) (qs := [(0, 1), (1, 1), (2, 1), (3, 1), (4, 1), (5, 1), (6, 1), (7, 1), (8, 1)]) [.lit (.bool false), .lit (.bool false), .lit (.bool false), .lit (.bool false), .lit (.bool false), .lit (.bool false), .lit (.bool false), .lit (.bool false), .lit (.int .i64 0)] rfl rfl (by kernel_rfl) (by kernel_rfl) ⟨.refl _, .refl _, .refl _, .refl _, .refl _, .refl _, .refl _, .refl _, .refl _, trivial⟩ rfl rfl) ?_
            refine u rfl rfl sA ?_
            refine u rfl rfl asg ?_
            refine jd ?_
            refine w3 2 3 2002 ?_
            refine J_ret ?_
            subst hM
            refine ⟨.inl rfl, _, rfl, .of ?_, trivial⟩
            first | (simp [*, shR, shD]; done) | (simp [*, shR, shD]; rfl) | (simp_all [shR, shD]; done) | (simp_all [shR, shD]; omega)
          · intro h17
            replace h17 := of_decide_eq_false h17
            refine u rfl rfl asg ?_
            refine jd ?_
            refine w7 1 2 3 5 16 2001 2002 ?_
            refine J_condF rfl ?_
            refine JR.start ?_
            refine JR.runB rfl rfl (r_eqI rfl rfl rfl rfl) ?_ ?_
            · intro h18
              replace h18 := of_decide_eq_true h18
              refine u rfl rfl asg ?_
              refine jd ?_
              refine w7 1 2 3 5 16 2001 2002 ?_
              refine J_condT rfl ?_
              refine js ?_
              refine u rfl rfl (r_build (zs := [.bool false, .bool false, .bool false, .bool false, .bool false, .bool false, .bool false, .bool false, .int .i64 0]) (qs := [(0, 1), (1, 1), (2, 1), (3, 1), (4, 1), (5, 1), (6, 1), (7, 1), (8, 1)]) [.lit (.bool false), .lit (.bool false), .lit (.bool false), .lit (.bool false), .lit (.bool false), .lit (.bool false), .lit (.bool false), .lit (.bool false), .lit (.int .i64 0)] rfl rfl (by kernel_rfl) (by kernel_rfl) ⟨.refl _, .refl _, .refl _, .refl _, .refl _, .refl _, .refl _, .refl _, .refl _, trivial⟩ rfl rfl) ?_
              refine u rfl rfl sA ?_
              refine u rfl rfl asg ?_
              refine jd ?_
              refine w3 2 3 2002 ?_
              refine J_ret ?_
              subst hM
              refine ⟨.inl rfl, _, rfl, .of ?_, trivial⟩
              first | (simp [*, shR, shD]; done) | (simp [*, shR, shD]; rfl) | (simp_all [shR, shD]; done) | (simp_all [shR, shD]; omega)
            · intro h18
              replace h18 := of_decide_eq_false h18
              refine u rfl rfl asg ?_
              refine jd ?_
              refine w7 1 2 3 5 16 2001 2002 ?_
              refine J_condF rfl ?_
              refine J_seq ?_
              refine js ?_
              refine JR.runB rfl rfl (r_eqI rfl rfl rfl rfl) ?_ ?_
              · intro h21
                replace h21 := of_decide_eq_true h21
                refine u rfl rfl asg ?_
                refine jd ?_
                refine w7 1 2 3 5 20 2001 2002 ?_
                refine J_condT rfl ?_
                refine J_skip ?_
                refine J_condT rfl ?_
                refine js ?_
                refine u rfl rfl (r_build (zs := [.bool false, .bool false, .bool false, .bool false, .bool false, .bool false, .bool false, .bool false, .int .i64 0]) (qs := [(0, 1), (1, 1), (2, 1), (3, 1), (4, 1), (5, 1), (6, 1), (7, 1), (8, 1)]) [.lit (.bool false), .lit (.bool false), .lit (.bool false), .lit (.bool false), .lit (.bool false), .lit (.bool false), .lit (.bool false), .lit (.bool false), .lit (.int .i64 0)] rfl rfl (by kernel_rfl) (by kernel_rfl) ⟨.refl _, .refl _, .refl _, .refl _, .refl _, .refl _, .refl _, .refl _, .refl _, trivial⟩ rfl rfl) ?_
                refine u rfl rfl sA ?_
                refine u rfl rfl asg ?_
                refine jd ?_
                refine w3 2 3 2002 ?_
                refine J_ret ?_
                subst hM
                refine ⟨.inl rfl, _, rfl, .of ?_, trivial⟩
                first | (simp [*, shR, shD]; done) | (simp [*, shR, shD]; rfl) | (simp_all [shR, shD]; done) | (simp_all [shR, shD]; omega)
              · intro h21
                replace h21 := of_decide_eq_false h21
                refine u rfl rfl asg ?_
                refine jd ?_
                refine w7 1 2 3 5 20 2001 2002 ?_
                refine J_condF rfl ?_
                refine js ?_
                refine JR.runB rfl rfl (r_eqI rfl rfl rfl rfl) ?_ ?_
                · intro h22
                  replace h22 := of_decide_eq_true h22
                  refine u rfl rfl asg ?_
                  refine jd ?_
                  refine w7 1 2 3 5 20 2001 2002 ?_
                  refine J_condT rfl ?_
                  refine J_skip ?_
                  refine J_condT rfl ?_
                  refine js ?_
                  refine u rfl rfl (r_build (zs := [.bool false, .bool false, .bool false, .bool false, .bool false, .bool false, .bool false, .bool false, .int .i64 0]) (qs := [(0, 1), (1, 1), (2, 1), (3, 1), (4, 1), (5, 1), (6, 1), (7, 1), (8, 1)]) [.lit (.bool false), .lit (.bool false), .lit (.bool false), .lit (.bool false), .lit (.bool false), .lit (.bool false), .lit (.bool false), .lit (.bool false), .lit (.int .i64 0)] rfl rfl (by kernel_rfl) (by kernel_rfl) ⟨.refl _, .refl _, .refl _, .refl _, .refl _, .refl _, .refl _, .refl _, .refl _, trivial⟩ rfl rfl) ?_
                  refine u rfl rfl sA ?_
                  refine u rfl rfl asg ?_
                  refine jd ?_
                  refine w3 2 3 2002 ?_
                  refine J_ret ?_
                  subst hM
                  refine ⟨.inl rfl, _, rfl, .of ?_, trivial⟩
                  first | (simp [*, shR, shD]; done) | (simp [*, shR, shD]; rfl) | (simp_all [shR, shD]; done) | (simp_all [shR, shD]; omega)
                · intro h22
                  replace h22 := of_decide_eq_false h22
                  refine u rfl rfl asg ?_
                  refine jd ?_
                  refine w7 1 2 3 5 20 2001 2002 ?_
                  refine J_condF rfl ?_
                  refine JR.start ?_
                  refine JR.runB rfl rfl (r_eqI rfl rfl rfl rfl) ?_ ?_
                  · intro h23
                    replace h23 := of_decide_eq_true h23
                    refine u rfl rfl asg ?_
                    refine jd ?_
                    refine w7 1 2 3 5 20 2001 2002 ?_
                    refine J_condT rfl ?_
                    refine js ?_
                    refine u rfl rfl (r_build (zs := [.bool false, .bool false, .bool false, .bool false, .bool false, .bool false, .bool false, .bool false, .int .i64 0]) (qs := [(0, 1), (1, 1), (2, 1), (3, 1), (4, 1), (5, 1), (6, 1), (7, 1), (8, 1)]) [.lit (.bool false), .lit (.bool false), .lit (.bool false), .lit (.bool false), .lit (.bool false), .lit (.bool false), .lit (.bool false), .lit (.bool false), .lit (.int .i64 0)] rfl rfl (by kernel_rfl) (by kernel_rfl) ⟨.refl _, .refl _, .refl _, .refl _, .refl _, .refl _, .refl _, .refl _, .refl _, trivial⟩ rfl rfl) ?_
                    refine u rfl rfl sA ?_
                    refine u rfl rfl asg ?_
                    refine jd ?_
                    refine w3 2 3 2002 ?_
                    refine J_ret ?_
                    subst hM
                    refine ⟨.inl rfl, _, rfl, .of ?_, trivial⟩
                    first | (simp [*, shR, shD]; done) | (simp [*, shR, shD]; rfl) | (simp_all [shR, shD]; done) | (simp_all [shR, shD]; omega)
                  · intro h23
                    replace h23 := of_decide_eq_false h23
                    refine u rfl rfl asg ?_
                    refine jd ?_
                    refine w7 1 2 3 5 20 2001 2002 ?_
                    refine J_condF rfl ?_
                    refine js ?_
                    refine JR.runB rfl rfl (r_eqI rfl rfl rfl rfl) ?_ ?_
                    · intro h26
                      replace h26 := of_decide_eq_true h26
                      refine u rfl rfl asg ?_
                      refine jd ?_
                      refine w7 1 2 3 5 25 2001 2002 ?_
                      refine J_condT rfl ?_
                      refine js ?_
                      refine u rfl rfl (r_build (zs := [.bool false, .bool false, .bool false, .bool false, .bool false, .bool false, .bool false, .bool false, .int .i64 0]) (qs := [(0, 1), (1, 1), (2, 1), (3, 1), (4, 1), (5, 1), (6, 1), (7, 1), (8, 1)]) [.lit (.bool false), .lit (.bool false), .lit (.bool false), .lit (.bool false), .lit (.bool false), .lit (.bool false), .lit (.bool false), .lit (.bool false), .lit (.int .i64 0)] rfl rfl (by kernel_rfl) (by kernel_rfl) ⟨.refl _, .refl _, .refl _, .refl _, .refl _, .refl _, .refl _, .refl _, .refl _, trivial⟩ rfl rfl) ?_
                      refine u rfl rfl sA ?_
                      refine u rfl rfl asg ?_
                      refine jd ?_
                      refine w3 2 3 2002 ?_
                      refine J_ret ?_
                      subst hM
                      refine ⟨.inl rfl, _, rfl, .of ?_, trivial⟩
                      first | (simp [*, shR, shD]; done) | (simp [*, shR, shD]; rfl) | (simp_all [shR, shD]; done) | (simp_all [shR, shD]; omega)
                    · intro h26
                      replace h26 := of_decide_eq_false h26
                      refine u rfl rfl asg ?_
                      refine jd ?_
                      refine w7 1 2 3 5 25 2001 2002 ?_
                      refine J_condF rfl ?_
                      refine js ?_
                      refine JR.runB rfl rfl (r_eqI rfl rfl rfl rfl) ?_ ?_
                      · intro h29
                        replace h29 := of_decide_eq_true h29
                        refine u rfl rfl asg ?_
                        refine jd ?_
                        refine w7 1 2 3 5 28 2001 2002 ?_
                        refine J_condT rfl ?_
                        refine js ?_
                        refine u rfl rfl (r_build (zs := [.bool false, .bool false, .bool false, .bool false, .bool false, .bool false, .bool false, .bool false, .int .i64 0]) (qs := [(0, 1), (1, 1), (2, 1), (3, 1), (4, 1), (5, 1), (6, 1), (7, 1), (8, 1)]) [.lit (.bool false), .lit (.bool false), .lit (.bool false), .lit (.bool false), .lit (.bool false), .lit (.bool false), .lit (.bool false), .lit (.bool false), .lit (.int .i64 0)] rfl rfl (by kernel_rfl) (by kernel_rfl) ⟨.refl _, .refl _, .refl _, .refl _, .refl _, .refl _, .refl _, .refl _, .refl _, trivial⟩ rfl rfl) ?_
                        refine u rfl rfl sA ?_
                        refine u rfl rfl asg ?_
                        refine jd ?_
                        refine w3 2 3 2002 ?_
                        refine J_ret ?_
                        subst hM
                        refine ⟨.inl rfl, _, rfl, .of ?_, trivial⟩
                        first | (simp [*, shR, shD]; done) | (simp [*, shR, shD]; rfl) | (simp_all [shR, shD]; done) | (simp_all [shR, shD]; omega)
                      · intro h29
                        replace h29 := of_decide_eq_false h29
                        refine u rfl rfl asg ?_
                        refine jd ?_
                        refine w7 1 2 3 5 28 2001 2002 ?_
                        refine J_condF rfl ?_
                        refine js ?_
                        refine JR.runB rfl rfl (r_eqI rfl rfl rfl rfl) ?_ ?_
                        · intro h32
                          replace h32 := of_decide_eq_true h32
                          refine u rfl rfl asg ?_
                          refine jd ?_
                          refine w7 1 2 3 5 31 2001 2002 ?_
                          refine J_condT rfl ?_
                          refine js ?_
                          refine u rfl rfl (r_build (zs := [.bool false, .bool false, .bool false, .bool false, .bool false, .bool false, .bool false, .bool false, .int .i64 0]) (qs := [(0, 1), (1, 1), (2, 1), (3, 1), (4, 1), (5, 1), (6, 1), (7, 1), (8, 1)]) [.lit (.bool false), .lit (.bool false), .lit (.bool false), .lit (.bool false), .lit (.bool false), .lit (.bool false), .lit (.bool false), .lit (.bool false), .lit (.int .i64 0)] rfl rfl (by kernel_rfl) (by kernel_rfl) ⟨.refl _, .refl _, .refl _, .refl _, .refl _, .refl _, .refl _, .refl _, .refl _, trivial⟩ rfl rfl) ?_
                          refine u rfl rfl sA ?_
                          refine u rfl rfl asg ?_
                          refine jd ?_
                          refine w3 2 3 2002 ?_
                          refine J_ret ?_
                          subst hM
                          refine ⟨.inl rfl, _, rfl, .of ?_, trivial⟩
                          first | (simp [*, shR, shD]; done) | (simp [*, shR, shD]; rfl) | (simp_all [shR, shD]; done) | (simp_all [shR, shD]; omega)
                        · intro h32
                          replace h32 := of_decide_eq_false h32
                          refine u rfl rfl asg ?_
                          refine jd ?_
                          refine w7 1 2 3 5 31 2001 2002 ?_
                          refine J_condF rfl ?_
                          refine js ?_
                          refine JR.runB rfl rfl (r_eqI rfl rfl rfl rfl) ?_ ?_
                          · intro h35
                            replace h35 := of_decide_eq_true h35
                            refine u rfl rfl asg ?_
                            refine jd ?_
                            refine w7 1 2 3 5 34 2001 2002 ?_
                            refine J_condT rfl ?_
                            refine js ?_
                            refine u rfl rfl (r_build (zs := [.bool false, .bool false, .bool false, .bool false, .bool false, .bool false, .bool false, .bool false, .int .i64 0]) (qs := [(0, 1), (1, 1), (2, 1), (3, 1), (4, 1), (5, 1), (6, 1), (7, 1), (8, 1)]) [.lit (.bool false), .lit (.bool false), .lit (.bool false), .lit (.bool false), .lit (.bool false), .lit (.bool false), .lit (.bool false), .lit (.bool false), .lit (.int .i64 0)] rfl rfl (by kernel_rfl) (by kernel_rfl) ⟨.refl _, .refl _, .refl _, .refl _, .refl _, .refl _, .refl _, .refl _, .refl _, trivial⟩ rfl rfl) ?_
                            refine u rfl rfl sA ?_
                            refine u rfl rfl asg ?_
                            refine jd ?_
                            refine w3 2 3 2002 ?_
                            refine J_ret ?_
                            subst hM
                            refine ⟨.inl rfl, _, rfl, .of ?_, trivial⟩
                            first | (simp [*, shR, shD]; done) | (simp [*, shR, shD]; rfl) | (simp_all [shR, shD]; done) | (simp_all [shR, shD]; omega)
                          · intro h35
                            replace h35 := of_decide_eq_false h35
                            refine u rfl rfl asg ?_
                            refine jd ?_
                            refine w7 1 2 3 5 34 2001 2002 ?_
                            refine J_condF rfl ?_
                            refine js ?_
                            refine JR.runB rfl rfl (r_eqI rfl rfl rfl rfl) ?_ ?_
                            · intro h38
                              replace h38 := of_decide_eq_true h38
                              refine u rfl rfl asg ?_
                              refine jd ?_
                              refine w7 1 2 3 5 37 2001 2002 ?_
                              refine J_condT rfl ?_
                              refine js ?_
                              refine u rfl rfl (fA 14 1) ?_
                              refine u rfl rfl ld ?_
                              refine u rfl rfl ln0 ?_
                              refine u rfl rfl (r_addI rfl rfl rfl rfl (by omega)) ?_
                              refine u rfl rfl (r_build (zs := [.bool false, .bool false, .bool false, .bool false, .bool false, .bool false, .bool false, .bool false, .int .i64 0]) (qs := [(0, 1), (1, 1), (2, 1), (3, 1), (4, 1), (5, 1), (6, 1), (7, 1), (8, 1)]) [.lit (.bool false), .lit (.bool false), .lit (.bool false), .lit (.bool false), .lit (.bool false), .lit (.bool false), .lit (.bool false), .lit (.bool false), .lit (.int .i64 0)] rfl rfl (by kernel_rfl) (by kernel_rfl) ⟨.refl _, .refl _, .refl _, .refl _, .refl _, .refl _, .refl _, .refl _, .refl _, trivial⟩ rfl rfl) ?_
                              refine u rfl rfl (fA 14 1) ?_
                              refine u rfl rfl ld ?_
                              refine u rfl rfl ln0 ?_
                              refine JR.runB rfl rfl (r_gtI rfl rfl rfl rfl) ?_ ?_
                              · intro h47
                                replace h47 := of_decide_eq_true h47
                                refine u rfl rfl sA ?_
                                refine u rfl rfl asg ?_
                                refine jD [0, 1, 3, 7, 15, 0, 32, 96, 224, 31, 1023] ?_
                                refine w3 2 3 2002 ?_
                                refine J_ret ?_
                                subst hM
                                refine ⟨.inl rfl, _, rfl, .of ?_, trivial⟩
                                first | (simp [*, shR, shD]; done) | (simp [*, shR, shD]; rfl) | (simp_all [shR, shD]; done) | (simp_all [shR, shD]; omega)
                              · intro h47
                                replace h47 := of_decide_eq_false h47
                                refine u rfl rfl sA ?_
                                refine u rfl rfl asg ?_
                                refine jD [0, 1, 3, 7, 15, 0, 32, 96, 224, 31, 1023] ?_
                                refine w3 2 3 2002 ?_
                                refine J_ret ?_
                                subst hM
                                refine ⟨.inl rfl, _, rfl, .of ?_, trivial⟩
                                first | (simp [*, shR, shD]; done) | (simp [*, shR, shD]; rfl) | (simp_all [shR, shD]; done) | (simp_all [shR, shD]; omega)
                            · intro h38
                              replace h38 := of_decide_eq_false h38
                              refine u rfl rfl asg ?_
                              refine jd ?_
                              refine w7 1 2 3 5 37 2001 2002 ?_
                              refine J_condF rfl ?_
                              refine js ?_
                              refine JR.runB rfl rfl (r_eqI rfl rfl rfl rfl) ?_ ?_
                              · intro h49
                                replace h49 := of_decide_eq_true h49
                                refine u rfl rfl asg ?_
                                refine jd ?_
                                refine w5 2 3 5 48 2002 ?_
                                refine J_condT rfl ?_
                                refine js ?_
                                refine u rfl rfl (r_build (zs := [.bool false, .bool false, .bool false, .bool false, .bool false, .bool false, .bool false, .bool false, .int .i64 0]) (qs := [(0, 1), (1, 1), (2, 1), (3, 1), (4, 1), (5, 1), (6, 1), (7, 1), (8, 1)]) [.lit (.bool false), .lit (.bool false), .lit (.bool false), .lit (.bool false), .lit (.bool false), .lit (.bool false), .lit (.bool false), .lit (.bool false), .lit (.int .i64 0)] rfl rfl (by kernel_rfl) (by kernel_rfl) ⟨.refl _, .refl _, .refl _, .refl _, .refl _, .refl _, .refl _, .refl _, .refl _, trivial⟩ rfl rfl) ?_
                                refine u rfl rfl sA ?_
                                refine u rfl rfl asg ?_
                                refine jd ?_
                                refine w3 2 3 2002 ?_
                                refine J_ret ?_
                                subst hM
                                refine ⟨.inl rfl, _, rfl, .of ?_, trivial⟩
                                first | (simp [*, shR, shD]; done) | (simp [*, shR, shD]; rfl) | (simp_all [shR, shD]; done) | (simp_all [shR, shD]; omega)
                              · intro h49
                                replace h49 := of_decide_eq_false h49
                                refine u rfl rfl asg ?_
                                refine jd ?_
                                refine w5 2 3 5 48 2002 ?_
                                refine J_condF rfl ?_
                                refine js ?_
                                refine JR.runB rfl rfl (r_eqI rfl rfl rfl rfl) ?_ ?_
                                · intro h52
                                  replace h52 := of_decide_eq_true h52
                                  refine u rfl rfl asg ?_
                                  refine jd ?_
                                  refine w4 2 3 51 2002 ?_
                                  refine J_condT rfl ?_
                                  refine js ?_
                                  refine u rfl rfl (r_build (zs := [.bool false, .bool false, .bool false, .bool false, .bool false, .bool false, .bool false, .bool false, .int .i64 0]) (qs := [(0, 1), (1, 1), (2, 1), (3, 1), (4, 1), (5, 1), (6, 1), (7, 1), (8, 1)]) [.lit (.bool false), .lit (.bool false), .lit (.bool false), .lit (.bool false), .lit (.bool false), .lit (.bool false), .lit (.bool false), .lit (.bool false), .lit (.int .i64 0)] rfl rfl (by kernel_rfl) (by kernel_rfl) ⟨.refl _, .refl _, .refl _, .refl _, .refl _, .refl _, .refl _, .refl _, .refl _, trivial⟩ rfl rfl) ?_
                                  refine u rfl rfl sA ?_
                                  refine u rfl rfl asg ?_
                                  refine jd ?_
                                  refine w3 2 3 2002 ?_
                                  refine J_ret ?_
                                  subst hM
                                  refine ⟨.inl rfl, _, rfl, .of ?_, trivial⟩
                                  first | (simp [*, shR, shD]; done) | (simp [*, shR, shD]; rfl) | (simp_all [shR, shD]; done) | (simp_all [shR, shD]; omega)
                                · intro h52
                                  replace h52 := of_decide_eq_false h52
                                  refine u rfl rfl asg ?_
                                  refine jd ?_
                                  refine w4 2 3 51 2002 ?_
                                  refine J_condF rfl ?_
                                  refine J_skip ?_
                                  refine js ?_
                                  refine u rfl rfl (r_build (zs := [.bool false, .bool false, .bool false, .bool false, .bool false, .bool false, .bool false, .bool false, .int .i64 0]) (qs := [(0, 1), (1, 1), (2, 1), (3, 1), (4, 1), (5, 1), (6, 1), (7, 1), (8, 1)]) [.lit (.bool false), .lit (.bool false), .lit (.bool false), .lit (.bool false), .lit (.bool false), .lit (.bool false), .lit (.bool false), .lit (.bool false), .lit (.int .i64 0)] rfl rfl (by kernel_rfl) (by kernel_rfl) ⟨.refl _, .refl _, .refl _, .refl _, .refl _, .refl _, .refl _, .refl _, .refl _, trivial⟩ rfl rfl) ?_
                                  refine u rfl rfl sA ?_
                                  refine u rfl rfl asg ?_
                                  refine jd ?_
                                  refine w3 2 3 2002 ?_
                                  refine J_ret ?_
                                  subst hM
                                  refine ⟨.inl rfl, _, rfl, .of ?_, trivial⟩
                                  first | (simp [*, shR, shD]; done) | (simp [*, shR, shD]; rfl) | (simp_all [shR, shD]; done) | (simp_all [shR, shD]; omega)

end Go.Proofs.Ytlagglkpbnbmeaa
