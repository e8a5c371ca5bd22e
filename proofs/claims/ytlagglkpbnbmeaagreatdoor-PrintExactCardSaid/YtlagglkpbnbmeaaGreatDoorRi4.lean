/- The program's tree: what is right of one expression. -/
import Derived.Test.YtlagglkpbnbmeaaGreatDoorShC
import Derived.Test.YtlagglkpbnbmeaaGreatDoorShZ
import Derived.Test.YtlagglkpbnbmeaaGreatDoorRi3
namespace Go.Proofs.YtlagglkpbnbmeaaGreatDoor
open Go Go.RowKit
set_option maxRecDepth 100000
set_option maxHeartbeats 4000000
set_option linter.unusedVariables false
set_option linter.unusedSimpArgs false

theorem tys_at3 {l : List Ty} {k : Nat} {x : Ty} (h : l[k]? = some x) : (tysD l)[((k : Nat) : Int).toNat]? = some (tyX x) := by rw [← tyX_eq]; exact tysD_get (by simpa using h)
theorem tWithout (q : Int) : ∀ (m : Nat) (t : Ty), m ≤ 1000000000 → t.size ≤ m → Con Tryz.prog 142 [.agg (tyX t), .c (.lit (.int .i64 q))] [] (.c (.lit (.bool (mWithout q t)))) []
  | 0, t, _, h => absurd t.size_pos (by omega)
  | m + 1, t, hm, h => by
    have hk := t.kids_lt; have hl := tysD_len (t.kids); refine gg [38,5,22,2002,1,0,9,4,2002,4,2,1,31,5,6,0,1,7,2] ?_; refine bE ?_ ?_
    · intro h10; refine gg [0,9,5,2002,10,4,2,1,32,5,1,0,9,4,2002,4,2,1,33] ?_; refine ⟨.inl rfl, _, rfl, .ofB ?_, trivial⟩; rw [mWithout_eq, decide_eq_true h10]
      rfl
    intro h10; refine gg [0,9,5,2002,10,4,2,1,8,34,31,5,6,2,1,7,18,2,0,9,5,14,13,12,4,1,35] ?_; refine J_loopF (α := { i : Nat // i ≤ t.kids.length ∧ mWithouts q t.kids = mWithouts q (t.kids.drop i) }) (fun p => [(14, .c (.lit (.int .i64 (p.1 : Int))))]) [(1, _), (4, _), (12, _), (13, _)] (fun p => t.kids.length - p.1) ⟨0, Nat.zero_le _, rfl⟩ ⟨rfl, rfl, rfl, rfl, rfl, trivial⟩ ?_; rintro ⟨i, hi, hI⟩; dsimp only; refine js ?_; refine bL ?_ ?_
    · intro h15; obtain ⟨x, hx⟩ := get_some (l := t.kids) (i := i) (by omega); have hxs := Ty.kid_lt' hx; refine gg [0,9,6,15,14,13,12,4,1,31,32,34,31,35,5] ?_; refine u rfl rfl (r_indexAddr (e := 26) (sz := 3) rfl rfl (by kernel_rfl) rfl rfl (by omega) (tys_at3 hx)) ?_; refine gg [21,3,25,2006,10,0,9,10,2006,17,16,15,14,13,12,6,4,1,5,20,3,2] ?_; refine JR.runC rfl rfl (cl (tWithout q m x (by omega) (by omega))) rfl ?_ ?_
      · intro h20; refine gg [15,0,9,14,2006,21,20,19,18,17,16,15,14,13,12,6,4,1,8,34,37,27,2,0] ?_; refine ⟨⟨i + 1, by omega, by rw [hI, drop_get hx, mWithouts, h20, Bool.true_and]⟩, by simp only; omega, rfl, rfl, rfl, rfl, rfl, trivial⟩
      intro h20; refine gg [15,0,9,14,2006,21,20,19,18,17,16,15,14,13,12,6,4,1,32,5,1,0,9,14,2006,21,20,19,18,17,16,15,14,13,12,6,4,1,33] ?_; refine ⟨.inl rfl, _, rfl, .ofB ?_, trivial⟩; rw [mWithout_eq, hI, drop_get hx, mWithouts, h20, Bool.false_and, Bool.and_false]
    intro h15; refine gg [0,9,6,15,14,13,12,4,1,31,8,36,5,1,0,9,1,4,33] ?_; refine ⟨.inl rfl, _, rfl, .ofB ?_, trivial⟩; rw [mWithout_eq, hI, List.drop_eq_nil_of_le (by omega), mWithouts, Bool.and_true, decide_eq_false h10]
    rfl

theorem tClosed (t : Ty) (h : t.size ≤ 1000000000) : Con Tryz.prog 128 [.agg (tyX t)] [] (.c (.lit (.bool (mWithout 6 t)))) [] := by
  refine gg [38,5,22,2001,1,0,9,3,2001,2,1,5,20,3] ?_; refine gc (tWithout 6 1000000000 t (by omega) h) [1,0,9,1,2,33] ?_; exact ⟨.inl rfl, _, rfl, .refl _, trivial⟩

def mNone (t : Ty) : Bool := decide (t.kind = 0) && decide (t.num = 0) && decide (t.kids.length = 0)
def mClosed (t : Ty) : Bool := mRight t && mWithout 6 t
theorem tNone (t : Ty) : Con Tryz.prog 97 [.agg (tyX t)] [] (.c (.lit (.bool (mNone t)))) [] := by
  have hl := tysD_len (t.kids); refine gg [38,5,22,2001,1,0,9,3,2001,2,1,5,6,0,1,7] ?_; refine bE ?_ ?_
  · intro h5; refine gg [2,6,1,1,7] ?_; refine bE ?_ ?_
    · intro h9; refine gg [16,2,6,2,1,7,18] ?_; refine bE ?_ ?_
      · intro h15; refine gg [16,1,0,9,1,2,33] ?_; refine ⟨.inl rfl, _, rfl, .ofB ?_, trivial⟩; first | (simp_all [mNone, tyX]; done) | (simp_all [mNone, tyX]; omega)
      intro h15; refine gg [16,1,0,9,1,2,33] ?_; refine ⟨.inl rfl, _, rfl, .ofB ?_, trivial⟩; first | (simp_all [mNone, tyX]; done) | (simp_all [mNone, tyX]; omega)
    intro h9; refine gg [16,2,39,4,17,1,0,9,1,2,33] ?_; refine ⟨.inl rfl, _, rfl, .ofB ?_, trivial⟩; first | (simp_all [mNone, tyX]; done) | (simp_all [mNone, tyX]; omega)
  intro h5; refine gg [2,39,3,17,2,39,4,17,1,0,9,1,2,33] ?_; refine ⟨.inl rfl, _, rfl, .ofB ?_, trivial⟩; first | (simp_all [mNone, tyX]; done) | (simp_all [mNone, tyX]; omega)

theorem tClosedA (t : Ty) (h : t.size ≤ 1000000000) : Con Tryz.prog 98 [.agg (tyX t)] [] (.c (.lit (.bool (mClosed t)))) [] := by
  have hck := kCheck t h; refine gg [38,5,22,2001,1,0,9,3,2001,2,1,5,20,3] ?_
  rcases hr : mRight t with _ | _
  · rw [hr] at hck; refine gc (hck) [26,2,3,3,17,1,0,9,1,2,33] ?_; refine ⟨.inl rfl, _, rfl, .ofB ?_, trivial⟩; first | (simp_all [mClosed]; done) | (unfold mClosed; rw [hr]; simp_all)
  rw [hr] at hck; refine gc (hck) [26,2,20,3] ?_; refine JR.runC rfl rfl (cl (tClosed t h)) rfl ?_ ?_
  · intro h8; refine gg [16,1,0,9,1,2,33] ?_; refine ⟨.inl rfl, _, rfl, .ofB ?_, trivial⟩; first | (simp_all [mClosed]; done) | (unfold mClosed; rw [hr]; simp_all)
  intro h8; refine gg [16,1,0,9,1,2,33] ?_; refine ⟨.inl rfl, _, rfl, .ofB ?_, trivial⟩; first | (simp_all [mClosed]; done) | (unfold mClosed; rw [hr]; simp_all)

structure Shp where
  name : Bool
  arg : Bool
  n : Bool
  s : Bool
  op : Bool
  a : Bool
  b : Bool
  must : Bool
  kids : Int
  ok : Bool
def shOf (e : Ex) : Shp := if e.kind = 1 then ⟨true, false, false, false, false, false, false, false, 0, true⟩ else if e.kind = 2 ∨ e.kind = 3 then ⟨false, false, true, false, false, false, false, false, 0, true⟩ else if e.kind = 4 then ⟨false, false, false, true, false, false, false, false, 0, true⟩ else if e.kind = 5 ∨ e.kind = 7 then ⟨false, false, false, false, false, false, false, false, 0, true⟩ else if e.kind = 6 ∨ e.kind = 8 ∨ e.kind = 10 then ⟨false, false, false, false, false, false, false, false, 2, true⟩ else if e.kind = 9 then ⟨true, false, false, false, false, true, false, false, 1, true⟩ else if e.kind = 11 then ⟨true, false, false, false, false, true, false, false, 2, true⟩ else if e.kind = 12 then ⟨true, true, false, false, false, true, true, false, 2, true⟩ else if e.kind = 13 then ⟨false, false, false, false, false, false, false, false, 3, true⟩ else if e.kind = 14 then ⟨false, false, false, false, false, false, false, false, ((e.pats.length : Int) + 1), decide (0 < e.pats.length)⟩ else if e.kind = 15 then ⟨false, false, false, false, false, true, false, true, 1, true⟩ else if e.kind = 16 then ⟨false, false, false, false, true, false, false, false, 2, true⟩ else ⟨false, false, false, false, false, false, false, false, 0, false⟩
def shD (s : Shp) : List D := [.lit (.bool s.name), .lit (.bool s.arg), .lit (.bool s.n), .lit (.bool s.s), .lit (.bool s.op), .lit (.bool s.a), .lit (.bool s.b), .lit (.bool s.must), .lit (.int .i64 s.kids)]
def shR (s : Shp) : F := .tup [.agg (shD s), .c (.lit (.bool s.ok))]

theorem r_addW {P : Program} {o : Oper} {d : Nat} {l : List (Nat × F)} {T T' : TypeId} {x y : Operand} {i j : Int} (ho : o.op = .binOp .add T x y T') (hd : o.dst = some d) (hx : opd l x = some (.c (.lit (.int .i64 i)))) (hy : opd l y = some (.c (.lit (.int .i64 j)))) :
    Does P o (rdOf x ++ rdOf y) [] l [(d, .c (.lit (.int .i64 (IntKind.i64.wrap (i + j)))))] :=
  r_bin ho hd hx hy rfl fun w => by simp [eqGuard, binOp, Op.intArith]
def shW (e : Ex) : Shp := ⟨(shOf e).name, (shOf e).arg, (shOf e).n, (shOf e).s, (shOf e).op, (shOf e).a, (shOf e).b, (shOf e).must, IntKind.i64.wrap (shOf e).kids, (shOf e).ok⟩
theorem wrp0 : IntKind.i64.wrap 0 = 0 := rfl
theorem wrp1 : IntKind.i64.wrap 1 = 1 := rfl
theorem wrp2 : IntKind.i64.wrap 2 = 2 := rfl
theorem wrp3 : IntKind.i64.wrap 3 = 3 := rfl
theorem shOf_kids (e : Ex) : 0 ≤ (shOf e).kids ∧ ((shOf e).kids ≤ 3 ∨ (shOf e).kids = (e.pats.length : Int) + 1) := by
  unfold shOf
  by_cases c : e.kind = 1
  · rw [if_pos c]; dsimp only; omega
  rw [if_neg c]; clear c
  by_cases c : e.kind = 2 ∨ e.kind = 3
  · rw [if_pos c]; dsimp only; omega
  rw [if_neg c]; clear c
  by_cases c : e.kind = 4
  · rw [if_pos c]; dsimp only; omega
  rw [if_neg c]; clear c
  by_cases c : e.kind = 5 ∨ e.kind = 7
  · rw [if_pos c]; dsimp only; omega
  rw [if_neg c]; clear c
  by_cases c : e.kind = 6 ∨ e.kind = 8 ∨ e.kind = 10
  · rw [if_pos c]; dsimp only; omega
  rw [if_neg c]; clear c
  by_cases c : e.kind = 9
  · rw [if_pos c]; dsimp only; omega
  rw [if_neg c]; clear c
  by_cases c : e.kind = 11
  · rw [if_pos c]; dsimp only; omega
  rw [if_neg c]; clear c
  by_cases c : e.kind = 12
  · rw [if_pos c]; dsimp only; omega
  rw [if_neg c]; clear c
  by_cases c : e.kind = 13
  · rw [if_pos c]; dsimp only; omega
  rw [if_neg c]; clear c
  by_cases c : e.kind = 14
  · rw [if_pos c]; dsimp only; omega
  rw [if_neg c]; clear c
  by_cases c : e.kind = 15
  · rw [if_pos c]; dsimp only; omega
  rw [if_neg c]; clear c
  by_cases c : e.kind = 16
  · rw [if_pos c]; dsimp only; omega
  rw [if_neg c]; clear c; dsimp only; omega
theorem wrap_top {x : Int} (h0 : 0 ≤ x) (h : x ≤ 9223372036854775808) : IntKind.i64.wrap x = x ∨ (x = 9223372036854775808 ∧ IntKind.i64.wrap x = -9223372036854775808) := by
  by_cases hx : x = 9223372036854775808
  · subst hx; exact .inr ⟨rfl, rfl⟩
  exact .inl (IntWalk.i64_in _ (by omega))
theorem shW_kids {e : Ex} {m : Nat} (hm : m ≤ 1000000000) (hp : e.pats.length ≤ 9223372036854775807) : ((m : Int) ≠ (shW e).kids) = ((m : Int) ≠ (shOf e).kids) := by
  obtain ⟨h0, h1⟩ := shOf_kids e; have h2 := wrap_top h0 (by omega)
  show ((m : Int) ≠ IntKind.i64.wrap (shOf e).kids) = _
  apply propext
  omega
theorem tShape (e : Ex) (he : e.pats.length ≤ 9223372036854775807) : Con Tryz.prog 95 [.agg (exX e)] [] (shR (shW e)) [] := by
  have hl := pasD_len3 e.pats; unfold shW
  generalize hM : shOf e = M
  unfold shOf at hM; refine gg [38,5,22,2001] ?_; refine u rfl rfl (r_alloc (x := 2002) (zs := [.bool false, .bool false, .bool false, .bool false, .bool false, .bool false, .bool false, .bool false, .int .i64 0]) [.lit (.bool false), .lit (.bool false), .lit (.bool false), .lit (.bool false), .lit (.bool false), .lit (.bool false), .lit (.bool false), .lit (.bool false), .lit (.int .i64 0)] rfl rfl rfl (by kernel_rfl) ⟨.refl _, .refl _, .refl _, .refl _, .refl _, .refl _, .refl _, .refl _, .refl _, trivial⟩) ?_; refine gg [1,0,9,5,2002,2001,3,2,1,31,5,6,0,1,7,0,9,6,2002,2001,5,3,2,1,35,5] ?_; refine bE ?_ ?_
  · intro h7; refine gg [1,0,9,7,2002,2001,6,5,3,2,1,32,5] ?_; refine u rfl rfl (r_build (zs := [.bool false, .bool false, .bool false, .bool false, .bool false, .bool false, .bool false, .bool false, .int .i64 0]) (qs := [(0, 1), (1, 1), (2, 1), (3, 1), (4, 1), (5, 1), (6, 1), (7, 1), (8, 1)]) [.lit (.bool false), .lit (.bool false), .lit (.bool false), .lit (.bool false), .lit (.bool false), .lit (.bool false), .lit (.bool false), .lit (.bool false), .lit (.int .i64 0)] rfl rfl (by kernel_rfl) (by kernel_rfl) ⟨.refl _, .refl _, .refl _, .refl _, .refl _, .refl _, .refl _, .refl _, .refl _, trivial⟩ rfl rfl) ?_; refine gg [10,1,0,9,3,2002,3,2,33] ?_; subst hM; refine ⟨.inl rfl, _, rfl, .of ?_, trivial⟩; first | (simp [*, shR, shD, wrp0, wrp1, wrp2, wrp3]; done) | (simp [*, shR, shD]; rfl) | (simp_all [shR, shD]; done) | (simp_all [shR, shD]; omega)
  intro h7; refine gg [1,0,9,7,2002,2001,6,5,3,2,1,8,31,5] ?_; refine bE ?_ ?_
  · intro h10; refine gg [1,0,9,7,2002,2001,9,5,3,2,1,32,34,32,5] ?_; refine u rfl rfl (r_build (zs := [.bool false, .bool false, .bool false, .bool false, .bool false, .bool false, .bool false, .bool false, .int .i64 0]) (qs := [(0, 1), (1, 1), (2, 1), (3, 1), (4, 1), (5, 1), (6, 1), (7, 1), (8, 1)]) [.lit (.bool false), .lit (.bool false), .lit (.bool false), .lit (.bool false), .lit (.bool false), .lit (.bool false), .lit (.bool false), .lit (.bool false), .lit (.int .i64 0)] rfl rfl (by kernel_rfl) (by kernel_rfl) ⟨.refl _, .refl _, .refl _, .refl _, .refl _, .refl _, .refl _, .refl _, .refl _, trivial⟩ rfl rfl) ?_; refine gg [10,1,0,9,3,2002,3,2,33] ?_; subst hM; refine ⟨.inl rfl, _, rfl, .of ?_, trivial⟩; first | (simp [*, shR, shD, wrp0, wrp1, wrp2, wrp3]; done) | (simp [*, shR, shD]; rfl) | (simp_all [shR, shD]; done) | (simp_all [shR, shD]; omega)
  intro h10; refine gg [1,0,9,7,2002,2001,9,5,3,2,1,8,37] ?_; refine bE ?_ ?_
  · intro h11; refine gg [1,0,9,7,2002,2001,9,5,3,2,1,32,5] ?_; refine u rfl rfl (r_build (zs := [.bool false, .bool false, .bool false, .bool false, .bool false, .bool false, .bool false, .bool false, .int .i64 0]) (qs := [(0, 1), (1, 1), (2, 1), (3, 1), (4, 1), (5, 1), (6, 1), (7, 1), (8, 1)]) [.lit (.bool false), .lit (.bool false), .lit (.bool false), .lit (.bool false), .lit (.bool false), .lit (.bool false), .lit (.bool false), .lit (.bool false), .lit (.int .i64 0)] rfl rfl (by kernel_rfl) (by kernel_rfl) ⟨.refl _, .refl _, .refl _, .refl _, .refl _, .refl _, .refl _, .refl _, .refl _, trivial⟩ rfl rfl) ?_; refine gg [10,1,0,9,3,2002,3,2,33] ?_; subst hM; refine ⟨.inl rfl, _, rfl, .of ?_, trivial⟩; first | (simp [*, shR, shD, wrp0, wrp1, wrp2, wrp3]; done) | (simp [*, shR, shD]; rfl) | (simp_all [shR, shD]; done) | (simp_all [shR, shD]; omega)
  intro h11; refine gg [1,0,9,7,2002,2001,9,5,3,2,1,8,5] ?_; refine bE ?_ ?_
  · intro h14; refine gg [1,0,9,7,2002,2001,13,5,3,2,1,32,5] ?_; refine u rfl rfl (r_build (zs := [.bool false, .bool false, .bool false, .bool false, .bool false, .bool false, .bool false, .bool false, .int .i64 0]) (qs := [(0, 1), (1, 1), (2, 1), (3, 1), (4, 1), (5, 1), (6, 1), (7, 1), (8, 1)]) [.lit (.bool false), .lit (.bool false), .lit (.bool false), .lit (.bool false), .lit (.bool false), .lit (.bool false), .lit (.bool false), .lit (.bool false), .lit (.int .i64 0)] rfl rfl (by kernel_rfl) (by kernel_rfl) ⟨.refl _, .refl _, .refl _, .refl _, .refl _, .refl _, .refl _, .refl _, .refl _, trivial⟩ rfl rfl) ?_; refine gg [10,1,0,9,3,2002,3,2,33] ?_; subst hM; refine ⟨.inl rfl, _, rfl, .of ?_, trivial⟩; first | (simp [*, shR, shD, wrp0, wrp1, wrp2, wrp3]; done) | (simp [*, shR, shD]; rfl) | (simp_all [shR, shD]; done) | (simp_all [shR, shD]; omega)
  intro h14; refine gg [1,0,9,7,2002,2001,13,5,3,2,1,8,31,5] ?_; refine bE ?_ ?_
  · intro h17; refine gg [1,0,9,7,2002,2001,16,5,3,2,1,32,34,32,5] ?_; refine u rfl rfl (r_build (zs := [.bool false, .bool false, .bool false, .bool false, .bool false, .bool false, .bool false, .bool false, .int .i64 0]) (qs := [(0, 1), (1, 1), (2, 1), (3, 1), (4, 1), (5, 1), (6, 1), (7, 1), (8, 1)]) [.lit (.bool false), .lit (.bool false), .lit (.bool false), .lit (.bool false), .lit (.bool false), .lit (.bool false), .lit (.bool false), .lit (.bool false), .lit (.int .i64 0)] rfl rfl (by kernel_rfl) (by kernel_rfl) ⟨.refl _, .refl _, .refl _, .refl _, .refl _, .refl _, .refl _, .refl _, .refl _, trivial⟩ rfl rfl) ?_; refine gg [10,1,0,9,3,2002,3,2,33] ?_; subst hM; refine ⟨.inl rfl, _, rfl, .of ?_, trivial⟩; first | (simp [*, shR, shD, wrp0, wrp1, wrp2, wrp3]; done) | (simp [*, shR, shD]; rfl) | (simp_all [shR, shD]; done) | (simp_all [shR, shD]; omega)
  intro h17; refine gg [1,0,9,7,2002,2001,16,5,3,2,1,8,37] ?_; refine bE ?_ ?_
  · intro h18; refine gg [1,0,9,7,2002,2001,16,5,3,2,1,32,5] ?_; refine u rfl rfl (r_build (zs := [.bool false, .bool false, .bool false, .bool false, .bool false, .bool false, .bool false, .bool false, .int .i64 0]) (qs := [(0, 1), (1, 1), (2, 1), (3, 1), (4, 1), (5, 1), (6, 1), (7, 1), (8, 1)]) [.lit (.bool false), .lit (.bool false), .lit (.bool false), .lit (.bool false), .lit (.bool false), .lit (.bool false), .lit (.bool false), .lit (.bool false), .lit (.int .i64 0)] rfl rfl (by kernel_rfl) (by kernel_rfl) ⟨.refl _, .refl _, .refl _, .refl _, .refl _, .refl _, .refl _, .refl _, .refl _, trivial⟩ rfl rfl) ?_; refine gg [10,1,0,9,3,2002,3,2,33] ?_; subst hM; refine ⟨.inl rfl, _, rfl, .of ?_, trivial⟩; first | (simp [*, shR, shD, wrp0, wrp1, wrp2, wrp3]; done) | (simp [*, shR, shD]; rfl) | (simp_all [shR, shD]; done) | (simp_all [shR, shD]; omega)
  intro h18; refine gg [1,0,9,7,2002,2001,16,5,3,2,1,8,31,5] ?_; refine bE ?_ ?_
  · intro h21; refine gg [1,0,9,7,2002,2001,20,5,3,2,1,32,34,32,5] ?_; refine u rfl rfl (r_build (zs := [.bool false, .bool false, .bool false, .bool false, .bool false, .bool false, .bool false, .bool false, .int .i64 0]) (qs := [(0, 1), (1, 1), (2, 1), (3, 1), (4, 1), (5, 1), (6, 1), (7, 1), (8, 1)]) [.lit (.bool false), .lit (.bool false), .lit (.bool false), .lit (.bool false), .lit (.bool false), .lit (.bool false), .lit (.bool false), .lit (.bool false), .lit (.int .i64 0)] rfl rfl (by kernel_rfl) (by kernel_rfl) ⟨.refl _, .refl _, .refl _, .refl _, .refl _, .refl _, .refl _, .refl _, .refl _, trivial⟩ rfl rfl) ?_; refine gg [10,1,0,9,3,2002,3,2,33] ?_; subst hM; refine ⟨.inl rfl, _, rfl, .of ?_, trivial⟩; first | (simp [*, shR, shD, wrp0, wrp1, wrp2, wrp3]; done) | (simp [*, shR, shD]; rfl) | (simp_all [shR, shD]; done) | (simp_all [shR, shD]; omega)
  intro h21; refine gg [1,0,9,7,2002,2001,20,5,3,2,1,8,5] ?_; refine bE ?_ ?_
  · intro h22; refine gg [1,0,9,7,2002,2001,20,5,3,2,1,32,34,32,5] ?_; refine u rfl rfl (r_build (zs := [.bool false, .bool false, .bool false, .bool false, .bool false, .bool false, .bool false, .bool false, .int .i64 0]) (qs := [(0, 1), (1, 1), (2, 1), (3, 1), (4, 1), (5, 1), (6, 1), (7, 1), (8, 1)]) [.lit (.bool false), .lit (.bool false), .lit (.bool false), .lit (.bool false), .lit (.bool false), .lit (.bool false), .lit (.bool false), .lit (.bool false), .lit (.int .i64 0)] rfl rfl (by kernel_rfl) (by kernel_rfl) ⟨.refl _, .refl _, .refl _, .refl _, .refl _, .refl _, .refl _, .refl _, .refl _, trivial⟩ rfl rfl) ?_; refine gg [10,1,0,9,3,2002,3,2,33] ?_; subst hM; refine ⟨.inl rfl, _, rfl, .of ?_, trivial⟩; first | (simp [*, shR, shD, wrp0, wrp1, wrp2, wrp3]; done) | (simp [*, shR, shD]; rfl) | (simp_all [shR, shD]; done) | (simp_all [shR, shD]; omega)
  intro h22; refine gg [1,0,9,7,2002,2001,20,5,3,2,1,8,37] ?_; refine bE ?_ ?_
  · intro h23; refine gg [1,0,9,7,2002,2001,20,5,3,2,1,32,5] ?_; refine u rfl rfl (r_build (zs := [.bool false, .bool false, .bool false, .bool false, .bool false, .bool false, .bool false, .bool false, .int .i64 0]) (qs := [(0, 1), (1, 1), (2, 1), (3, 1), (4, 1), (5, 1), (6, 1), (7, 1), (8, 1)]) [.lit (.bool false), .lit (.bool false), .lit (.bool false), .lit (.bool false), .lit (.bool false), .lit (.bool false), .lit (.bool false), .lit (.bool false), .lit (.int .i64 0)] rfl rfl (by kernel_rfl) (by kernel_rfl) ⟨.refl _, .refl _, .refl _, .refl _, .refl _, .refl _, .refl _, .refl _, .refl _, trivial⟩ rfl rfl) ?_; refine gg [10,1,0,9,3,2002,3,2,33] ?_; subst hM; refine ⟨.inl rfl, _, rfl, .of ?_, trivial⟩; first | (simp [*, shR, shD, wrp0, wrp1, wrp2, wrp3]; done) | (simp [*, shR, shD]; rfl) | (simp_all [shR, shD]; done) | (simp_all [shR, shD]; omega)
  intro h23; refine gg [1,0,9,7,2002,2001,20,5,3,2,1,8,5] ?_; refine bE ?_ ?_
  · intro h26; refine gg [1,0,9,7,2002,2001,25,5,3,2,1,32,5] ?_; refine u rfl rfl (r_build (zs := [.bool false, .bool false, .bool false, .bool false, .bool false, .bool false, .bool false, .bool false, .int .i64 0]) (qs := [(0, 1), (1, 1), (2, 1), (3, 1), (4, 1), (5, 1), (6, 1), (7, 1), (8, 1)]) [.lit (.bool false), .lit (.bool false), .lit (.bool false), .lit (.bool false), .lit (.bool false), .lit (.bool false), .lit (.bool false), .lit (.bool false), .lit (.int .i64 0)] rfl rfl (by kernel_rfl) (by kernel_rfl) ⟨.refl _, .refl _, .refl _, .refl _, .refl _, .refl _, .refl _, .refl _, .refl _, trivial⟩ rfl rfl) ?_; refine gg [10,1,0,9,3,2002,3,2,33] ?_; subst hM; refine ⟨.inl rfl, _, rfl, .of ?_, trivial⟩; first | (simp [*, shR, shD, wrp0, wrp1, wrp2, wrp3]; done) | (simp [*, shR, shD]; rfl) | (simp_all [shR, shD]; done) | (simp_all [shR, shD]; omega)
  intro h26; refine gg [1,0,9,7,2002,2001,25,5,3,2,1,8,5] ?_; refine bE ?_ ?_
  · intro h29; refine gg [1,0,9,7,2002,2001,28,5,3,2,1,32,5] ?_; refine u rfl rfl (r_build (zs := [.bool false, .bool false, .bool false, .bool false, .bool false, .bool false, .bool false, .bool false, .int .i64 0]) (qs := [(0, 1), (1, 1), (2, 1), (3, 1), (4, 1), (5, 1), (6, 1), (7, 1), (8, 1)]) [.lit (.bool false), .lit (.bool false), .lit (.bool false), .lit (.bool false), .lit (.bool false), .lit (.bool false), .lit (.bool false), .lit (.bool false), .lit (.int .i64 0)] rfl rfl (by kernel_rfl) (by kernel_rfl) ⟨.refl _, .refl _, .refl _, .refl _, .refl _, .refl _, .refl _, .refl _, .refl _, trivial⟩ rfl rfl) ?_; refine gg [10,1,0,9,3,2002,3,2,33] ?_; subst hM; refine ⟨.inl rfl, _, rfl, .of ?_, trivial⟩; first | (simp [*, shR, shD, wrp0, wrp1, wrp2, wrp3]; done) | (simp [*, shR, shD]; rfl) | (simp_all [shR, shD]; done) | (simp_all [shR, shD]; omega)
  intro h29; refine gg [1,0,9,7,2002,2001,28,5,3,2,1,8,5] ?_; refine bE ?_ ?_
  · intro h32; refine gg [1,0,9,7,2002,2001,31,5,3,2,1,32,5] ?_; refine u rfl rfl (r_build (zs := [.bool false, .bool false, .bool false, .bool false, .bool false, .bool false, .bool false, .bool false, .int .i64 0]) (qs := [(0, 1), (1, 1), (2, 1), (3, 1), (4, 1), (5, 1), (6, 1), (7, 1), (8, 1)]) [.lit (.bool false), .lit (.bool false), .lit (.bool false), .lit (.bool false), .lit (.bool false), .lit (.bool false), .lit (.bool false), .lit (.bool false), .lit (.int .i64 0)] rfl rfl (by kernel_rfl) (by kernel_rfl) ⟨.refl _, .refl _, .refl _, .refl _, .refl _, .refl _, .refl _, .refl _, .refl _, trivial⟩ rfl rfl) ?_; refine gg [10,1,0,9,3,2002,3,2,33] ?_; subst hM; refine ⟨.inl rfl, _, rfl, .of ?_, trivial⟩; first | (simp [*, shR, shD, wrp0, wrp1, wrp2, wrp3]; done) | (simp [*, shR, shD]; rfl) | (simp_all [shR, shD]; done) | (simp_all [shR, shD]; omega)
  intro h32; refine gg [1,0,9,7,2002,2001,31,5,3,2,1,8,5] ?_; refine bE ?_ ?_
  · intro h35; refine gg [1,0,9,7,2002,2001,34,5,3,2,1,32,5] ?_; refine u rfl rfl (r_build (zs := [.bool false, .bool false, .bool false, .bool false, .bool false, .bool false, .bool false, .bool false, .int .i64 0]) (qs := [(0, 1), (1, 1), (2, 1), (3, 1), (4, 1), (5, 1), (6, 1), (7, 1), (8, 1)]) [.lit (.bool false), .lit (.bool false), .lit (.bool false), .lit (.bool false), .lit (.bool false), .lit (.bool false), .lit (.bool false), .lit (.bool false), .lit (.int .i64 0)] rfl rfl (by kernel_rfl) (by kernel_rfl) ⟨.refl _, .refl _, .refl _, .refl _, .refl _, .refl _, .refl _, .refl _, .refl _, trivial⟩ rfl rfl) ?_; refine gg [10,1,0,9,3,2002,3,2,33] ?_; subst hM; refine ⟨.inl rfl, _, rfl, .of ?_, trivial⟩; first | (simp [*, shR, shD, wrp0, wrp1, wrp2, wrp3]; done) | (simp [*, shR, shD]; rfl) | (simp_all [shR, shD]; done) | (simp_all [shR, shD]; omega)
  intro h35; refine gg [1,0,9,7,2002,2001,34,5,3,2,1,8,5] ?_; refine bE ?_ ?_
  · intro h38; refine gg [1,0,9,7,2002,2001,37,5,3,2,1,32,5,6,14,1,7,18] ?_; refine u rfl rfl (r_addW rfl rfl rfl rfl) ?_; refine u rfl rfl (r_build (zs := [.bool false, .bool false, .bool false, .bool false, .bool false, .bool false, .bool false, .bool false, .int .i64 0]) (qs := [(0, 1), (1, 1), (2, 1), (3, 1), (4, 1), (5, 1), (6, 1), (7, 1), (8, 1)]) [.lit (.bool false), .lit (.bool false), .lit (.bool false), .lit (.bool false), .lit (.bool false), .lit (.bool false), .lit (.bool false), .lit (.bool false), .lit (.int .i64 0)] rfl rfl (by kernel_rfl) (by kernel_rfl) ⟨.refl _, .refl _, .refl _, .refl _, .refl _, .refl _, .refl _, .refl _, .refl _, trivial⟩ rfl rfl) ?_; refine gg [6,14,1,7,18] ?_; refine bG ?_ ?_
    · intro h47; refine gg [10,1,4,9,3,2002,3,2,33] ?_; subst hM; refine ⟨.inl rfl, _, rfl, .of ?_, trivial⟩; first | (simp [*, shR, shD, wrp0, wrp1, wrp2, wrp3]; done) | (simp [*, shR, shD]; rfl) | (simp_all [shR, shD]; done) | (simp_all [shR, shD]; omega)
    intro h47; refine gg [10,1,4,9,3,2002,3,2,33] ?_; subst hM; refine ⟨.inl rfl, _, rfl, .of ?_, trivial⟩; first | (simp [*, shR, shD, wrp0, wrp1, wrp2, wrp3]; done) | (simp [*, shR, shD]; rfl) | (simp_all [shR, shD]; done) | (simp_all [shR, shD]; omega)
  intro h38; refine gg [1,0,9,7,2002,2001,37,5,3,2,1,8,5] ?_; refine bE ?_ ?_
  · intro h49; refine gg [1,0,9,5,2002,48,5,3,2,32,5] ?_; refine u rfl rfl (r_build (zs := [.bool false, .bool false, .bool false, .bool false, .bool false, .bool false, .bool false, .bool false, .int .i64 0]) (qs := [(0, 1), (1, 1), (2, 1), (3, 1), (4, 1), (5, 1), (6, 1), (7, 1), (8, 1)]) [.lit (.bool false), .lit (.bool false), .lit (.bool false), .lit (.bool false), .lit (.bool false), .lit (.bool false), .lit (.bool false), .lit (.bool false), .lit (.int .i64 0)] rfl rfl (by kernel_rfl) (by kernel_rfl) ⟨.refl _, .refl _, .refl _, .refl _, .refl _, .refl _, .refl _, .refl _, .refl _, trivial⟩ rfl rfl) ?_; refine gg [10,1,0,9,3,2002,3,2,33] ?_; subst hM; refine ⟨.inl rfl, _, rfl, .of ?_, trivial⟩; first | (simp [*, shR, shD, wrp0, wrp1, wrp2, wrp3]; done) | (simp [*, shR, shD]; rfl) | (simp_all [shR, shD]; done) | (simp_all [shR, shD]; omega)
  intro h49; refine gg [1,0,9,5,2002,48,5,3,2,8,5] ?_; refine bE ?_ ?_
  · intro h52; refine gg [1,0,9,4,2002,51,3,2,32,5] ?_; refine u rfl rfl (r_build (zs := [.bool false, .bool false, .bool false, .bool false, .bool false, .bool false, .bool false, .bool false, .int .i64 0]) (qs := [(0, 1), (1, 1), (2, 1), (3, 1), (4, 1), (5, 1), (6, 1), (7, 1), (8, 1)]) [.lit (.bool false), .lit (.bool false), .lit (.bool false), .lit (.bool false), .lit (.bool false), .lit (.bool false), .lit (.bool false), .lit (.bool false), .lit (.int .i64 0)] rfl rfl (by kernel_rfl) (by kernel_rfl) ⟨.refl _, .refl _, .refl _, .refl _, .refl _, .refl _, .refl _, .refl _, .refl _, trivial⟩ rfl rfl) ?_; refine gg [10,1,0,9,3,2002,3,2,33] ?_; subst hM; refine ⟨.inl rfl, _, rfl, .of ?_, trivial⟩; first | (simp [*, shR, shD, wrp0, wrp1, wrp2, wrp3]; done) | (simp [*, shR, shD]; rfl) | (simp_all [shR, shD]; done) | (simp_all [shR, shD]; omega)
  intro h52; refine gg [1,0,9,4,2002,51,3,2,8,34,5] ?_; refine u rfl rfl (r_build (zs := [.bool false, .bool false, .bool false, .bool false, .bool false, .bool false, .bool false, .bool false, .int .i64 0]) (qs := [(0, 1), (1, 1), (2, 1), (3, 1), (4, 1), (5, 1), (6, 1), (7, 1), (8, 1)]) [.lit (.bool false), .lit (.bool false), .lit (.bool false), .lit (.bool false), .lit (.bool false), .lit (.bool false), .lit (.bool false), .lit (.bool false), .lit (.int .i64 0)] rfl rfl (by kernel_rfl) (by kernel_rfl) ⟨.refl _, .refl _, .refl _, .refl _, .refl _, .refl _, .refl _, .refl _, .refl _, trivial⟩ rfl rfl) ?_; refine gg [10,1,0,9,3,2002,3,2,33] ?_; subst hM; refine ⟨.inl rfl, _, rfl, .of ?_, trivial⟩; first | (simp [*, shR, shD, wrp0, wrp1, wrp2, wrp3]; done) | (simp [*, shR, shD]; rfl) | (simp_all [shR, shD]; done) | (simp_all [shR, shD]; omega)

end Go.Proofs.YtlagglkpbnbmeaaGreatDoor
