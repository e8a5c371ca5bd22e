/- The program's Same of types, patterns, expressions, with slices.EqualFunc. -/
import Derived.Test.YtlagglkpbnbmeaaGreatDoorShC
import Derived.Test.YtlagglkpbnbmeaaGreatDoorS2
import Derived.Test.YtlagglkpbnbmeaaGreatDoorEp7
import Derived.Test.YtlagglkpbnbmeaaGreatDoorBd
import Derived.Test.YtlagglkpbnbmeaaGreatDoorSp
namespace Go.Proofs.YtlagglkpbnbmeaaGreatDoor
open Go Go.RowKit
set_option maxRecDepth 100000
set_option maxHeartbeats 2000000
set_option linter.unusedVariables false
set_option linter.unusedSimpArgs false

def all2 {α : Type} (q : α → α → Bool) : List α → List α → Bool
  | [], [] => true
  | a :: r, b :: s => q a b && all2 q r s
  | _, _ => false
theorem all2_len {α : Type} {q : α → α → Bool} : ∀ (l r : List α), all2 q l r = true → l.length = r.length
  | [], [], _ => rfl
  | _ :: l, _ :: r, h => by rw [all2, Bool.and_eq_true] at h; rw [List.length_cons, List.length_cons, all2_len l r h.2]
  | [], _ :: _, h => by cases h
  | _ :: _, [], h => by cases h
mutual
def Pa.same : Pa → Pa → Bool
  | .mk k _ _ nm n s kids, .mk k' _ _ nm' n' s' kids' => decide (k = k') && decide (nm = nm') && decide (n = n') && decide (s = s') && pasSame kids kids'
def pasSame : List Pa → List Pa → Bool
  | [], [] => true
  | a :: r, b :: t => a.same b && pasSame r t
  | _, _ => false
end
theorem pasSame_all : ∀ (l r : List Pa), pasSame l r = all2 Pa.same l r
  | [], [] => by rw [pasSame, all2]
  | a :: l, b :: r => by rw [pasSame, all2, pasSame_all l r]
  | [], _ :: _ => by simp [pasSame, all2]
  | _ :: _, [] => by simp [pasSame, all2]
mutual
def Ex.same : Ex → Ex → Bool
  | .mk k _ _ nm arg n s op A B pats kids, .mk k' _ _ nm' arg' n' s' op' A' B' pats' kids' => decide (k = k') && decide (nm = nm') && decide (arg = arg') && decide (n = n') && decide (s = s') && decide (op = op') && mSame A A' && mSame B B' && all2 Pa.same pats pats' && exsSame kids kids'
def exsSame : List Ex → List Ex → Bool
  | [], [] => true
  | a :: r, b :: t => a.same b && exsSame r t
  | _, _ => false
end
theorem exsSame_all : ∀ (l r : List Ex), exsSame l r = all2 Ex.same l r
  | [], [] => by rw [exsSame, all2]
  | a :: l, b :: r => by rw [exsSame, all2, exsSame_all l r]
  | [], _ :: _ => by simp [exsSame, all2]
  | _ :: _, [] => by simp [exsSame, all2]
theorem tys_at2 {l : List Ty} {k : Nat} {x : Ty} (h : l[k]? = some x) : (tysD l)[((k : Nat) : Int).toNat]? = some (tyX x) := by rw [← tyX_eq]; exact tysD_get (by simpa using h)
theorem pas_at2 {l : List Pa} {k : Nat} {x : Pa} (h : l[k]? = some x) : (pasD l)[((k : Nat) : Int).toNat]? = some (paX x) := by rw [pasD_map]; simp [h]
theorem exs_at2 {l : List Ex} {k : Nat} {x : Ex} (h : l[k]? = some x) : (exsD l)[((k : Nat) : Int).toNat]? = some (exX x) := by rw [exsD_map]; simp [h]
theorem mSames_cast {l r : List Ty} (h : (l.length : Int) ≠ r.length) : mSames l r = false := by
  rcases hb : mSames l r with _ | _
  · rfl
  exact absurd (mSames_len _ _ hb) (by omega)
theorem all2_ne {α : Type} {q : α → α → Bool} {l r : List α} (h : l.length ≠ r.length) : all2 q l r = false := by
  rcases hb : all2 q l r with _ | _
  · rfl
  exact absurd (all2_len _ _ hb) h
theorem tSame : ∀ (m : Nat) (t b : Ty), m ≤ 1000000000 → t.size ≤ m → Con Tryz.prog 45 [.agg (tyX t), .agg (tyX b)] [] (.c (.lit (.bool (mSame t b)))) []
  | 0, t, b, _, h => absurd t.size_pos (by omega)
  | m + 1, t, b, hm, h => by
    have hk := t.kids_lt; have hl := tysD_len (t.kids); have hlb := tysD_len (b.kids); refine gg [38,5,22,2002,22,2003,1,0,9,5,2003,2002,4,3,2,31,5,6,0,1,7,6,0,1,7] ?_; refine bN ?_ ?_
    · intro h11; refine gg [2,39,5,16,2,39,7,16,0,9,6,2003,2002,27,4,3,2,32,5,1,0,9,5,2003,2002,4,3,2,33] ?_; refine ⟨.inl rfl, _, rfl, .ofB ?_, trivial⟩; rw [mSame_eq]; first | (simp_all [tyX, mSames_cast]; done) | (rw [mSames_cast (by omega)]; simp_all [tyX])
    intro h11; refine gg [2,6,1,1,7,6,1,1,7] ?_; refine bN ?_ ?_
    · intro h17; refine gg [17,2,39,7,16,0,9,6,2003,2002,27,4,3,2,32,5,1,0,9,5,2003,2002,4,3,2,33] ?_; refine ⟨.inl rfl, _, rfl, .ofB ?_, trivial⟩; rw [mSame_eq]; first | (simp_all [tyX, mSames_cast]; done) | (rw [mSames_cast (by omega)]; simp_all [tyX])
    intro h17; refine gg [17,2,6,2,1,7,18,6,2,1,7,18] ?_; refine bN ?_ ?_
    · intro h26; refine gg [17,0,9,6,2003,2002,27,4,3,2,32,5,1,0,9,5,2003,2002,4,3,2,33] ?_; refine ⟨.inl rfl, _, rfl, .ofB ?_, trivial⟩; rw [mSame_eq]; first | (simp_all [tyX, mSames_cast]; done) | (rw [mSames_cast (by omega)]; simp_all [tyX])
    intro h26; refine gg [17,0,9,6,2003,2002,27,4,3,2,8,34,31,5,6,2,1,7,18,2,0,9,6,2003,31,30,29,4,3,35] ?_; refine J_loopF (α := { i : Nat // i ≤ t.kids.length ∧ mSames t.kids b.kids = mSames (t.kids.drop i) (b.kids.drop i) }) (fun p => [(31, .c (.lit (.int .i64 (p.1 : Int))))]) [(3, _), (4, _), (29, _), (30, _), (2003, _)] (fun p => t.kids.length - p.1) ⟨0, Nat.zero_le _, rfl⟩ ⟨rfl, rfl, rfl, rfl, rfl, rfl, trivial⟩ ?_; rintro ⟨i, hi, hI⟩; dsimp only; refine js ?_; refine bL ?_ ?_
    · intro h32; obtain ⟨x, hx⟩ := get_some (l := t.kids) (i := i) (by omega); have hxs := Ty.kid_lt' hx; obtain ⟨y, hy⟩ := get_some (l := b.kids) (i := i) (by omega); refine gg [0,9,7,2003,32,31,30,29,4,3,31,32,34,31,35,5,2] ?_; refine u rfl rfl (r_indexAddr (e := 26) (sz := 3) rfl rfl (by kernel_rfl) rfl rfl (by omega) (tys_at2 hx)) ?_; refine gg [21,3,25,2006,1,10,0,9,13,2006,2003,35,34,33,32,31,30,29,6,5,4,3,5,20,3,6,2,1,7,2] ?_; refine u rfl rfl (r_indexAddr (e := 26) (sz := 3) rfl rfl (by kernel_rfl) rfl rfl (by omega) (tys_at2 hy)) ?_; refine gg [21,3] ?_; refine JR.runC rfl rfl (cl (tSame m x y (by omega) (by omega))) rfl ?_ ?_
      · intro h42; refine gg [15,4,9,21,2006,2003,43,42,41,40,39,38,37,36,35,34,33,32,31,30,29,6,5,4,3,8,34,37,27,2,0] ?_; refine ⟨⟨i + 1, by omega, by rw [hI, drop_get hx, drop_get hy, mSames, h42, Bool.true_and]⟩, by simp only; omega, rfl, rfl, rfl, rfl, rfl, rfl, trivial⟩
      intro h42; refine gg [15,4,9,21,2006,2003,43,42,41,40,39,38,37,36,35,34,33,32,31,30,29,6,5,4,3,32,5,1,0,9,21,2006,2003,43,42,41,40,39,38,37,36,35,34,33,32,31,30,29,6,5,4,3,33] ?_; refine ⟨.inl rfl, _, rfl, .ofB ?_, trivial⟩; rw [mSame_eq, hI, drop_get hx, drop_get hy, mSames, h42, Bool.false_and, Bool.and_false]
    intro h32; refine gg [0,9,7,2003,32,31,30,29,4,3,31,8,36,5,1,0,9,1,4,33] ?_; refine ⟨.inl rfl, _, rfl, .ofB ?_, trivial⟩; rw [mSame_eq, hI, List.drop_eq_nil_of_le (by omega), List.drop_eq_nil_of_le (by omega), mSames, Bool.and_true]; first | rfl | (simp_all [tyX])

theorem eqPa {f : FuncId} {q : Pa → Pa → Bool} (xs ys : List Pa) (hfo : callOK Tryz.prog f = true) (hn : xs.length ≤ 1000000000) (hC : ∀ x, x ∈ xs → ∀ y, Con Tryz.prog f [.agg (paX x), .agg (paX y)] [] (.c (.lit (.bool (q x y)))) []) : Con Tryz.prog 46 [.c (.sl 7 (pasD xs)), .c (.sl 7 (pasD ys)), .c (.lit (fnV f))] [] (.c (.lit (.bool (all2 q xs ys)))) [] := by
  have hl := pasD_len xs; have hlb := pasD_len ys; refine gg [38,5,1,0,9,4,6,2,1,0,31,5,2,18,2,18] ?_; refine bN ?_ ?_
  · intro h14; refine gg [0,9,5,14,6,2,1,0,32,5,1,0,9,4,6,2,1,0,33] ?_; refine ⟨.inl rfl, _, rfl, .ofB ?_, trivial⟩; rw [all2_ne (by omega)]
  intro h14; refine gg [0,9,5,14,6,2,1,0,8,34,31,5,2,18,2,0,9,6,17,16,15,6,2,1,35] ?_; refine J_loopF (α := { i : Nat // i ≤ xs.length ∧ all2 q xs ys = all2 q (xs.drop i) (ys.drop i) }) (fun p => [(17, .c (.lit (.int .i64 (p.1 : Int))))]) [(1, _), (2, _), (6, _), (15, _), (16, _)] (fun p => xs.length - p.1) ⟨0, Nat.zero_le _, rfl⟩ ⟨rfl, rfl, rfl, rfl, rfl, rfl, trivial⟩ ?_; rintro ⟨i, hi, hI⟩; dsimp only; refine js ?_; refine bL ?_ ?_
  · intro h18; obtain ⟨x, hx⟩ := get_some (l := xs) (i := i) (by omega); obtain ⟨y, hy⟩ := get_some (l := ys) (i := i) (by omega); have hcx := hC x (List.mem_of_getElem? hx) y; refine gg [0,9,7,18,17,16,15,6,2,1,31,32,34,31,35,5,2] ?_; refine u rfl rfl (r_indexAddr (e := 40) (sz := 7) rfl rfl (by kernel_rfl) rfl rfl (by omega) (pas_at2 hx)) ?_; refine gg [21,7,24,2008,1,10,0,9,13,2008,21,20,19,18,17,16,15,8,7,6,2,1,5,2,2] ?_; refine u rfl rfl (r_indexAddr (e := 40) (sz := 7) rfl rfl (by kernel_rfl) rfl rfl (by omega) (pas_at2 hy)) ?_; refine gg [21,7,24,2009,10,0,9,19,2009,2008,25,24,23,22,21,20,19,18,17,16,15,9,8,7,6,2,1,5,2,20,7,20,7] ?_; refine JR.runC rfl rfl (r_callv (hcx) rfl rfl rfl rfl trivial (by first | assumption | kernel_rfl) (by kernel_rfl)) rfl ?_ ?_
    · intro h29; refine gg [15,0,9,24,2009,2008,30,29,28,27,26,25,24,23,22,21,20,19,18,17,16,15,9,8,7,6,2,1,8,34,37,27,2,0] ?_; refine ⟨⟨i + 1, by omega, by rw [hI, drop_get hx, drop_get hy, all2, h29, Bool.true_and]⟩, by simp only; omega, rfl, rfl, rfl, rfl, rfl, rfl, trivial⟩
    intro h29; refine gg [15,0,9,24,2009,2008,30,29,28,27,26,25,24,23,22,21,20,19,18,17,16,15,9,8,7,6,2,1,32,5,1,0,9,24,2009,2008,30,29,28,27,26,25,24,23,22,21,20,19,18,17,16,15,9,8,7,6,2,1,33] ?_; refine ⟨.inl rfl, _, rfl, .ofB ?_, trivial⟩; rw [hI, drop_get hx, drop_get hy, all2, h29, Bool.false_and]
  intro h18; refine gg [0,9,7,18,17,16,15,6,2,1,31,8,36,5,1,0,9,1,6,33] ?_; refine ⟨.inl rfl, _, rfl, .ofB ?_, trivial⟩; rw [hI, List.drop_eq_nil_of_le (by omega), List.drop_eq_nil_of_le (by omega), all2]

theorem eqEx {f : FuncId} {q : Ex → Ex → Bool} (xs ys : List Ex) (hfo : callOK Tryz.prog f = true) (hn : xs.length ≤ 1000000000) (hC : ∀ x, x ∈ xs → ∀ y, Con Tryz.prog f [.agg (exX x), .agg (exX y)] [] (.c (.lit (.bool (q x y)))) []) : Con Tryz.prog 48 [.c (.sl 16 (exsD xs)), .c (.sl 16 (exsD ys)), .c (.lit (fnV f))] [] (.c (.lit (.bool (all2 q xs ys)))) [] := by
  have hl := exsD_len xs; have hlb := exsD_len ys; refine gg [38,5,1,0,9,4,6,2,1,0,31,5,2,18,2,18] ?_; refine bN ?_ ?_
  · intro h14; refine gg [0,9,5,14,6,2,1,0,32,5,1,0,9,4,6,2,1,0,33] ?_; refine ⟨.inl rfl, _, rfl, .ofB ?_, trivial⟩; rw [all2_ne (by omega)]
  intro h14; refine gg [0,9,5,14,6,2,1,0,8,34,31,5,2,18,2,0,9,6,17,16,15,6,2,1,35] ?_; refine J_loopF (α := { i : Nat // i ≤ xs.length ∧ all2 q xs ys = all2 q (xs.drop i) (ys.drop i) }) (fun p => [(17, .c (.lit (.int .i64 (p.1 : Int))))]) [(1, _), (2, _), (6, _), (15, _), (16, _)] (fun p => xs.length - p.1) ⟨0, Nat.zero_le _, rfl⟩ ⟨rfl, rfl, rfl, rfl, rfl, rfl, trivial⟩ ?_; rintro ⟨i, hi, hI⟩; dsimp only; refine js ?_; refine bL ?_ ?_
  · intro h18; obtain ⟨x, hx⟩ := get_some (l := xs) (i := i) (by omega); obtain ⟨y, hy⟩ := get_some (l := ys) (i := i) (by omega); have hcx := hC x (List.mem_of_getElem? hx) y; refine gg [0,9,7,18,17,16,15,6,2,1,31,32,34,31,35,5,2] ?_; refine u rfl rfl (r_indexAddr (e := 30) (sz := 16) rfl rfl (by kernel_rfl) rfl rfl (by omega) (exs_at2 hx)) ?_; refine gg [21,16,23,2008,1,10,0,9,13,2008,21,20,19,18,17,16,15,8,7,6,2,1,5,2,2] ?_; refine u rfl rfl (r_indexAddr (e := 30) (sz := 16) rfl rfl (by kernel_rfl) rfl rfl (by omega) (exs_at2 hy)) ?_; refine gg [21,16,23,2009,10,0,9,19,2009,2008,25,24,23,22,21,20,19,18,17,16,15,9,8,7,6,2,1,5,2,20,16,20,16] ?_; refine JR.runC rfl rfl (r_callv (hcx) rfl rfl rfl rfl trivial (by first | assumption | kernel_rfl) (by kernel_rfl)) rfl ?_ ?_
    · intro h29; refine gg [15,0,9,24,2009,2008,30,29,28,27,26,25,24,23,22,21,20,19,18,17,16,15,9,8,7,6,2,1,8,34,37,27,2,0] ?_; refine ⟨⟨i + 1, by omega, by rw [hI, drop_get hx, drop_get hy, all2, h29, Bool.true_and]⟩, by simp only; omega, rfl, rfl, rfl, rfl, rfl, rfl, trivial⟩
    intro h29; refine gg [15,0,9,24,2009,2008,30,29,28,27,26,25,24,23,22,21,20,19,18,17,16,15,9,8,7,6,2,1,32,5,1,0,9,24,2009,2008,30,29,28,27,26,25,24,23,22,21,20,19,18,17,16,15,9,8,7,6,2,1,33] ?_; refine ⟨.inl rfl, _, rfl, .ofB ?_, trivial⟩; rw [hI, drop_get hx, drop_get hy, all2, h29, Bool.false_and]
  intro h18; refine gg [0,9,7,18,17,16,15,6,2,1,31,8,36,5,1,0,9,1,6,33] ?_; refine ⟨.inl rfl, _, rfl, .ofB ?_, trivial⟩; rw [hI, List.drop_eq_nil_of_le (by omega), List.drop_eq_nil_of_le (by omega), all2]

theorem tPat {n : Nat} (hn : n ≤ 1000000000) {p : Pa} (h : PaB n p) : ∀ p', Con Tryz.prog 47 [.agg (paX p), .agg (paX p')] [] (.c (.lit (.bool (p.same p')))) [] := by
  induction h with
  | @mk k a b nm m s kids hl _ ih =>
    rintro ⟨k', a', b', nm', m', s', kids'⟩; have hE := eqPa kids kids' (by kernel_rfl) (by omega) ih; rw [Pa.same, pasSame_all]; refine gg [38,5,22,2002,22,2003,1,0,9,5,2003,2002,4,3,2,5,6,0,1,7,6,0,1,7] ?_; refine bE ?_ ?_
    · intro h9; refine gg [2,6,3,1,7,6,3,1,7] ?_; refine bS ?_ ?_
      · intro h15; refine gg [16,2,6,4,1,7,6,4,1,7] ?_; refine bE ?_ ?_
        · intro h22; refine gg [16,2,6,5,1,7,6,5,1,7] ?_; refine bS ?_ ?_
          · intro h29; refine gg [16,2,6,6,1,7,6,6,1,7] ?_; refine u rfl rfl (r_callF (hE) rfl rfl rfl trivial (by kernel_rfl)) ?_; refine gg [16,1,0,9,1,4,33] ?_; refine ⟨.inl rfl, _, rfl, .ofB ?_, trivial⟩
            simp_all [Pa.kind, Pa.nm, Pa.n, Pa.s, Ex.kind, Ex.nm, Ex.arg, Ex.n, Ex.s, Ex.op]
          intro h29; refine gg [16,2,39,5,17,1,0,9,1,4,33] ?_; refine ⟨.inl rfl, _, rfl, .ofB ?_, trivial⟩
          simp_all [Pa.kind, Pa.nm, Pa.n, Pa.s, Ex.kind, Ex.nm, Ex.arg, Ex.n, Ex.s, Ex.op]
        intro h22; refine gg [16,2,39,5,17,2,39,5,17,1,0,9,1,4,33] ?_; refine ⟨.inl rfl, _, rfl, .ofB ?_, trivial⟩
        simp_all [Pa.kind, Pa.nm, Pa.n, Pa.s, Ex.kind, Ex.nm, Ex.arg, Ex.n, Ex.s, Ex.op]
      intro h15; refine gg [16,2,39,5,17,2,39,5,17,2,39,5,17,1,0,9,1,4,33] ?_; refine ⟨.inl rfl, _, rfl, .ofB ?_, trivial⟩
      simp_all [Pa.kind, Pa.nm, Pa.n, Pa.s, Ex.kind, Ex.nm, Ex.arg, Ex.n, Ex.s, Ex.op]
    intro h9; refine gg [2,39,5,17,2,39,5,17,2,39,5,17,2,39,5,17,1,0,9,1,4,33] ?_; refine ⟨.inl rfl, _, rfl, .ofB ?_, trivial⟩
    simp_all [Pa.kind, Pa.nm, Pa.n, Pa.s, Ex.kind, Ex.nm, Ex.arg, Ex.n, Ex.s, Ex.op]

theorem tEx {n : Nat} (hn : n ≤ 1000000000) {e : Ex} (h : ExB n e) : ∀ e', Con Tryz.prog 23 [.agg (exX e), .agg (exX e')] [] (.c (.lit (.bool (e.same e')))) [] := by
  induction h with
  | @mk k a b nm arg m s op A B pats kids hA hB hl1 hl2 hp he ih =>
    rintro ⟨k', a', b', nm', arg', m', s', op', A', B', pats', kids'⟩; have hE := eqEx kids kids' (by kernel_rfl) (by omega) ih; have hF := eqPa pats pats' (by kernel_rfl) (by omega) (fun x hx => tPat hn (hp x hx)); have hcA := tSame A.size A A' (by omega) (Nat.le_refl _); have hcB := tSame B.size B B' (by omega) (Nat.le_refl _); rw [Ex.same, exsSame_all]; refine gg [38,5,22,2002,22,2003,1,0,9,5,2003,2002,4,3,2,31,5,6,0,1,7,6,0,1,7] ?_; refine bN ?_ ?_
    · intro h9; refine gg [2,39,5,16,2,39,5,16,2,39,5,16,2,39,5,16,2,39,5,16,0,9,6,2003,2002,44,4,3,2,32,5,1,0,9,5,2003,2002,4,3,2,33] ?_; refine ⟨.inl rfl, _, rfl, .ofB ?_, trivial⟩
      simp_all [Pa.kind, Pa.nm, Pa.n, Pa.s, Ex.kind, Ex.nm, Ex.arg, Ex.n, Ex.s, Ex.op]
    intro h9; refine gg [2,6,3,1,7,6,3,1,7] ?_; refine bT ?_ ?_
    · intro h15; refine gg [17,2,39,5,16,2,39,5,16,2,39,5,16,2,39,5,16,0,9,6,2003,2002,44,4,3,2,32,5,1,0,9,5,2003,2002,4,3,2,33] ?_; refine ⟨.inl rfl, _, rfl, .ofB ?_, trivial⟩
      simp_all [Pa.kind, Pa.nm, Pa.n, Pa.s, Ex.kind, Ex.nm, Ex.arg, Ex.n, Ex.s, Ex.op]
    intro h15; refine gg [17,2,6,4,1,7,6,4,1,7] ?_; refine bT ?_ ?_
    · intro h22; refine gg [17,2,39,5,16,2,39,5,16,2,39,5,16,0,9,6,2003,2002,44,4,3,2,32,5,1,0,9,5,2003,2002,4,3,2,33] ?_; refine ⟨.inl rfl, _, rfl, .ofB ?_, trivial⟩
      simp_all [Pa.kind, Pa.nm, Pa.n, Pa.s, Ex.kind, Ex.nm, Ex.arg, Ex.n, Ex.s, Ex.op]
    intro h22; refine gg [17,2,6,5,1,7,6,5,1,7] ?_; refine bN ?_ ?_
    · intro h29; refine gg [17,2,39,5,16,2,39,5,16,0,9,6,2003,2002,44,4,3,2,32,5,1,0,9,5,2003,2002,4,3,2,33] ?_; refine ⟨.inl rfl, _, rfl, .ofB ?_, trivial⟩
      simp_all [Pa.kind, Pa.nm, Pa.n, Pa.s, Ex.kind, Ex.nm, Ex.arg, Ex.n, Ex.s, Ex.op]
    intro h29; refine gg [17,2,6,6,1,7,6,6,1,7] ?_; refine bT ?_ ?_
    · intro h36; refine gg [17,2,39,5,16,0,9,6,2003,2002,44,4,3,2,32,5,1,0,9,5,2003,2002,4,3,2,33] ?_; refine ⟨.inl rfl, _, rfl, .ofB ?_, trivial⟩
      simp_all [Pa.kind, Pa.nm, Pa.n, Pa.s, Ex.kind, Ex.nm, Ex.arg, Ex.n, Ex.s, Ex.op]
    intro h36; refine gg [17,2,6,7,1,7,6,7,1,7] ?_; refine bN ?_ ?_
    · intro h43; refine gg [17,0,9,6,2003,2002,44,4,3,2,32,5,1,0,9,5,2003,2002,4,3,2,33] ?_; refine ⟨.inl rfl, _, rfl, .ofB ?_, trivial⟩
      simp_all [Pa.kind, Pa.nm, Pa.n, Pa.s, Ex.kind, Ex.nm, Ex.arg, Ex.n, Ex.s, Ex.op]
    intro h43; refine gg [17,0,9,6,2003,2002,44,4,3,2,8,34,5,6,8,3,20,3,6,8,3,20,3] ?_; refine JR.runC rfl rfl (cl (hcA)) rfl ?_ ?_
    · intro h49; refine gg [2,6,11,3,20,3,6,11,3,20,3] ?_; refine JR.runC rfl rfl (cl (hcB)) rfl ?_ ?_
      · intro h55; refine gg [16,2,6,14,1,7,6,14,1,7] ?_; refine JR.runC rfl rfl (r_callF (hF) rfl rfl rfl trivial (by kernel_rfl)) rfl ?_ ?_
        · intro h62; refine gg [16,2,6,15,1,7,6,15,1,7] ?_; refine u rfl rfl (r_callF (hE) rfl rfl rfl trivial (by kernel_rfl)) ?_; refine gg [16,1,0,9,1,4,33] ?_; refine ⟨.inl rfl, _, rfl, .ofB ?_, trivial⟩
          simp_all [Pa.kind, Pa.nm, Pa.n, Pa.s, Ex.kind, Ex.nm, Ex.arg, Ex.n, Ex.s, Ex.op]
        intro h62; refine gg [16,2,39,5,17,1,0,9,1,4,33] ?_; refine ⟨.inl rfl, _, rfl, .ofB ?_, trivial⟩
        simp_all [Pa.kind, Pa.nm, Pa.n, Pa.s, Ex.kind, Ex.nm, Ex.arg, Ex.n, Ex.s, Ex.op]
      intro h55; refine gg [16,2,39,5,17,2,39,5,17,1,0,9,1,4,33] ?_; refine ⟨.inl rfl, _, rfl, .ofB ?_, trivial⟩
      simp_all [Pa.kind, Pa.nm, Pa.n, Pa.s, Ex.kind, Ex.nm, Ex.arg, Ex.n, Ex.s, Ex.op]
    intro h49; refine gg [2,39,5,17,2,39,5,17,2,39,5,17,1,0,9,1,4,33] ?_; refine ⟨.inl rfl, _, rfl, .ofB ?_, trivial⟩
    simp_all [Pa.kind, Pa.nm, Pa.n, Pa.s, Ex.kind, Ex.nm, Ex.arg, Ex.n, Ex.s, Ex.op]

end Go.Proofs.YtlagglkpbnbmeaaGreatDoor
