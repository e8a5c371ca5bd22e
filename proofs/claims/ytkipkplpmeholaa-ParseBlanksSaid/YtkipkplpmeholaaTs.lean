/- The program's Same of types, patterns, expressions, with slices.EqualFunc. -/
import Derived.Test.YtkipkplpmeholaaSh21
import Derived.Test.YtkipkplpmeholaaEp7
import Derived.Test.YtkipkplpmeholaaEb
import Derived.Test.YtkipkplpmeholaaNu
import Derived.Test.YtkipkplpmeholaaSp
namespace Go.Proofs.Ytkipkplpmeholaa
open Go Go.RowKit
set_option maxRecDepth 100000
set_option maxHeartbeats 2000000
set_option linter.unusedVariables false
set_option linter.unusedSimpArgs false

/-- two rows, one beside the other -/
def all2 {α : Type} (q : α → α → Bool) : List α → List α → Bool
  | [], [] => true
  | a :: r, b :: s => q a b && all2 q r s
  | _, _ => false
theorem all2_len {α : Type} {q : α → α → Bool} : ∀ (l r : List α), all2 q l r = true → l.length = r.length
  | [], [], _ => rfl
  | _ :: l, _ :: r, h => by rw [all2, Bool.and_eq_true] at h; rw [List.length_cons, List.length_cons, all2_len l r h.2]
  | [], _ :: _, h => by cases h
  | _ :: _, [], h => by cases h
theorem all2_iff {α : Type} {q : α → α → Bool} : ∀ {l r : List α}, all2 q l r = true ↔ l.length = r.length ∧ ∀ (i : Nat) (x y : α), l[i]? = some x → r[i]? = some y → q x y = true
  | [], [] => by simp [all2]
  | a :: l, b :: r => by
    rw [all2, Bool.and_eq_true, all2_iff (l := l) (r := r)]
    constructor
    · rintro ⟨h1, h2, h3⟩
      refine ⟨by simp [h2], fun i x y hx hy => ?_⟩
      cases i with
      | zero => simp at hx hy; subst hx; subst hy; exact h1
      | succ i => exact h3 i x y (by simpa using hx) (by simpa using hy)
    · rintro ⟨h1, h2⟩
      exact ⟨h2 0 a b rfl rfl, by simpa using h1, fun i x y hx hy => h2 (i + 1) x y (by simpa using hx) (by simpa using hy)⟩
  | [], _ :: _ => by simp [all2]
  | _ :: _, [] => by simp [all2]
theorem all2_cast {α : Type} {q : α → α → Bool} {l r : List α} (h : (l.length : Int) = r.length) : l.length = r.length := by omega
mutual
def Pa.same : Pa → Pa → Bool
  | .mk k _ _ nm n s kids, .mk k' _ _ nm' n' s' kids' => decide (k = k') && decide (nm = nm') && decide (n = n') && decide (s = s') && pasSame kids kids'
def pasSame : List Pa → List Pa → Bool
  | [], [] => true
  | a :: r, b :: t => a.same b && pasSame r t
  | _, _ => false
end
theorem pasSame_all : ∀ (l r : List Pa), pasSame l r = all2 Pa.same l r
  | [], [] => by rw [pasSame, all2]
  | a :: l, b :: r => by rw [pasSame, all2, pasSame_all l r]
  | [], _ :: _ => by simp [pasSame, all2]
  | _ :: _, [] => by simp [pasSame, all2]
mutual
def Ex.same : Ex → Ex → Bool
  | .mk k _ _ nm arg n s op A B pats kids, .mk k' _ _ nm' arg' n' s' op' A' B' pats' kids' => decide (k = k') && decide (nm = nm') && decide (arg = arg') && decide (n = n') && decide (s = s') && decide (op = op') && mSame A A' && mSame B B' && all2 Pa.same pats pats' && exsSame kids kids'
def exsSame : List Ex → List Ex → Bool
  | [], [] => true
  | a :: r, b :: t => a.same b && exsSame r t
  | _, _ => false
end
theorem exsSame_all : ∀ (l r : List Ex), exsSame l r = all2 Ex.same l r
  | [], [] => by rw [exsSame, all2]
  | a :: l, b :: r => by rw [exsSame, all2, exsSame_all l r]
  | [], _ :: _ => by simp [exsSame, all2]
  | _ :: _, [] => by simp [exsSame, all2]
theorem tys_at2 {l : List Ty} {k : Nat} {x : Ty} (h : l[k]? = some x) : (tysD l)[((k : Nat) : Int).toNat]? = some (tyX x) := by rw [← tyX_eq]; exact tysD_get (by simpa using h)
theorem pas_at2 {l : List Pa} {k : Nat} {x : Pa} (h : l[k]? = some x) : (pasD l)[((k : Nat) : Int).toNat]? = some (paX x) := by rw [pasD_map]; simp [h]
theorem exs_at2 {l : List Ex} {k : Nat} {x : Ex} (h : l[k]? = some x) : (exsD l)[((k : Nat) : Int).toNat]? = some (exX x) := by rw [exsD_map]; simp [h]
theorem mSames_cast {l r : List Ty} (h : (l.length : Int) ≠ r.length) : mSames l r = false := by
  rcases hb : mSames l r with _ | _
  · rfl
  · exact absurd (mSames_len _ _ hb) (by omega)
theorem all2_ne {α : Type} {q : α → α → Bool} {l r : List α} (h : l.length ≠ r.length) : all2 q l r = false := by
  rcases hb : all2 q l r with _ | _
  · rfl
  · exact absurd (all2_len _ _ hb) h
theorem tSame : ∀ (m : Nat) (t b : Ty), m ≤ 1000000000 → t.size ≤ m → Con Try.prog 25 [.agg (tyX t), .agg (tyX b)] [] (.c (.lit (.bool (mSame t b)))) []
  | 0, t, b, _, h => absurd t.size_pos (by omega)
  | m + 1, t, b, hm, h => by
    have hk := t.kids_lt
    have hl := tysD_len (t.kids)
    have hlb := tysD_len (b.kids)
    refine con_intro rfl rfl (by kernel_rfl) (by kernel_rfl) ?_
    refine js ?_
    refine u rfl rfl (r_boxA (x := 2002) rfl rfl rfl rfl) ?_
    refine u rfl rfl (r_boxA (x := 2003) rfl rfl rfl rfl) ?_
    refine u rfl rfl asg ?_
    refine jd ?_
    refine w5 2 3 4 2002 2003 ?_
    refine J_seq ?_
    refine js ?_
    refine u rfl rfl (fA 0 1) ?_
    refine u rfl rfl ld ?_
    refine u rfl rfl (fA 0 1) ?_
    refine u rfl rfl ld ?_
    refine JR.runB rfl rfl (r_neI rfl rfl rfl rfl) ?_ ?_
    · intro h11
      replace h11 := of_decide_eq_false (nT h11)
      refine u rfl rfl mv ?_
      refine sk ?_
      refine sk ?_
      refine sk ?_
      refine sk ?_
      refine sk ?_
      refine u rfl rfl pT ?_
      refine u rfl rfl mv ?_
      refine sk ?_
      refine sk ?_
      refine sk ?_
      refine sk ?_
      refine sk ?_
      refine sk ?_
      refine sk ?_
      refine u rfl rfl pT ?_
      refine jd ?_
      refine w6 2 3 4 27 2002 2003 ?_
      refine J_condT rfl ?_
      refine js ?_
      refine u rfl rfl asg ?_
      refine jd ?_
      refine w5 2 3 4 2002 2003 ?_
      refine J_ret ?_
      refine ⟨.inl rfl, _, rfl, .ofB ?_, trivial⟩
      rw [mSame_eq]
      first | (simp_all [tyX, mSames_cast]; done) | (rw [mSames_cast (by omega)]; simp_all [tyX])
    · intro h11
      replace h11 := of_decide_eq_true (nF h11)
      refine u rfl rfl mv ?_
      refine u rfl rfl (fA 1 1) ?_
      refine u rfl rfl ld ?_
      refine u rfl rfl (fA 1 1) ?_
      refine u rfl rfl ld ?_
      refine JR.runB rfl rfl (r_neI rfl rfl rfl rfl) ?_ ?_
      · intro h17
        replace h17 := of_decide_eq_false (nT h17)
        refine u rfl rfl pF ?_
        refine u rfl rfl mv ?_
        refine sk ?_
        refine sk ?_
        refine sk ?_
        refine sk ?_
        refine sk ?_
        refine sk ?_
        refine sk ?_
        refine u rfl rfl pT ?_
        refine jd ?_
        refine w6 2 3 4 27 2002 2003 ?_
        refine J_condT rfl ?_
        refine js ?_
        refine u rfl rfl asg ?_
        refine jd ?_
        refine w5 2 3 4 2002 2003 ?_
        refine J_ret ?_
        refine ⟨.inl rfl, _, rfl, .ofB ?_, trivial⟩
        rw [mSame_eq]
        first | (simp_all [tyX, mSames_cast]; done) | (rw [mSames_cast (by omega)]; simp_all [tyX])
      · intro h17
        replace h17 := of_decide_eq_true (nF h17)
        refine u rfl rfl pF ?_
        refine u rfl rfl mv ?_
        refine u rfl rfl (fA 2 1) ?_
        refine u rfl rfl ld ?_
        refine u rfl rfl ln0 ?_
        refine u rfl rfl (fA 2 1) ?_
        refine u rfl rfl ld ?_
        refine u rfl rfl ln0 ?_
        refine JR.runB rfl rfl (r_neI rfl rfl rfl rfl) ?_ ?_
        · intro h26
          replace h26 := of_decide_eq_false (nT h26)
          refine u rfl rfl pF ?_
          refine jd ?_
          refine w6 2 3 4 27 2002 2003 ?_
          refine J_condT rfl ?_
          refine js ?_
          refine u rfl rfl asg ?_
          refine jd ?_
          refine w5 2 3 4 2002 2003 ?_
          refine J_ret ?_
          refine ⟨.inl rfl, _, rfl, .ofB ?_, trivial⟩
          rw [mSame_eq]
          first | (simp_all [tyX, mSames_cast]; done) | (rw [mSames_cast (by omega)]; simp_all [tyX])
        · intro h26
          replace h26 := of_decide_eq_true (nF h26)
          refine u rfl rfl pF ?_
          refine jd ?_
          refine w6 2 3 4 27 2002 2003 ?_
          refine J_condF rfl ?_
          refine J_skip ?_
          refine J_seq ?_
          refine js ?_
          refine u rfl rfl (fA 2 1) ?_
          refine u rfl rfl ld ?_
          refine u rfl rfl ln0 ?_
          refine u rfl rfl mv ?_
          refine jd ?_
          refine w6 3 4 29 30 31 2003 ?_
          refine J_block ?_
          refine J_loopF (α := { i : Nat // i ≤ t.kids.length ∧ mSames t.kids b.kids = mSames (t.kids.drop i) (b.kids.drop i) }) (fun p => [(31, .c (.lit (.int .i64 (p.1 : Int))))]) [(3, _), (4, _), (29, _), (30, _), (2003, _)] (fun p => t.kids.length - p.1) ⟨0, Nat.zero_le _, rfl⟩ ⟨rfl, rfl, rfl, rfl, rfl, rfl, trivial⟩ ?_
          rintro ⟨i, hi, hI⟩
          dsimp only
          refine js ?_
          refine JR.runB rfl rfl (r_ltI rfl rfl rfl rfl) ?_ ?_
          · intro h32
            replace h32 := of_decide_eq_true h32
            obtain ⟨x, hx⟩ := get_some (l := t.kids) (i := i) (by omega)
            have hxs := Ty.kid_lt' hx
            obtain ⟨y, hy⟩ := get_some (l := b.kids) (i := i) (by omega)
            refine jd ?_
            refine w7 3 4 29 30 31 32 2003 ?_
            refine J_seq ?_
            refine J_condT rfl ?_
            refine J_skip ?_
            refine J_seq ?_
            refine J_block ?_
            refine js ?_
            refine u rfl rfl mv ?_
            refine u rfl rfl (r_indexAddr (e := 27) (sz := 3) rfl rfl (by kernel_rfl) rfl rfl (by omega) (tys_at2 hx)) ?_
            refine u rfl rfl (eA 3) ?_
            refine u rfl rfl (r_alloc (x := 2006) (zs := zt) dt rfl rfl rfl (by kernel_rfl) kt) ?_
            refine u rfl rfl asg ?_
            refine u rfl rfl sA ?_
            refine jd ?_
            refine w13 3 4 5 6 29 30 31 32 33 34 35 2003 2006 ?_
            refine js ?_
            refine u rfl rfl (lA 3) ?_
            refine u rfl rfl (fA 2 1) ?_
            refine u rfl rfl ld ?_
            refine u rfl rfl mv ?_
            refine u rfl rfl (r_indexAddr (e := 27) (sz := 3) rfl rfl (by kernel_rfl) rfl rfl (by omega) (tys_at2 hy)) ?_
            refine u rfl rfl (eA 3) ?_
            refine JR.runC rfl rfl (cl (tSame m x y (by omega) (by omega))) rfl ?_ ?_
            · intro h42
              refine u rfl rfl nt ?_
              refine jD [0, 0, 2, 0, 14, 30, 63, 127] ?_
              refine J_weak [(3, _), (4, _), (5, _), (6, _), (29, _), (30, _), (31, _), (32, _), (33, _), (34, _), (35, _), (36, _), (37, _), (38, _), (39, _), (40, _), (41, _), (42, _), (43, _), (2003, _), (2006, _)] ⟨rfl, rfl, rfl, rfl, rfl, rfl, rfl, rfl, rfl, rfl, rfl, rfl, rfl, rfl, rfl, rfl, rfl, rfl, rfl, rfl, rfl, trivial⟩ ?_
              refine J_condF rfl ?_
              refine J_skip ?_
              refine JR.start ?_
              refine u rfl rfl (r_addI rfl rfl rfl rfl (by omega)) ?_
              refine u rfl rfl mv ?_
              refine jd ?_
              refine ⟨⟨i + 1, by omega, by rw [hI, drop_get hx, drop_get hy, mSames, h42, Bool.true_and]⟩, by simp only; omega, rfl, rfl, rfl, rfl, rfl, rfl, trivial⟩
            · intro h42
              refine u rfl rfl nt ?_
              refine jD [0, 0, 2, 0, 14, 30, 63, 127] ?_
              refine J_weak [(3, _), (4, _), (5, _), (6, _), (29, _), (30, _), (31, _), (32, _), (33, _), (34, _), (35, _), (36, _), (37, _), (38, _), (39, _), (40, _), (41, _), (42, _), (43, _), (2003, _), (2006, _)] ⟨rfl, rfl, rfl, rfl, rfl, rfl, rfl, rfl, rfl, rfl, rfl, rfl, rfl, rfl, rfl, rfl, rfl, rfl, rfl, rfl, rfl, trivial⟩ ?_
              refine J_condT rfl ?_
              refine js ?_
              refine u rfl rfl asg ?_
              refine jd ?_
              refine J_weak [(3, _), (4, _), (5, _), (6, _), (29, _), (30, _), (31, _), (32, _), (33, _), (34, _), (35, _), (36, _), (37, _), (38, _), (39, _), (40, _), (41, _), (42, _), (43, _), (2003, _), (2006, _)] ⟨rfl, rfl, rfl, rfl, rfl, rfl, rfl, rfl, rfl, rfl, rfl, rfl, rfl, rfl, rfl, rfl, rfl, rfl, rfl, rfl, rfl, trivial⟩ ?_
              refine J_ret ?_
              refine ⟨.inl rfl, _, rfl, .ofB ?_, trivial⟩
              rw [mSame_eq, hI, drop_get hx, drop_get hy, mSames, h42, Bool.false_and, Bool.and_false]
          · intro h32
            replace h32 := of_decide_eq_false h32
            refine jd ?_
            refine w7 3 4 29 30 31 32 2003 ?_
            refine J_seq ?_
            refine J_condF rfl ?_
            refine J_exit ?_
            refine js ?_
            refine u rfl rfl asg ?_
            refine jd ?_
            refine w1 4 ?_
            refine J_ret ?_
            refine ⟨.inl rfl, _, rfl, .ofB ?_, trivial⟩
            rw [mSame_eq, hI, List.drop_eq_nil_of_le (by omega), List.drop_eq_nil_of_le (by omega), mSames, Bool.and_true]
            first | rfl | (simp_all [tyX])

theorem eqPa {f : FuncId} {q : Pa → Pa → Bool} (xs ys : List Pa) (hfo : callOK Try.prog f = true) (hn : xs.length ≤ 1000000000) (hC : ∀ x, x ∈ xs → ∀ y, Con Try.prog f [.agg (paX x), .agg (paX y)] [] (.c (.lit (.bool (q x y)))) []) : Con Try.prog 26 [.c (.sl 7 (pasD xs)), .c (.sl 7 (pasD ys)), .c (.lit (fnV f))] [] (.c (.lit (.bool (all2 q xs ys)))) [] := by
  have hl := pasD_len xs
  have hlb := pasD_len ys
  refine con_intro rfl rfl (by kernel_rfl) (by kernel_rfl) ?_
  refine js ?_
  refine u rfl rfl asg ?_
  refine jd ?_
  refine w4 0 1 2 6 ?_
  refine J_seq ?_
  refine js ?_
  refine u rfl rfl mv ?_
  refine u rfl rfl ln0 ?_
  refine u rfl rfl mv ?_
  refine u rfl rfl ln0 ?_
  refine JR.runB rfl rfl (r_neI rfl rfl rfl rfl) ?_ ?_
  · intro h14
    replace h14 := of_decide_eq_false (nT h14)
    refine jd ?_
    refine w5 0 1 2 6 14 ?_
    refine J_condT rfl ?_
    refine js ?_
    refine u rfl rfl asg ?_
    refine jd ?_
    refine w4 0 1 2 6 ?_
    refine J_ret ?_
    refine ⟨.inl rfl, _, rfl, .ofB ?_, trivial⟩
    rw [all2_ne (by omega)]
  · intro h14
    replace h14 := of_decide_eq_true (nF h14)
    refine jd ?_
    refine w5 0 1 2 6 14 ?_
    refine J_condF rfl ?_
    refine J_skip ?_
    refine J_seq ?_
    refine js ?_
    refine u rfl rfl mv ?_
    refine u rfl rfl ln0 ?_
    refine u rfl rfl mv ?_
    refine jd ?_
    refine w6 1 2 6 15 16 17 ?_
    refine J_block ?_
    refine J_loopF (α := { i : Nat // i ≤ xs.length ∧ all2 q xs ys = all2 q (xs.drop i) (ys.drop i) }) (fun p => [(17, .c (.lit (.int .i64 (p.1 : Int))))]) [(1, _), (2, _), (6, _), (15, _), (16, _)] (fun p => xs.length - p.1) ⟨0, Nat.zero_le _, rfl⟩ ⟨rfl, rfl, rfl, rfl, rfl, rfl, trivial⟩ ?_
    rintro ⟨i, hi, hI⟩
    dsimp only
    refine js ?_
    refine JR.runB rfl rfl (r_ltI rfl rfl rfl rfl) ?_ ?_
    · intro h18
      replace h18 := of_decide_eq_true h18
      obtain ⟨x, hx⟩ := get_some (l := xs) (i := i) (by omega)
      obtain ⟨y, hy⟩ := get_some (l := ys) (i := i) (by omega)
      have hcx := hC x (List.mem_of_getElem? hx) y
      refine jd ?_
      refine w7 1 2 6 15 16 17 18 ?_
      refine J_seq ?_
      refine J_condT rfl ?_
      refine J_skip ?_
      refine J_seq ?_
      refine J_block ?_
      refine js ?_
      refine u rfl rfl mv ?_
      refine u rfl rfl (r_indexAddr (e := 64) (sz := 7) rfl rfl (by kernel_rfl) rfl rfl (by omega) (pas_at2 hx)) ?_
      refine u rfl rfl (eA 7) ?_
      refine u rfl rfl (r_alloc (x := 2008) (zs := zp) dp rfl rfl rfl (by kernel_rfl) kp) ?_
      refine u rfl rfl asg ?_
      refine u rfl rfl sA ?_
      refine jd ?_
      refine w13 1 2 6 7 8 15 16 17 18 19 20 21 2008 ?_
      refine js ?_
      refine u rfl rfl mv ?_
      refine u rfl rfl mv ?_
      refine u rfl rfl (r_indexAddr (e := 64) (sz := 7) rfl rfl (by kernel_rfl) rfl rfl (by omega) (pas_at2 hy)) ?_
      refine u rfl rfl (eA 7) ?_
      refine u rfl rfl (r_alloc (x := 2009) (zs := zp) dp rfl rfl rfl (by kernel_rfl) kp) ?_
      refine u rfl rfl sA ?_
      refine jd ?_
      refine J_weak [(1, _), (2, _), (6, _), (7, _), (8, _), (9, _), (15, _), (16, _), (17, _), (18, _), (19, _), (20, _), (21, _), (22, _), (23, _), (24, _), (25, _), (2008, _), (2009, _)] ⟨rfl, rfl, rfl, rfl, rfl, rfl, rfl, rfl, rfl, rfl, rfl, rfl, rfl, rfl, rfl, rfl, rfl, rfl, rfl, trivial⟩ ?_
      refine js ?_
      refine u rfl rfl mv ?_
      refine u rfl rfl (lA 7) ?_
      refine u rfl rfl (lA 7) ?_
      refine JR.runC rfl rfl (r_callv (hcx) rfl rfl rfl rfl trivial (by first | assumption | kernel_rfl) (by kernel_rfl)) rfl ?_ ?_
      · intro h29
        refine u rfl rfl nt ?_
        refine jd ?_
        refine J_weak [(1, _), (2, _), (6, _), (7, _), (8, _), (9, _), (15, _), (16, _), (17, _), (18, _), (19, _), (20, _), (21, _), (22, _), (23, _), (24, _), (25, _), (26, _), (27, _), (28, _), (29, _), (30, _), (2008, _), (2009, _)] ⟨rfl, rfl, rfl, rfl, rfl, rfl, rfl, rfl, rfl, rfl, rfl, rfl, rfl, rfl, rfl, rfl, rfl, rfl, rfl, rfl, rfl, rfl, rfl, rfl, trivial⟩ ?_
        refine J_condF rfl ?_
        refine J_skip ?_
        refine JR.start ?_
        refine u rfl rfl (r_addI rfl rfl rfl rfl (by omega)) ?_
        refine u rfl rfl mv ?_
        refine jd ?_
        refine ⟨⟨i + 1, by omega, by rw [hI, drop_get hx, drop_get hy, all2, h29, Bool.true_and]⟩, by simp only; omega, rfl, rfl, rfl, rfl, rfl, rfl, trivial⟩
      · intro h29
        refine u rfl rfl nt ?_
        refine jd ?_
        refine J_weak [(1, _), (2, _), (6, _), (7, _), (8, _), (9, _), (15, _), (16, _), (17, _), (18, _), (19, _), (20, _), (21, _), (22, _), (23, _), (24, _), (25, _), (26, _), (27, _), (28, _), (29, _), (30, _), (2008, _), (2009, _)] ⟨rfl, rfl, rfl, rfl, rfl, rfl, rfl, rfl, rfl, rfl, rfl, rfl, rfl, rfl, rfl, rfl, rfl, rfl, rfl, rfl, rfl, rfl, rfl, rfl, trivial⟩ ?_
        refine J_condT rfl ?_
        refine js ?_
        refine u rfl rfl asg ?_
        refine jd ?_
        refine J_weak [(1, _), (2, _), (6, _), (7, _), (8, _), (9, _), (15, _), (16, _), (17, _), (18, _), (19, _), (20, _), (21, _), (22, _), (23, _), (24, _), (25, _), (26, _), (27, _), (28, _), (29, _), (30, _), (2008, _), (2009, _)] ⟨rfl, rfl, rfl, rfl, rfl, rfl, rfl, rfl, rfl, rfl, rfl, rfl, rfl, rfl, rfl, rfl, rfl, rfl, rfl, rfl, rfl, rfl, rfl, rfl, trivial⟩ ?_
        refine J_ret ?_
        refine ⟨.inl rfl, _, rfl, .ofB ?_, trivial⟩
        rw [hI, drop_get hx, drop_get hy, all2, h29, Bool.false_and]
    · intro h18
      replace h18 := of_decide_eq_false h18
      refine jd ?_
      refine w7 1 2 6 15 16 17 18 ?_
      refine J_seq ?_
      refine J_condF rfl ?_
      refine J_exit ?_
      refine js ?_
      refine u rfl rfl asg ?_
      refine jd ?_
      refine w1 6 ?_
      refine J_ret ?_
      refine ⟨.inl rfl, _, rfl, .ofB ?_, trivial⟩
      rw [hI, List.drop_eq_nil_of_le (by omega), List.drop_eq_nil_of_le (by omega), all2]

theorem eqEx {f : FuncId} {q : Ex → Ex → Bool} (xs ys : List Ex) (hfo : callOK Try.prog f = true) (hn : xs.length ≤ 1000000000) (hC : ∀ x, x ∈ xs → ∀ y, Con Try.prog f [.agg (exX x), .agg (exX y)] [] (.c (.lit (.bool (q x y)))) []) : Con Try.prog 28 [.c (.sl 16 (exsD xs)), .c (.sl 16 (exsD ys)), .c (.lit (fnV f))] [] (.c (.lit (.bool (all2 q xs ys)))) [] := by
  have hl := exsD_len xs
  have hlb := exsD_len ys
  refine con_intro rfl rfl (by kernel_rfl) (by kernel_rfl) ?_
  refine js ?_
  refine u rfl rfl asg ?_
  refine jd ?_
  refine w4 0 1 2 6 ?_
  refine J_seq ?_
  refine js ?_
  refine u rfl rfl mv ?_
  refine u rfl rfl ln0 ?_
  refine u rfl rfl mv ?_
  refine u rfl rfl ln0 ?_
  refine JR.runB rfl rfl (r_neI rfl rfl rfl rfl) ?_ ?_
  · intro h14
    replace h14 := of_decide_eq_false (nT h14)
    refine jd ?_
    refine w5 0 1 2 6 14 ?_
    refine J_condT rfl ?_
    refine js ?_
    refine u rfl rfl asg ?_
    refine jd ?_
    refine w4 0 1 2 6 ?_
    refine J_ret ?_
    refine ⟨.inl rfl, _, rfl, .ofB ?_, trivial⟩
    rw [all2_ne (by omega)]
  · intro h14
    replace h14 := of_decide_eq_true (nF h14)
    refine jd ?_
    refine w5 0 1 2 6 14 ?_
    refine J_condF rfl ?_
    refine J_skip ?_
    refine J_seq ?_
    refine js ?_
    refine u rfl rfl mv ?_
    refine u rfl rfl ln0 ?_
    refine u rfl rfl mv ?_
    refine jd ?_
    refine w6 1 2 6 15 16 17 ?_
    refine J_block ?_
    refine J_loopF (α := { i : Nat // i ≤ xs.length ∧ all2 q xs ys = all2 q (xs.drop i) (ys.drop i) }) (fun p => [(17, .c (.lit (.int .i64 (p.1 : Int))))]) [(1, _), (2, _), (6, _), (15, _), (16, _)] (fun p => xs.length - p.1) ⟨0, Nat.zero_le _, rfl⟩ ⟨rfl, rfl, rfl, rfl, rfl, rfl, trivial⟩ ?_
    rintro ⟨i, hi, hI⟩
    dsimp only
    refine js ?_
    refine JR.runB rfl rfl (r_ltI rfl rfl rfl rfl) ?_ ?_
    · intro h18
      replace h18 := of_decide_eq_true h18
      obtain ⟨x, hx⟩ := get_some (l := xs) (i := i) (by omega)
      obtain ⟨y, hy⟩ := get_some (l := ys) (i := i) (by omega)
      have hcx := hC x (List.mem_of_getElem? hx) y
      refine jd ?_
      refine w7 1 2 6 15 16 17 18 ?_
      refine J_seq ?_
      refine J_condT rfl ?_
      refine J_skip ?_
      refine J_seq ?_
      refine J_block ?_
      refine js ?_
      refine u rfl rfl mv ?_
      refine u rfl rfl (r_indexAddr (e := 31) (sz := 16) rfl rfl (by kernel_rfl) rfl rfl (by omega) (exs_at2 hx)) ?_
      refine u rfl rfl (eA 16) ?_
      refine u rfl rfl (r_alloc (x := 2008) (zs := zx) dx rfl rfl rfl (by kernel_rfl) kx) ?_
      refine u rfl rfl asg ?_
      refine u rfl rfl sA ?_
      refine jd ?_
      refine w13 1 2 6 7 8 15 16 17 18 19 20 21 2008 ?_
      refine js ?_
      refine u rfl rfl mv ?_
      refine u rfl rfl mv ?_
      refine u rfl rfl (r_indexAddr (e := 31) (sz := 16) rfl rfl (by kernel_rfl) rfl rfl (by omega) (exs_at2 hy)) ?_
      refine u rfl rfl (eA 16) ?_
      refine u rfl rfl (r_alloc (x := 2009) (zs := zx) dx rfl rfl rfl (by kernel_rfl) kx) ?_
      refine u rfl rfl sA ?_
      refine jd ?_
      refine J_weak [(1, _), (2, _), (6, _), (7, _), (8, _), (9, _), (15, _), (16, _), (17, _), (18, _), (19, _), (20, _), (21, _), (22, _), (23, _), (24, _), (25, _), (2008, _), (2009, _)] ⟨rfl, rfl, rfl, rfl, rfl, rfl, rfl, rfl, rfl, rfl, rfl, rfl, rfl, rfl, rfl, rfl, rfl, rfl, rfl, trivial⟩ ?_
      refine js ?_
      refine u rfl rfl mv ?_
      refine u rfl rfl (lA 16) ?_
      refine u rfl rfl (lA 16) ?_
      refine JR.runC rfl rfl (r_callv (hcx) rfl rfl rfl rfl trivial (by first | assumption | kernel_rfl) (by kernel_rfl)) rfl ?_ ?_
      · intro h29
        refine u rfl rfl nt ?_
        refine jd ?_
        refine J_weak [(1, _), (2, _), (6, _), (7, _), (8, _), (9, _), (15, _), (16, _), (17, _), (18, _), (19, _), (20, _), (21, _), (22, _), (23, _), (24, _), (25, _), (26, _), (27, _), (28, _), (29, _), (30, _), (2008, _), (2009, _)] ⟨rfl, rfl, rfl, rfl, rfl, rfl, rfl, rfl, rfl, rfl, rfl, rfl, rfl, rfl, rfl, rfl, rfl, rfl, rfl, rfl, rfl, rfl, rfl, rfl, trivial⟩ ?_
        refine J_condF rfl ?_
        refine J_skip ?_
        refine JR.start ?_
        refine u rfl rfl (r_addI rfl rfl rfl rfl (by omega)) ?_
        refine u rfl rfl mv ?_
        refine jd ?_
        refine ⟨⟨i + 1, by omega, by rw [hI, drop_get hx, drop_get hy, all2, h29, Bool.true_and]⟩, by simp only; omega, rfl, rfl, rfl, rfl, rfl, rfl, trivial⟩
      · intro h29
        refine u rfl rfl nt ?_
        refine jd ?_
        refine J_weak [(1, _), (2, _), (6, _), (7, _), (8, _), (9, _), (15, _), (16, _), (17, _), (18, _), (19, _), (20, _), (21, _), (22, _), (23, _), (24, _), (25, _), (26, _), (27, _), (28, _), (29, _), (30, _), (2008, _), (2009, _)] ⟨rfl, rfl, rfl, rfl, rfl, rfl, rfl, rfl, rfl, rfl, rfl, rfl, rfl, rfl, rfl, rfl, rfl, rfl, rfl, rfl, rfl, rfl, rfl, rfl, trivial⟩ ?_
        refine J_condT rfl ?_
        refine js ?_
        refine u rfl rfl asg ?_
        refine jd ?_
        refine J_weak [(1, _), (2, _), (6, _), (7, _), (8, _), (9, _), (15, _), (16, _), (17, _), (18, _), (19, _), (20, _), (21, _), (22, _), (23, _), (24, _), (25, _), (26, _), (27, _), (28, _), (29, _), (30, _), (2008, _), (2009, _)] ⟨rfl, rfl, rfl, rfl, rfl, rfl, rfl, rfl, rfl, rfl, rfl, rfl, rfl, rfl, rfl, rfl, rfl, rfl, rfl, rfl, rfl, rfl, rfl, rfl, trivial⟩ ?_
        refine J_ret ?_
        refine ⟨.inl rfl, _, rfl, .ofB ?_, trivial⟩
        rw [hI, drop_get hx, drop_get hy, all2, h29, Bool.false_and]
    · intro h18
      replace h18 := of_decide_eq_false h18
      refine jd ?_
      refine w7 1 2 6 15 16 17 18 ?_
      refine J_seq ?_
      refine J_condF rfl ?_
      refine J_exit ?_
      refine js ?_
      refine u rfl rfl asg ?_
      refine jd ?_
      refine w1 6 ?_
      refine J_ret ?_
      refine ⟨.inl rfl, _, rfl, .ofB ?_, trivial⟩
      rw [hI, List.drop_eq_nil_of_le (by omega), List.drop_eq_nil_of_le (by omega), all2]

theorem tPat {n : Nat} (hn : n ≤ 1000000000) {p : Pa} (h : PaB n p) : ∀ p', Con Try.prog 27 [.agg (paX p), .agg (paX p')] [] (.c (.lit (.bool (p.same p')))) [] := by
  induction h with
  | @mk k a b nm m s kids hl _ ih =>
    rintro ⟨k', a', b', nm', m', s', kids'⟩
    have hE := eqPa kids kids' (by kernel_rfl) (by omega) ih
    rw [Pa.same, pasSame_all]
    refine con_intro rfl rfl (by kernel_rfl) (by kernel_rfl) ?_
    refine js ?_
    refine u rfl rfl (r_boxA (x := 2002) rfl rfl rfl rfl) ?_
    refine u rfl rfl (r_boxA (x := 2003) rfl rfl rfl rfl) ?_
    refine u rfl rfl asg ?_
    refine jd ?_
    refine w5 2 3 4 2002 2003 ?_
    refine js ?_
    refine u rfl rfl (fA 0 1) ?_
    refine u rfl rfl ld ?_
    refine u rfl rfl (fA 0 1) ?_
    refine u rfl rfl ld ?_
    refine JR.runB rfl rfl (r_eqI rfl rfl rfl rfl) ?_ ?_
    · intro h9
      replace h9 := of_decide_eq_true h9
      refine u rfl rfl mv ?_
      refine u rfl rfl (fA 3 1) ?_
      refine u rfl rfl ld ?_
      refine u rfl rfl (fA 3 1) ?_
      refine u rfl rfl ld ?_
      refine JR.runB rfl rfl (r_eqS rfl rfl rfl rfl) ?_ ?_
      · intro h15
        refine u rfl rfl pT ?_
        refine u rfl rfl mv ?_
        refine u rfl rfl (fA 4 1) ?_
        refine u rfl rfl ld ?_
        refine u rfl rfl (fA 4 1) ?_
        refine u rfl rfl ld ?_
        refine JR.runB rfl rfl (r_eqI rfl rfl rfl rfl) ?_ ?_
        · intro h22
          replace h22 := of_decide_eq_true h22
          refine u rfl rfl pT ?_
          refine u rfl rfl mv ?_
          refine u rfl rfl (fA 5 1) ?_
          refine u rfl rfl ld ?_
          refine u rfl rfl (fA 5 1) ?_
          refine u rfl rfl ld ?_
          refine JR.runB rfl rfl (r_eqS rfl rfl rfl rfl) ?_ ?_
          · intro h29
            refine u rfl rfl pT ?_
            refine u rfl rfl mv ?_
            refine u rfl rfl (fA 6 1) ?_
            refine u rfl rfl ld ?_
            refine u rfl rfl (fA 6 1) ?_
            refine u rfl rfl ld ?_
            refine u rfl rfl (r_callF (hE) rfl rfl rfl trivial (by kernel_rfl)) ?_
            refine u rfl rfl pT ?_
            refine u rfl rfl asg ?_
            refine jd ?_
            refine w1 4 ?_
            refine J_ret ?_
            refine ⟨.inl rfl, _, rfl, .ofB ?_, trivial⟩
            simp_all [Pa.kind, Pa.nm, Pa.n, Pa.s, Ex.kind, Ex.nm, Ex.arg, Ex.n, Ex.s, Ex.op]
          · intro h29
            refine u rfl rfl pT ?_
            refine u rfl rfl mv ?_
            refine sk ?_
            refine sk ?_
            refine sk ?_
            refine sk ?_
            refine sk ?_
            refine u rfl rfl pF ?_
            refine u rfl rfl asg ?_
            refine jd ?_
            refine w1 4 ?_
            refine J_ret ?_
            refine ⟨.inl rfl, _, rfl, .ofB ?_, trivial⟩
            simp_all [Pa.kind, Pa.nm, Pa.n, Pa.s, Ex.kind, Ex.nm, Ex.arg, Ex.n, Ex.s, Ex.op]
        · intro h22
          replace h22 := of_decide_eq_false h22
          refine u rfl rfl pT ?_
          refine u rfl rfl mv ?_
          refine sk ?_
          refine sk ?_
          refine sk ?_
          refine sk ?_
          refine sk ?_
          refine u rfl rfl pF ?_
          refine u rfl rfl mv ?_
          refine sk ?_
          refine sk ?_
          refine sk ?_
          refine sk ?_
          refine sk ?_
          refine u rfl rfl pF ?_
          refine u rfl rfl asg ?_
          refine jd ?_
          refine w1 4 ?_
          refine J_ret ?_
          refine ⟨.inl rfl, _, rfl, .ofB ?_, trivial⟩
          simp_all [Pa.kind, Pa.nm, Pa.n, Pa.s, Ex.kind, Ex.nm, Ex.arg, Ex.n, Ex.s, Ex.op]
      · intro h15
        refine u rfl rfl pT ?_
        refine u rfl rfl mv ?_
        refine sk ?_
        refine sk ?_
        refine sk ?_
        refine sk ?_
        refine sk ?_
        refine u rfl rfl pF ?_
        refine u rfl rfl mv ?_
        refine sk ?_
        refine sk ?_
        refine sk ?_
        refine sk ?_
        refine sk ?_
        refine u rfl rfl pF ?_
        refine u rfl rfl mv ?_
        refine sk ?_
        refine sk ?_
        refine sk ?_
        refine sk ?_
        refine sk ?_
        refine u rfl rfl pF ?_
        refine u rfl rfl asg ?_
        refine jd ?_
        refine w1 4 ?_
        refine J_ret ?_
        refine ⟨.inl rfl, _, rfl, .ofB ?_, trivial⟩
        simp_all [Pa.kind, Pa.nm, Pa.n, Pa.s, Ex.kind, Ex.nm, Ex.arg, Ex.n, Ex.s, Ex.op]
    · intro h9
      replace h9 := of_decide_eq_false h9
      refine u rfl rfl mv ?_
      refine sk ?_
      refine sk ?_
      refine sk ?_
      refine sk ?_
      refine sk ?_
      refine u rfl rfl pF ?_
      refine u rfl rfl mv ?_
      refine sk ?_
      refine sk ?_
      refine sk ?_
      refine sk ?_
      refine sk ?_
      refine u rfl rfl pF ?_
      refine u rfl rfl mv ?_
      refine sk ?_
      refine sk ?_
      refine sk ?_
      refine sk ?_
      refine sk ?_
      refine u rfl rfl pF ?_
      refine u rfl rfl mv ?_
      refine sk ?_
      refine sk ?_
      refine sk ?_
      refine sk ?_
      refine sk ?_
      refine u rfl rfl pF ?_
      refine u rfl rfl asg ?_
      refine jd ?_
      refine w1 4 ?_
      refine J_ret ?_
      refine ⟨.inl rfl, _, rfl, .ofB ?_, trivial⟩
      simp_all [Pa.kind, Pa.nm, Pa.n, Pa.s, Ex.kind, Ex.nm, Ex.arg, Ex.n, Ex.s, Ex.op]

theorem tEx {n : Nat} (hn : n ≤ 1000000000) {e : Ex} (h : ExB n e) : ∀ e', Con Try.prog 13 [.agg (exX e), .agg (exX e')] [] (.c (.lit (.bool (e.same e')))) [] := by
  induction h with
  | @mk k a b nm arg m s op A B pats kids hA hB hl1 hl2 hp he ih =>
    rintro ⟨k', a', b', nm', arg', m', s', op', A', B', pats', kids'⟩
    have hE := eqEx kids kids' (by kernel_rfl) (by omega) ih
    have hF := eqPa pats pats' (by kernel_rfl) (by omega) (fun x hx => tPat hn (hp x hx))
    have hcA := tSame A.size A A' (by omega) (Nat.le_refl _)
    have hcB := tSame B.size B B' (by omega) (Nat.le_refl _)
    rw [Ex.same, exsSame_all]
    refine con_intro rfl rfl (by kernel_rfl) (by kernel_rfl) ?_
    refine js ?_
    refine u rfl rfl (r_boxA (x := 2002) rfl rfl rfl rfl) ?_
    refine u rfl rfl (r_boxA (x := 2003) rfl rfl rfl rfl) ?_
    refine u rfl rfl asg ?_
    refine jd ?_
    refine w5 2 3 4 2002 2003 ?_
    refine J_seq ?_
    refine js ?_
    refine u rfl rfl (fA 0 1) ?_
    refine u rfl rfl ld ?_
    refine u rfl rfl (fA 0 1) ?_
    refine u rfl rfl ld ?_
    refine JR.runB rfl rfl (r_neI rfl rfl rfl rfl) ?_ ?_
    · intro h9
      replace h9 := of_decide_eq_false (nT h9)
      refine u rfl rfl mv ?_
      refine sk ?_
      refine sk ?_
      refine sk ?_
      refine sk ?_
      refine sk ?_
      refine u rfl rfl pT ?_
      refine u rfl rfl mv ?_
      refine sk ?_
      refine sk ?_
      refine sk ?_
      refine sk ?_
      refine sk ?_
      refine u rfl rfl pT ?_
      refine u rfl rfl mv ?_
      refine sk ?_
      refine sk ?_
      refine sk ?_
      refine sk ?_
      refine sk ?_
      refine u rfl rfl pT ?_
      refine u rfl rfl mv ?_
      refine sk ?_
      refine sk ?_
      refine sk ?_
      refine sk ?_
      refine sk ?_
      refine u rfl rfl pT ?_
      refine u rfl rfl mv ?_
      refine sk ?_
      refine sk ?_
      refine sk ?_
      refine sk ?_
      refine sk ?_
      refine u rfl rfl pT ?_
      refine jd ?_
      refine w6 2 3 4 44 2002 2003 ?_
      refine J_condT rfl ?_
      refine js ?_
      refine u rfl rfl asg ?_
      refine jd ?_
      refine w5 2 3 4 2002 2003 ?_
      refine J_ret ?_
      refine ⟨.inl rfl, _, rfl, .ofB ?_, trivial⟩
      simp_all [Pa.kind, Pa.nm, Pa.n, Pa.s, Ex.kind, Ex.nm, Ex.arg, Ex.n, Ex.s, Ex.op]
    · intro h9
      replace h9 := of_decide_eq_true (nF h9)
      refine u rfl rfl mv ?_
      refine u rfl rfl (fA 3 1) ?_
      refine u rfl rfl ld ?_
      refine u rfl rfl (fA 3 1) ?_
      refine u rfl rfl ld ?_
      refine JR.runB rfl rfl (r_neS rfl rfl rfl rfl) ?_ ?_
      · intro h15
        replace h15 := nT h15
        refine u rfl rfl pF ?_
        refine u rfl rfl mv ?_
        refine sk ?_
        refine sk ?_
        refine sk ?_
        refine sk ?_
        refine sk ?_
        refine u rfl rfl pT ?_
        refine u rfl rfl mv ?_
        refine sk ?_
        refine sk ?_
        refine sk ?_
        refine sk ?_
        refine sk ?_
        refine u rfl rfl pT ?_
        refine u rfl rfl mv ?_
        refine sk ?_
        refine sk ?_
        refine sk ?_
        refine sk ?_
        refine sk ?_
        refine u rfl rfl pT ?_
        refine u rfl rfl mv ?_
        refine sk ?_
        refine sk ?_
        refine sk ?_
        refine sk ?_
        refine sk ?_
        refine u rfl rfl pT ?_
        refine jd ?_
        refine w6 2 3 4 44 2002 2003 ?_
        refine J_condT rfl ?_
        refine js ?_
        refine u rfl rfl asg ?_
        refine jd ?_
        refine w5 2 3 4 2002 2003 ?_
        refine J_ret ?_
        refine ⟨.inl rfl, _, rfl, .ofB ?_, trivial⟩
        simp_all [Pa.kind, Pa.nm, Pa.n, Pa.s, Ex.kind, Ex.nm, Ex.arg, Ex.n, Ex.s, Ex.op]
      · intro h15
        replace h15 := nF h15
        refine u rfl rfl pF ?_
        refine u rfl rfl mv ?_
        refine u rfl rfl (fA 4 1) ?_
        refine u rfl rfl ld ?_
        refine u rfl rfl (fA 4 1) ?_
        refine u rfl rfl ld ?_
        refine JR.runB rfl rfl (r_neS rfl rfl rfl rfl) ?_ ?_
        · intro h22
          replace h22 := nT h22
          refine u rfl rfl pF ?_
          refine u rfl rfl mv ?_
          refine sk ?_
          refine sk ?_
          refine sk ?_
          refine sk ?_
          refine sk ?_
          refine u rfl rfl pT ?_
          refine u rfl rfl mv ?_
          refine sk ?_
          refine sk ?_
          refine sk ?_
          refine sk ?_
          refine sk ?_
          refine u rfl rfl pT ?_
          refine u rfl rfl mv ?_
          refine sk ?_
          refine sk ?_
          refine sk ?_
          refine sk ?_
          refine sk ?_
          refine u rfl rfl pT ?_
          refine jd ?_
          refine w6 2 3 4 44 2002 2003 ?_
          refine J_condT rfl ?_
          refine js ?_
          refine u rfl rfl asg ?_
          refine jd ?_
          refine w5 2 3 4 2002 2003 ?_
          refine J_ret ?_
          refine ⟨.inl rfl, _, rfl, .ofB ?_, trivial⟩
          simp_all [Pa.kind, Pa.nm, Pa.n, Pa.s, Ex.kind, Ex.nm, Ex.arg, Ex.n, Ex.s, Ex.op]
        · intro h22
          replace h22 := nF h22
          refine u rfl rfl pF ?_
          refine u rfl rfl mv ?_
          refine u rfl rfl (fA 5 1) ?_
          refine u rfl rfl ld ?_
          refine u rfl rfl (fA 5 1) ?_
          refine u rfl rfl ld ?_
          refine JR.runB rfl rfl (r_neI rfl rfl rfl rfl) ?_ ?_
          · intro h29
            replace h29 := of_decide_eq_false (nT h29)
            refine u rfl rfl pF ?_
            refine u rfl rfl mv ?_
            refine sk ?_
            refine sk ?_
            refine sk ?_
            refine sk ?_
            refine sk ?_
            refine u rfl rfl pT ?_
            refine u rfl rfl mv ?_
            refine sk ?_
            refine sk ?_
            refine sk ?_
            refine sk ?_
            refine sk ?_
            refine u rfl rfl pT ?_
            refine jd ?_
            refine w6 2 3 4 44 2002 2003 ?_
            refine J_condT rfl ?_
            refine js ?_
            refine u rfl rfl asg ?_
            refine jd ?_
            refine w5 2 3 4 2002 2003 ?_
            refine J_ret ?_
            refine ⟨.inl rfl, _, rfl, .ofB ?_, trivial⟩
            simp_all [Pa.kind, Pa.nm, Pa.n, Pa.s, Ex.kind, Ex.nm, Ex.arg, Ex.n, Ex.s, Ex.op]
          · intro h29
            replace h29 := of_decide_eq_true (nF h29)
            refine u rfl rfl pF ?_
            refine u rfl rfl mv ?_
            refine u rfl rfl (fA 6 1) ?_
            refine u rfl rfl ld ?_
            refine u rfl rfl (fA 6 1) ?_
            refine u rfl rfl ld ?_
            refine JR.runB rfl rfl (r_neS rfl rfl rfl rfl) ?_ ?_
            · intro h36
              replace h36 := nT h36
              refine u rfl rfl pF ?_
              refine u rfl rfl mv ?_
              refine sk ?_
              refine sk ?_
              refine sk ?_
              refine sk ?_
              refine sk ?_
              refine u rfl rfl pT ?_
              refine jd ?_
              refine w6 2 3 4 44 2002 2003 ?_
              refine J_condT rfl ?_
              refine js ?_
              refine u rfl rfl asg ?_
              refine jd ?_
              refine w5 2 3 4 2002 2003 ?_
              refine J_ret ?_
              refine ⟨.inl rfl, _, rfl, .ofB ?_, trivial⟩
              simp_all [Pa.kind, Pa.nm, Pa.n, Pa.s, Ex.kind, Ex.nm, Ex.arg, Ex.n, Ex.s, Ex.op]
            · intro h36
              replace h36 := nF h36
              refine u rfl rfl pF ?_
              refine u rfl rfl mv ?_
              refine u rfl rfl (fA 7 1) ?_
              refine u rfl rfl ld ?_
              refine u rfl rfl (fA 7 1) ?_
              refine u rfl rfl ld ?_
              refine JR.runB rfl rfl (r_neI rfl rfl rfl rfl) ?_ ?_
              · intro h43
                replace h43 := of_decide_eq_false (nT h43)
                refine u rfl rfl pF ?_
                refine jd ?_
                refine w6 2 3 4 44 2002 2003 ?_
                refine J_condT rfl ?_
                refine js ?_
                refine u rfl rfl asg ?_
                refine jd ?_
                refine w5 2 3 4 2002 2003 ?_
                refine J_ret ?_
                refine ⟨.inl rfl, _, rfl, .ofB ?_, trivial⟩
                simp_all [Pa.kind, Pa.nm, Pa.n, Pa.s, Ex.kind, Ex.nm, Ex.arg, Ex.n, Ex.s, Ex.op]
              · intro h43
                replace h43 := of_decide_eq_true (nF h43)
                refine u rfl rfl pF ?_
                refine jd ?_
                refine w6 2 3 4 44 2002 2003 ?_
                refine J_condF rfl ?_
                refine J_skip ?_
                refine js ?_
                refine u rfl rfl (fA 8 3) ?_
                refine u rfl rfl (lA 3) ?_
                refine u rfl rfl (fA 8 3) ?_
                refine u rfl rfl (lA 3) ?_
                refine JR.runC rfl rfl (cl (hcA)) rfl ?_ ?_
                · intro h49
                  refine u rfl rfl mv ?_
                  refine u rfl rfl (fA 11 3) ?_
                  refine u rfl rfl (lA 3) ?_
                  refine u rfl rfl (fA 11 3) ?_
                  refine u rfl rfl (lA 3) ?_
                  refine JR.runC rfl rfl (cl (hcB)) rfl ?_ ?_
                  · intro h55
                    refine u rfl rfl pT ?_
                    refine u rfl rfl mv ?_
                    refine u rfl rfl (fA 14 1) ?_
                    refine u rfl rfl ld ?_
                    refine u rfl rfl (fA 14 1) ?_
                    refine u rfl rfl ld ?_
                    refine JR.runC rfl rfl (r_callF (hF) rfl rfl rfl trivial (by kernel_rfl)) rfl ?_ ?_
                    · intro h62
                      refine u rfl rfl pT ?_
                      refine u rfl rfl mv ?_
                      refine u rfl rfl (fA 15 1) ?_
                      refine u rfl rfl ld ?_
                      refine u rfl rfl (fA 15 1) ?_
                      refine u rfl rfl ld ?_
                      refine u rfl rfl (r_callF (hE) rfl rfl rfl trivial (by kernel_rfl)) ?_
                      refine u rfl rfl pT ?_
                      refine u rfl rfl asg ?_
                      refine jd ?_
                      refine w1 4 ?_
                      refine J_ret ?_
                      refine ⟨.inl rfl, _, rfl, .ofB ?_, trivial⟩
                      simp_all [Pa.kind, Pa.nm, Pa.n, Pa.s, Ex.kind, Ex.nm, Ex.arg, Ex.n, Ex.s, Ex.op]
                    · intro h62
                      refine u rfl rfl pT ?_
                      refine u rfl rfl mv ?_
                      refine sk ?_
                      refine sk ?_
                      refine sk ?_
                      refine sk ?_
                      refine sk ?_
                      refine u rfl rfl pF ?_
                      refine u rfl rfl asg ?_
                      refine jd ?_
                      refine w1 4 ?_
                      refine J_ret ?_
                      refine ⟨.inl rfl, _, rfl, .ofB ?_, trivial⟩
                      simp_all [Pa.kind, Pa.nm, Pa.n, Pa.s, Ex.kind, Ex.nm, Ex.arg, Ex.n, Ex.s, Ex.op]
                  · intro h55
                    refine u rfl rfl pT ?_
                    refine u rfl rfl mv ?_
                    refine sk ?_
                    refine sk ?_
                    refine sk ?_
                    refine sk ?_
                    refine sk ?_
                    refine u rfl rfl pF ?_
                    refine u rfl rfl mv ?_
                    refine sk ?_
                    refine sk ?_
                    refine sk ?_
                    refine sk ?_
                    refine sk ?_
                    refine u rfl rfl pF ?_
                    refine u rfl rfl asg ?_
                    refine jd ?_
                    refine w1 4 ?_
                    refine J_ret ?_
                    refine ⟨.inl rfl, _, rfl, .ofB ?_, trivial⟩
                    simp_all [Pa.kind, Pa.nm, Pa.n, Pa.s, Ex.kind, Ex.nm, Ex.arg, Ex.n, Ex.s, Ex.op]
                · intro h49
                  refine u rfl rfl mv ?_
                  refine sk ?_
                  refine sk ?_
                  refine sk ?_
                  refine sk ?_
                  refine sk ?_
                  refine u rfl rfl pF ?_
                  refine u rfl rfl mv ?_
                  refine sk ?_
                  refine sk ?_
                  refine sk ?_
                  refine sk ?_
                  refine sk ?_
                  refine u rfl rfl pF ?_
                  refine u rfl rfl mv ?_
                  refine sk ?_
                  refine sk ?_
                  refine sk ?_
                  refine sk ?_
                  refine sk ?_
                  refine u rfl rfl pF ?_
                  refine u rfl rfl asg ?_
                  refine jd ?_
                  refine w1 4 ?_
                  refine J_ret ?_
                  refine ⟨.inl rfl, _, rfl, .ofB ?_, trivial⟩
                  simp_all [Pa.kind, Pa.nm, Pa.n, Pa.s, Ex.kind, Ex.nm, Ex.arg, Ex.n, Ex.s, Ex.op]

end Go.Proofs.Ytkipkplpmeholaa
