/- Types: how many kids, which are right, which are without a kind, how many nodes, which are the same. -/
import Derived.Test.YtlagglkpbnbmeaaGreatDoorShC
import Derived.Test.YtlagglkpbnbmeaaGreatDoorShZ
import Derived.Test.YtlagglkpbnbmeaaGreatDoorPX
import Derived.Test.YtlagglkpbnbmeaaGreatDoorTX
import Derived.Test.YtlagglkpbnbmeaaGreatDoorSH
namespace Go.Proofs.YtlagglkpbnbmeaaGreatDoor
open Go Go.RowKit
set_option maxRecDepth 100000
set_option linter.unusedVariables false

abbrev tyE (t : Ty) : List D := [.lit (.int .i64 t.kind), .lit (.int .i64 t.num), .sl 3 (tysD t.kids)]
theorem tysD_at {l : List Ty} {i : Nat} {t : Ty} (h : l[i]? = some t) : (tysD l)[((i : Nat) : Int).toNat]? = some (tyE t) := by
  have := tysD_get h; rw [tyD_eq] at this; exact this

theorem kKids (k : Int) : Con Tryz.prog 124 [.c (.lit (.int .i64 k))] [] (.c (.lit (.int .i64 (mKids k)))) [] := by
  refine gg [38,5,1,0,9,2,2,0,31,5,2,0,9,2,3,2,35,31,5] ?_; refine bE ?_ ?_
  · intro h5; refine gg [1,0,9,3,4,3,2,32,34,32,5,1,0,9,1,2,33] ?_; exact ⟨.inl rfl, _, rfl, .ofI (by simp [mKids, *]), trivial⟩
  intro h5; refine gg [1,0,9,3,4,3,2,8,5] ?_; refine bE ?_ ?_
  · intro h6; refine gg [1,0,9,3,4,3,2,32,34,32,5,1,0,9,1,2,33] ?_; exact ⟨.inl rfl, _, rfl, .ofI (by simp [mKids, *]), trivial⟩
  intro h6; refine gg [1,0,9,3,4,3,2,8,5] ?_; refine bE ?_ ?_
  · intro h7; refine gg [1,0,9,3,4,3,2,32,34,32,5,1,0,9,1,2,33] ?_; exact ⟨.inl rfl, _, rfl, .ofI (by simp [mKids, *]), trivial⟩
  intro h7; refine gg [1,0,9,3,4,3,2,8,5] ?_; refine bE ?_ ?_
  · intro h8; refine gg [1,0,9,3,4,3,2,32,34,32,5,1,0,9,1,2,33] ?_; exact ⟨.inl rfl, _, rfl, .ofI (by simp [mKids, *]), trivial⟩
  intro h8; refine gg [1,0,9,3,4,3,2,8,5] ?_; refine bE ?_ ?_
  · intro h9; refine gg [1,0,9,3,4,3,2,32,34,32,5,1,0,9,1,2,33] ?_; exact ⟨.inl rfl, _, rfl, .ofI (by simp [mKids, *]), trivial⟩
  intro h9; refine gg [1,0,9,3,4,3,2,8,37] ?_; refine bE ?_ ?_
  · intro h10; refine gg [1,0,9,3,4,3,2,32,5,1,0,9,1,2,33] ?_; exact ⟨.inl rfl, _, rfl, .ofI (by simp [mKids, *]), trivial⟩
  intro h10; refine gg [1,0,9,3,4,3,2,8,5] ?_; refine bE ?_ ?_
  · intro h12; refine gg [1,0,9,3,11,3,2,32,5,1,0,9,1,2,33] ?_; exact ⟨.inl rfl, _, rfl, .ofI (by simp [mKids, *]), trivial⟩
  intro h12; refine gg [1,0,9,3,11,3,2,8,31,5] ?_; refine bE ?_ ?_
  · intro h14; refine gg [1,0,9,3,13,3,2,32,34,32,5,1,0,9,1,2,33] ?_; exact ⟨.inl rfl, _, rfl, .ofI (by simp [mKids, *]), trivial⟩
  intro h14; refine gg [1,0,9,3,13,3,2,8,37] ?_; refine bE ?_ ?_
  · intro h15; refine gg [1,0,9,2,13,2,32,5,1,0,9,1,2,33] ?_; exact ⟨.inl rfl, _, rfl, .ofI (by simp [mKids, *]), trivial⟩
  intro h15; refine gg [1,0,9,2,13,2,8,34,5,1,0,9,1,2,33] ?_; exact ⟨.inl rfl, _, rfl, .ofI (by simp [mKids, *]), trivial⟩

theorem kArity (k : Int) : Con Tryz.prog 151 [.c (.lit (.int .i64 k))] [] (.c (.lit (.int .i64 (mKids k)))) [] := by
  refine gg [38,5,1,0,9,2,2,0,31,5,2,0,9,2,3,2,35,31,5] ?_; refine bE ?_ ?_
  · intro h5; refine gg [1,0,9,3,4,3,2,32,34,32,5,1,0,9,1,2,33] ?_; exact ⟨.inl rfl, _, rfl, .ofI (by simp [mKids, *]), trivial⟩
  intro h5; refine gg [1,0,9,3,4,3,2,8,5] ?_; refine bE ?_ ?_
  · intro h6; refine gg [1,0,9,3,4,3,2,32,34,32,5,1,0,9,1,2,33] ?_; exact ⟨.inl rfl, _, rfl, .ofI (by simp [mKids, *]), trivial⟩
  intro h6; refine gg [1,0,9,3,4,3,2,8,5] ?_; refine bE ?_ ?_
  · intro h7; refine gg [1,0,9,3,4,3,2,32,34,32,5,1,0,9,1,2,33] ?_; exact ⟨.inl rfl, _, rfl, .ofI (by simp [mKids, *]), trivial⟩
  intro h7; refine gg [1,0,9,3,4,3,2,8,5] ?_; refine bE ?_ ?_
  · intro h8; refine gg [1,0,9,3,4,3,2,32,34,32,5,1,0,9,1,2,33] ?_; exact ⟨.inl rfl, _, rfl, .ofI (by simp [mKids, *]), trivial⟩
  intro h8; refine gg [1,0,9,3,4,3,2,8,5] ?_; refine bE ?_ ?_
  · intro h9; refine gg [1,0,9,3,4,3,2,32,34,32,5,1,0,9,1,2,33] ?_; exact ⟨.inl rfl, _, rfl, .ofI (by simp [mKids, *]), trivial⟩
  intro h9; refine gg [1,0,9,3,4,3,2,8,37] ?_; refine bE ?_ ?_
  · intro h10; refine gg [1,0,9,3,4,3,2,32,5,1,0,9,1,2,33] ?_; exact ⟨.inl rfl, _, rfl, .ofI (by simp [mKids, *]), trivial⟩
  intro h10; refine gg [1,0,9,3,4,3,2,8,5] ?_; refine bE ?_ ?_
  · intro h12; refine gg [1,0,9,3,11,3,2,32,5,1,0,9,1,2,33] ?_; exact ⟨.inl rfl, _, rfl, .ofI (by simp [mKids, *]), trivial⟩
  intro h12; refine gg [1,0,9,3,11,3,2,8,31,5] ?_; refine bE ?_ ?_
  · intro h14; refine gg [1,0,9,3,13,3,2,32,34,32,5,1,0,9,1,2,33] ?_; exact ⟨.inl rfl, _, rfl, .ofI (by simp [mKids, *]), trivial⟩
  intro h14; refine gg [1,0,9,3,13,3,2,8,37] ?_; refine bE ?_ ?_
  · intro h15; refine gg [1,0,9,2,13,2,32,5,1,0,9,1,2,33] ?_; exact ⟨.inl rfl, _, rfl, .ofI (by simp [mKids, *]), trivial⟩
  intro h15; refine gg [1,0,9,2,13,2,8,34,5,1,0,9,1,2,33] ?_; exact ⟨.inl rfl, _, rfl, .ofI (by simp [mKids, *]), trivial⟩

theorem kRight : ∀ (m : Nat) (t : Ty), m ≤ 1000000000 → t.size ≤ m → Con Tryz.prog 88 [.agg (tyE t)] [] (.c (.lit (.bool (mRight t)))) []
  | 0, t, _, h => absurd t.size_pos (by omega)
  | m + 1, t, hm, h => by
    have hk := t.kids_lt; have hl := tysD_len (t.kids); refine gg [38,5,22,2001,1,0,9,3,2001,2,1,31,5,6,0,1,7] ?_; refine gc (kKids t.kind) [6,2,1,7,18] ?_; refine bN ?_ ?_
    · intro h10; refine gg [2,39,3,16,2,39,3,16,2,39,8,16,4,9,4,2001,30,2,1,32,5,1,0,9,3,2001,2,1,33] ?_; refine ⟨.inl rfl, _, rfl, .ofB (Bool.eq_false_iff.2 fun e => ?_), trivial⟩; rw [mRight_eq] at e; simp only [Bool.and_eq_true, decide_eq_true_eq, Bool.or_eq_true] at e
      omega
    intro h10; refine gg [2,6,1,1,7] ?_; refine bL ?_ ?_
    · intro h14; refine gg [17,2,39,3,16,2,39,8,16,4,9,4,2001,30,2,1,32,5,1,0,9,3,2001,2,1,33] ?_; refine ⟨.inl rfl, _, rfl, .ofB (Bool.eq_false_iff.2 fun e => ?_), trivial⟩; rw [mRight_eq] at e; simp only [Bool.and_eq_true, decide_eq_true_eq, Bool.or_eq_true] at e
      omega
    intro h14; refine gg [17,2,6,1,1,7] ?_; refine bG ?_ ?_
    · intro h19; refine gg [17,2,39,8,16,4,9,4,2001,30,2,1,32,5,1,0,9,3,2001,2,1,33] ?_; refine ⟨.inl rfl, _, rfl, .ofB (Bool.eq_false_iff.2 fun e => ?_), trivial⟩; rw [mRight_eq] at e; simp only [Bool.and_eq_true, decide_eq_true_eq, Bool.or_eq_true] at e
      omega
    intro h19; refine gg [17,2,6,0,1,7] ?_; refine bN ?_ ?_
    · intro h24; refine gg [2,6,1,1,7] ?_; refine bN ?_ ?_
      · intro h28; refine gg [16,17,4,9,4,2001,30,2,1,32,5,1,0,9,3,2001,2,1,33] ?_; refine ⟨.inl rfl, _, rfl, .ofB (Bool.eq_false_iff.2 fun e => ?_), trivial⟩; rw [mRight_eq] at e; simp only [Bool.and_eq_true, decide_eq_true_eq, Bool.or_eq_true] at e
        omega
      intro h28; refine gg [16,17,4,9,4,2001,30,2,1,8,34,31,5,1,0,9,4,2001,3,2,1,35] ?_; refine J_loopF (α := { i : Nat // i ≤ t.kids.length ∧ mRights t.kids = mRights (t.kids.drop i) }) (fun p => [(3, .c (.lit (.int .i64 (p.1 : Int))))]) [(1, _), (2, _), (2001, _)] (fun p => t.kids.length - p.1) ⟨0, Nat.zero_le _, rfl⟩ ⟨rfl, rfl, rfl, rfl, trivial⟩ ?_; rintro ⟨i, hi, hI⟩; dsimp only; refine gg [31,5,2,6,2,1,7,18] ?_; refine bL ?_ ?_
      · intro h35; obtain ⟨x, hx⟩ := get_some (l := t.kids) (i := i) (by omega); have hxs := Ty.kid_lt' hx; refine gg [0,9,9,2001,35,34,33,32,31,3,2,1,32,34,31,35,5,6,2,1,7,2] ?_; refine u rfl rfl (r_indexAddr (e := 26) (sz := 3) rfl rfl (by kernel_rfl) rfl rfl (by omega) (tysD_at hx)) ?_; refine gg [21,3] ?_; refine JR.runC rfl rfl (cl (kRight m x (by omega) (by omega))) rfl ?_ ?_
        · intro h43; refine gg [15,0,9,16,2001,44,43,42,41,40,39,38,35,34,33,32,31,3,2,1,8,34,37,2,27,1,0] ?_; refine ⟨⟨i + 1, by omega, by rw [hI, drop_get hx, mRights, h43, Bool.true_and]⟩, by simp only; omega, rfl, rfl, rfl, rfl, trivial⟩
        intro h43; refine gg [15,0,9,16,2001,44,43,42,41,40,39,38,35,34,33,32,31,3,2,1,32,5,1,0,9,16,2001,44,43,42,41,40,39,38,35,34,33,32,31,3,2,1,33] ?_; refine ⟨.inl rfl, _, rfl, .ofB (Bool.eq_false_iff.2 fun e => ?_), trivial⟩; rw [mRight_eq, hI, drop_get hx, mRights, h43, Bool.false_and, Bool.and_false] at e
        cases e
      intro h35; refine gg [0,9,9,2001,35,34,33,32,31,3,2,1,8,36,5,1,0,9,1,2,33] ?_; refine ⟨.inl rfl, _, rfl, .ofB ?_, trivial⟩; rw [mRight_eq, hI, List.drop_eq_nil_of_le (by omega), mRights, Bool.and_true]; simp only [Bool.and_eq_true, decide_eq_true_eq, Bool.or_eq_true]
      omega
    intro h24; refine gg [2,39,3,17,17,4,9,4,2001,30,2,1,8,34,31,5,1,0,9,4,2001,3,2,1,35] ?_; refine J_loopF (α := { i : Nat // i ≤ t.kids.length ∧ mRights t.kids = mRights (t.kids.drop i) }) (fun p => [(3, .c (.lit (.int .i64 (p.1 : Int))))]) [(1, _), (2, _), (2001, _)] (fun p => t.kids.length - p.1) ⟨0, Nat.zero_le _, rfl⟩ ⟨rfl, rfl, rfl, rfl, trivial⟩ ?_; rintro ⟨i, hi, hI⟩; dsimp only; refine gg [31,5,2,6,2,1,7,18] ?_; refine bL ?_ ?_
    · intro h35; obtain ⟨x, hx⟩ := get_some (l := t.kids) (i := i) (by omega); have hxs := Ty.kid_lt' hx; refine gg [0,9,9,2001,35,34,33,32,31,3,2,1,32,34,31,35,5,6,2,1,7,2] ?_; refine u rfl rfl (r_indexAddr (e := 26) (sz := 3) rfl rfl (by kernel_rfl) rfl rfl (by omega) (tysD_at hx)) ?_; refine gg [21,3] ?_; refine JR.runC rfl rfl (cl (kRight m x (by omega) (by omega))) rfl ?_ ?_
      · intro h43; refine gg [15,0,9,16,2001,44,43,42,41,40,39,38,35,34,33,32,31,3,2,1,8,34,37,2,27,1,0] ?_; refine ⟨⟨i + 1, by omega, by rw [hI, drop_get hx, mRights, h43, Bool.true_and]⟩, by simp only; omega, rfl, rfl, rfl, rfl, trivial⟩
      intro h43; refine gg [15,0,9,16,2001,44,43,42,41,40,39,38,35,34,33,32,31,3,2,1,32,5,1,0,9,16,2001,44,43,42,41,40,39,38,35,34,33,32,31,3,2,1,33] ?_; refine ⟨.inl rfl, _, rfl, .ofB (Bool.eq_false_iff.2 fun e => ?_), trivial⟩; rw [mRight_eq, hI, drop_get hx, mRights, h43, Bool.false_and, Bool.and_false] at e
      cases e
    intro h35; refine gg [0,9,9,2001,35,34,33,32,31,3,2,1,8,36,5,1,0,9,1,2,33] ?_; refine ⟨.inl rfl, _, rfl, .ofB ?_, trivial⟩; rw [mRight_eq, hI, List.drop_eq_nil_of_le (by omega), mRights, Bool.and_true]; simp only [Bool.and_eq_true, decide_eq_true_eq, Bool.or_eq_true]
    omega

theorem kTypRight : ∀ (m : Nat) (t : Ty), m ≤ 1000000000 → t.size ≤ m → Con Tryz.prog 141 [.agg (tyE t)] [] (.c (.lit (.bool (mRight t)))) []
  | 0, t, _, h => absurd t.size_pos (by omega)
  | m + 1, t, hm, h => by
    have hk := t.kids_lt; have hl := tysD_len (t.kids); refine gg [38,5,22,2001,1,0,9,3,2001,2,1,31,5,6,0,1,7] ?_; refine gc (kArity t.kind) [1,0,9,4,2001,3,2,1,5,2] ?_; refine bL ?_ ?_
    · intro h10; refine gg [2,39,5,16,0,9,4,2001,17,2,1,32,5,1,0,9,3,2001,2,1,33] ?_; refine ⟨.inl rfl, _, rfl, .ofB (Bool.eq_false_iff.2 fun e => ?_), trivial⟩; rw [mRight_eq] at e; simp only [Bool.and_eq_true, decide_eq_true_eq, Bool.or_eq_true] at e
      omega
    intro h10; refine gg [2,6,2,1,7,18,2] ?_; refine bN ?_ ?_
    · intro h16; refine gg [17,0,9,4,2001,17,2,1,32,5,1,0,9,3,2001,2,1,33] ?_; refine ⟨.inl rfl, _, rfl, .ofB (Bool.eq_false_iff.2 fun e => ?_), trivial⟩; rw [mRight_eq] at e; simp only [Bool.and_eq_true, decide_eq_true_eq, Bool.or_eq_true] at e
      omega
    intro h16; refine gg [17,0,9,4,2001,17,2,1,8,34,31,5,6,0,1,7] ?_; refine bE ?_ ?_
    · intro h20; refine gg [0,9,4,2001,20,2,1,32,5,6,1,1,7] ?_; refine bH ?_ ?_
      · intro h23; refine gg [2,6,1,1,7] ?_; refine bM ?_ ?_
        · intro h27; refine gg [16,1,0,9,3,2001,2,1,33] ?_; have h0 : t.kids = [] := by
            rw [h20] at h16
            exact List.eq_nil_of_length_eq_zero (by have : mKids 6 = 0 := rfl
                                                    omega)
          refine ⟨.inl rfl, _, rfl, .ofB ?_, trivial⟩; rw [mRight_eq, h0, mRights, Bool.and_true]; simp only [Bool.and_eq_true, decide_eq_true_eq, Bool.or_eq_true]; rw [h0] at h16 hl; have hl0 : ([] : List Ty).length = 0 := rfl
          omega
        intro h27; refine gg [16,1,0,9,3,2001,2,1,33] ?_; refine ⟨.inl rfl, _, rfl, .ofB (Bool.eq_false_iff.2 fun e => ?_), trivial⟩; rw [mRight_eq] at e; simp only [Bool.and_eq_true, decide_eq_true_eq, Bool.or_eq_true] at e
        omega
      intro h23; refine gg [2,39,3,17,1,0,9,3,2001,2,1,33] ?_; refine ⟨.inl rfl, _, rfl, .ofB (Bool.eq_false_iff.2 fun e => ?_), trivial⟩; rw [mRight_eq] at e; simp only [Bool.and_eq_true, decide_eq_true_eq, Bool.or_eq_true] at e
      omega
    intro h20; refine gg [0,9,4,2001,20,2,1,8,34,31,5,6,1,1,7] ?_; refine bN ?_ ?_
    · intro h31; refine gg [0,9,4,2001,31,2,1,32,5,1,0,9,3,2001,2,1,33] ?_; refine ⟨.inl rfl, _, rfl, .ofB (Bool.eq_false_iff.2 fun e => ?_), trivial⟩; rw [mRight_eq] at e; simp only [Bool.and_eq_true, decide_eq_true_eq, Bool.or_eq_true] at e
      omega
    intro h31; refine gg [0,9,4,2001,31,2,1,8,34,31,5,6,2,1,7,18,2,0,9,4,35,34,33,2,35] ?_; refine J_loopF (α := { i : Nat // i ≤ t.kids.length ∧ mRights t.kids = mRights (t.kids.drop i) }) (fun p => [(35, .c (.lit (.int .i64 (p.1 : Int))))]) [(2, _), (33, _), (34, _)] (fun p => t.kids.length - p.1) ⟨0, Nat.zero_le _, rfl⟩ ⟨rfl, rfl, rfl, rfl, trivial⟩ ?_; rintro ⟨i, hi, hI⟩; dsimp only; refine js ?_; refine bL ?_ ?_
    · intro h36; obtain ⟨x, hx⟩ := get_some (l := t.kids) (i := i) (by omega); have hxs := Ty.kid_lt' hx; refine gg [0,9,5,36,35,34,33,2,31,32,34,31,35,5] ?_; refine u rfl rfl (r_indexAddr (e := 26) (sz := 3) rfl rfl (by kernel_rfl) rfl rfl (by omega) (tysD_at hx)) ?_; refine gg [21,3] ?_; refine u rfl rfl (r_alloc (x := 2005) (zs := [.int .i64 0, .int .i64 0, .slice none 0 0]) [.lit (.int .i64 0), .lit (.int .i64 0), .sl 3 []] rfl rfl rfl (by kernel_rfl) ⟨.refl _, .refl _, .nil _, trivial⟩) ?_; refine gg [10,0,9,9,2005,38,37,36,35,34,33,5,2,5,20,3] ?_; refine JR.runC rfl rfl (cl (kTypRight m x (by omega) (by omega))) rfl ?_ ?_
      · intro h40; refine gg [15,0,9,12,2005,41,40,39,38,37,36,35,34,33,5,2,8,34,37,27,2,0] ?_; refine ⟨⟨i + 1, by omega, by rw [hI, drop_get hx, mRights, h40, Bool.true_and]⟩, by simp only; omega, rfl, rfl, rfl, rfl, trivial⟩
      intro h40; refine gg [15,0,9,12,2005,41,40,39,38,37,36,35,34,33,5,2,32,5,1,0,9,12,2005,41,40,39,38,37,36,35,34,33,5,2,33] ?_; refine ⟨.inl rfl, _, rfl, .ofB (Bool.eq_false_iff.2 fun e => ?_), trivial⟩; rw [mRight_eq, hI, drop_get hx, mRights, h40, Bool.false_and, Bool.and_false] at e
      cases e
    intro h36; refine gg [0,9,5,36,35,34,33,2,31,8,36,5,1,0,9,1,2,33] ?_; refine ⟨.inl rfl, _, rfl, .ofB ?_, trivial⟩; rw [mRight_eq, hI, List.drop_eq_nil_of_le (by omega), mRights, Bool.and_true]; simp only [Bool.and_eq_true, decide_eq_true_eq, Bool.or_eq_true]
    omega

theorem kWithout (q : Int) : ∀ (m : Nat) (t : Ty), m ≤ 1000000000 → t.size ≤ m → Con Tryz.prog 89 [.agg (tyE t), .c (.lit (.int .i64 q))] [] (.c (.lit (.bool (mWithout q t)))) []
  | 0, t, _, h => absurd t.size_pos (by omega)
  | m + 1, t, hm, h => by
    have hk := t.kids_lt; have hl := tysD_len (t.kids); refine gg [38,5,22,2002,1,0,9,4,2002,4,2,1,31,5,6,0,1,7,2] ?_; refine bE ?_ ?_
    · intro h9; refine gg [0,9,5,2002,9,4,2,1,32,5,1,0,9,4,2002,4,2,1,33] ?_; refine ⟨.inl rfl, _, rfl, .ofB (Bool.eq_false_iff.2 fun e => ?_), trivial⟩; rw [mWithout_eq] at e; simp only [Bool.and_eq_true, Bool.not_eq_true', decide_eq_false_iff_not] at e
      omega
    intro h9; refine gg [0,9,5,2002,9,4,2,1,8,34,31,5,1,0,9,5,2002,5,4,2,1,35] ?_; refine J_loopF (α := { i : Nat // i ≤ t.kids.length ∧ mWithouts q t.kids = mWithouts q (t.kids.drop i) }) (fun p => [(5, .c (.lit (.int .i64 (p.1 : Int))))]) [(1, _), (2, _), (4, _), (2002, _)] (fun p => t.kids.length - p.1) ⟨0, Nat.zero_le _, rfl⟩ ⟨rfl, rfl, rfl, rfl, rfl, trivial⟩ ?_; rintro ⟨i, hi, hI⟩; dsimp only; refine gg [31,5,2,6,2,1,7,18] ?_; refine bL ?_ ?_
    · intro h14; obtain ⟨x, hx⟩ := get_some (l := t.kids) (i := i) (by omega); have hxs := Ty.kid_lt' hx; refine gg [0,9,10,2002,14,13,12,11,10,5,4,2,1,32,34,31,35,5,6,2,1,7,2] ?_; refine u rfl rfl (r_indexAddr (e := 26) (sz := 3) rfl rfl (by kernel_rfl) rfl rfl (by omega) (tysD_at hx)) ?_; refine gg [21,3,2] ?_; refine JR.runC rfl rfl (cl (kWithout q m x (by omega) (by omega))) rfl ?_ ?_
      · intro h23; refine gg [15,0,9,18,2002,24,23,22,21,20,19,18,17,14,13,12,11,10,5,4,2,1,8,34,37,2,27,1,0] ?_; refine ⟨⟨i + 1, by omega, by rw [hI, drop_get hx, mWithouts, h23, Bool.true_and]⟩, by simp only; omega, rfl, rfl, rfl, rfl, rfl, trivial⟩
      intro h23; refine gg [15,0,9,18,2002,24,23,22,21,20,19,18,17,14,13,12,11,10,5,4,2,1,32,5,1,0,9,18,2002,24,23,22,21,20,19,18,17,14,13,12,11,10,5,4,2,1,33] ?_; refine ⟨.inl rfl, _, rfl, .ofB (Bool.eq_false_iff.2 fun e => ?_), trivial⟩; rw [mWithout_eq, hI, drop_get hx, mWithouts, h23, Bool.false_and, Bool.and_false] at e
      cases e
    intro h14; refine gg [0,9,10,2002,14,13,12,11,10,5,4,2,1,8,36,5,1,0,9,1,4,33] ?_; refine ⟨.inl rfl, _, rfl, .ofB ?_, trivial⟩; rw [mWithout_eq, hI, List.drop_eq_nil_of_le (by omega), mWithouts, Bool.and_true, decide_eq_false h9]
    rfl

theorem kCheck (t : Ty) (h : t.size ≤ 1000000000) : Con Tryz.prog 127 [.agg (tyE t)] [] (.c (.lit (.int .i64 (if mRight t then 0 else 1)))) [] := by
  refine gg [38,5,22,2001,1,0,9,3,2001,2,1,31,5,20,3] ?_; refine JR.runC rfl rfl (cl (kTypRight t.size t h (Nat.le_refl _))) rfl ?_ ?_
  · intro h4; refine gg [15,0,9,2,5,2,8,34,5,1,0,9,1,2,33] ?_; exact ⟨.inl rfl, _, rfl, .ofI (by rw [h4]; rfl), trivial⟩
  intro h4; refine gg [15,0,9,2,5,2,32,5,1,0,9,1,2,33] ?_; exact ⟨.inl rfl, _, rfl, .ofI (by rw [h4]; rfl), trivial⟩

end Go.Proofs.YtlagglkpbnbmeaaGreatDoor
