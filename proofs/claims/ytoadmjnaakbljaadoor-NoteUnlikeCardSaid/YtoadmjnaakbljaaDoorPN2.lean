/- The plain model of types: the right ones' shapes, how long their texts are. No program in sight. -/
import Derived.Test.YtoadmjnaakbljaaDoorPN
import Derived.Test.YtoadmjnaakbljaaDoorWordP
namespace Go.Proofs.YtoadmjnaakbljaaDoor

inductive RightTy : Ty → Prop
  | int : RightTy (.leaf 1)
  | bool : RightTy (.leaf 2)
  | str : RightTy (.leaf 3)
  | unit : RightTy (.leaf 4)
  | dyn : RightTy (.leaf 5)
  | var (n : Int) : 0 ≤ n → n ≤ 1048576 → RightTy (.mk 6 n [])
  | pair (a b : Ty) : RightTy a → RightTy b → RightTy (.two 7 a b)
  | list (a : Ty) : RightTy a → RightTy (.one 8 a)
  | func (a b : Ty) : RightTy a → RightTy b → RightTy (.two 9 a b)

theorem right_ty : ∀ (m : Nat) (t : Ty), t.size ≤ m → mRight t = true → RightTy t
  | 0, t, h, _ => absurd t.size_pos (by omega)
  | m + 1, .mk k n ks, hm, h => by
    rw [mRight, Bool.and_eq_true, Bool.and_eq_true, Bool.and_eq_true, Bool.and_eq_true, Bool.or_eq_true, decide_eq_true_eq, decide_eq_true_eq, decide_eq_true_eq, decide_eq_true_eq, decide_eq_true_eq] at h
    obtain ⟨⟨⟨⟨h1, h2⟩, h3⟩, h4⟩, h5⟩ := h
    rw [Ty.size] at hm
    unfold mKids at h1
    by_cases e1 : k = 1
    · subst e1
      obtain rfl : ks = [] := List.eq_nil_of_length_eq_zero (by simp at h1; omega)
      obtain rfl : n = 0 := by omega
      exact .int
    rw [if_neg e1] at h1
    by_cases e2 : k = 2
    · subst e2
      obtain rfl : ks = [] := List.eq_nil_of_length_eq_zero (by simp at h1; omega)
      obtain rfl : n = 0 := by omega
      exact .bool
    rw [if_neg e2] at h1
    by_cases e3 : k = 3
    · subst e3
      obtain rfl : ks = [] := List.eq_nil_of_length_eq_zero (by simp at h1; omega)
      obtain rfl : n = 0 := by omega
      exact .str
    rw [if_neg e3] at h1
    by_cases e4 : k = 4
    · subst e4
      obtain rfl : ks = [] := List.eq_nil_of_length_eq_zero (by simp at h1; omega)
      obtain rfl : n = 0 := by omega
      exact .unit
    rw [if_neg e4] at h1
    by_cases e5 : k = 5
    · subst e5
      obtain rfl : ks = [] := List.eq_nil_of_length_eq_zero (by simp at h1; omega)
      obtain rfl : n = 0 := by omega
      exact .dyn
    rw [if_neg e5] at h1
    by_cases e6 : k = 6
    · subst e6
      obtain rfl : ks = [] := List.eq_nil_of_length_eq_zero (by simp at h1; omega)
      exact .var n h2 h3
    rw [if_neg e6] at h1
    obtain rfl : n = 0 := by omega
    by_cases e8 : k = 8
    · subst e8
      rw [if_pos rfl] at h1
      match ks, h1, h5, hm with
      | [a], _, h5, hm =>
        rw [mRights, mRights, Bool.and_true] at h5
        rw [Ty.sizes, Ty.sizes] at hm
        exact .list a (right_ty m a (by omega) h5)
      | [], h1, _, _ => exact absurd h1 (by simp)
      | _ :: _ :: _, h1, _, _ => exact absurd h1 (by simp; omega)
    rw [if_neg e8] at h1
    have two : (ks.length : Int) = 2 → ∃ a b, ks = [a, b] ∧ RightTy a ∧ RightTy b := by
      intro h1
      match ks, h1, h5, hm with
      | [a, b], _, h5, hm =>
        rw [mRights, mRights, mRights, Bool.and_true, Bool.and_eq_true] at h5
        rw [Ty.sizes, Ty.sizes, Ty.sizes] at hm
        exact ⟨a, b, rfl, right_ty m a (by omega) h5.1, right_ty m b (by omega) h5.2⟩
      | [], h1, _, _ => exact absurd h1 (by simp)
      | [_], h1, _, _ => exact absurd h1 (by simp)
      | _ :: _ :: _ :: _, h1, _, _ => exact absurd h1 (by simp; omega)
    by_cases e7 : k = 7
    · subst e7
      rw [if_pos rfl] at h1
      obtain ⟨a, b, rfl, ha, hb⟩ := two h1.symm
      exact .pair a b ha hb
    rw [if_neg e7] at h1
    by_cases e9 : k = 9
    · subst e9
      rw [if_pos rfl] at h1
      obtain ⟨a, b, rfl, ha, hb⟩ := two h1.symm
      exact .func a b ha hb
    rw [if_neg e9] at h1
    omega
theorem right_right {t : Ty} (h : RightTy t) : mRight t = true := by
  induction h with
  | var n h1 h2 =>
    rw [mRight, mRights]
    have : mKids 6 = 0 := rfl
    simp [this, h1, h2]
  | pair a b _ _ ha hb => rw [mRight, mRights, mRights, mRights, ha, hb]; rfl
  | list a _ ha => rw [mRight, mRights, mRights, ha]; rfl
  | func a b _ _ ha hb => rw [mRight, mRights, mRights, mRights, ha, hb]; rfl
  | _ => rfl

theorem mTxt_1 : mTxt (.leaf 1) = tkInt := by rw [mTxt]; rfl
theorem mTxt_2 : mTxt (.leaf 2) = tkBool := by rw [mTxt]; rfl
theorem mTxt_3 : mTxt (.leaf 3) = tkString := by rw [mTxt]; rfl
theorem mTxt_4 : mTxt (.leaf 4) = tkUnit := by rw [mTxt]; rfl
theorem mTxt_5 : mTxt (.leaf 5) = [63] := by rw [mTxt]; rfl
theorem mTxt_var (n : Int) : mTxt (.mk 6 n []) = 39 :: mNum n := by rw [mTxt]; rfl
theorem mTxt_pair (a b : Ty) : mTxt (.two 7 a b) = mKid a ++ [32, 42, 32] ++ mKid b := by rw [mTxt]; simp [mKidAt]
theorem mTxt_list (a : Ty) : mTxt (.one 8 a) = mKid a ++ [32, 108, 105, 115, 116] := by rw [mTxt]; simp [mKidAt]
theorem mTxt_fun (a b : Ty) : mTxt (.two 9 a b) = mKid a ++ [32, 45, 62, 32] ++ mKid b := by rw [mTxt]; simp [mKidAt]
theorem mKid_eq (t : Ty) : mKid t = if t.kids.isEmpty then mTxt t else [40] ++ mTxt t ++ [41] := by cases t; rw [mKid]; rfl
theorem mNum_small {n : Int} (h1 : 0 ≤ n) (h2 : n ≤ 1048576) : (mNum n).length ≤ 19 := by
  rw [mNum, if_neg (by omega)]
  exact (mDigits_len (by rw [pow19]; omega)).2
theorem mTxt_len {t : Ty} (h : RightTy t) : (mTxt t).length + 4 ≤ 30 * t.size := by
  have key : ∀ t : Ty, (mTxt t).length + 4 ≤ 30 * t.size → (mKid t).length + 2 ≤ 30 * t.size := by
    intro t h
    rw [mKid_eq]
    split
    · omega
    · simp only [List.length_append, List.length_cons, List.length_nil]; omega
  induction h with
  | var n h1 h2 =>
    have := mNum_small h1 h2
    rw [mTxt_var]
    simp only [List.length_cons, Ty.size, Ty.sizes]; omega
  | pair a b _ _ ha hb =>
    have h1 := key a ha
    have h2 := key b hb
    rw [mTxt_pair]
    simp only [List.length_append, List.length_cons, List.length_nil, Ty.size, Ty.sizes]; omega
  | list a _ ha =>
    have h1 := key a ha
    rw [mTxt_list]
    simp only [List.length_append, List.length_cons, List.length_nil, Ty.size, Ty.sizes]; omega
  | func a b _ _ ha hb =>
    have h1 := key a ha
    have h2 := key b hb
    rw [mTxt_fun]
    simp only [List.length_append, List.length_cons, List.length_nil, Ty.size, Ty.sizes]; omega
  | _ => simp [mTxt, Ty.size, Ty.sizes, tkInt, tkBool, tkString, tkUnit]
theorem mKid_len {t : Ty} (h : RightTy t) : (mKid t).length + 2 ≤ 30 * t.size := by
  have := mTxt_len h
  rw [mKid_eq]
  split
  · omega
  · simp only [List.length_append, List.length_cons, List.length_nil]; omega

end Go.Proofs.YtoadmjnaakbljaaDoor
