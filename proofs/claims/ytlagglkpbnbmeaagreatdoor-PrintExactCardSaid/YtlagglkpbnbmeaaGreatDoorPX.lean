/- Bundle of PM PN PN2. -/
import Derived.Test.YtlagglkpbnbmeaaGreatDoorLX
import Derived.Test.YtlagglkpbnbmeaaGreatDoorLY

/- The plain model of layers 3 and 4: types, the reading of one among tokens, its text. No program in sight. -/
namespace Go.Proofs.YtlagglkpbnbmeaaGreatDoor

inductive Ty where
  | mk (k n : Int) (kids : List Ty)
namespace Ty
def kind : Ty → Int | mk k _ _ => k
def num : Ty → Int | mk _ n _ => n
def kids : Ty → List Ty | mk _ _ ks => ks
mutual
def size : Ty → Nat
  | mk _ _ ks => 1 + sizes ks
def sizes : List Ty → Nat
  | [] => 0
  | t :: r => size t + sizes r
end
theorem size_pos (t : Ty) : 1 ≤ t.size := by cases t; rw [size]; omega
theorem size_le : ∀ (l : List Ty) (j : Nat) (h : j < l.length), l[j].size ≤ sizes l
  | [], j, h => absurd h (by simp)
  | t :: r, 0, _ => by rw [sizes]; exact Nat.le_add_right _ _
  | t :: r, j + 1, h => by
    have := size_le r j (by simpa using h)
    rw [sizes]
    simp only [List.getElem_cons_succ]
    omega
theorem kid_lt (t : Ty) (j : Nat) (h : j < t.kids.length) : t.kids[j].size < t.size := by
  cases t with
  | mk k n ks =>
    have := size_le ks j h
    rw [size]
    simp only [kids] at this ⊢
    omega
theorem len_le : ∀ (l : List Ty), l.length ≤ sizes l
  | [] => Nat.le_refl _
  | t :: r => by
    have := len_le r
    have := size_pos t
    rw [sizes, List.length_cons]
    omega
end Ty

def I64 (n : Int) : Prop := -9223372036854775808 ≤ n ∧ n ≤ 9223372036854775807

abbrev PR (α : Type) := Except Nat (α × List Tok)
def hit (k : Nat) (s : List UInt8) : List Tok → Bool
  | t :: _ => t.k == k && t.s == s
  | [] => false
theorem hit_cons {k : Nat} {s : List UInt8} {l : List Tok} (h : hit k s l = true) : ∃ t, l = t :: l.tail := by
  cases l with
  | nil => cases h
  | cons t r => exact ⟨t, rfl⟩
theorem hit_len {k : Nat} {s : List UInt8} {l : List Tok} (h : hit k s l = true) : l.tail.length + 1 = l.length := by
  obtain ⟨t, ht⟩ := hit_cons h
  rw [ht]; simp

def tkInt : List UInt8 := [105, 110, 116]
def tkBool : List UInt8 := [98, 111, 111, 108]
def tkString : List UInt8 := [115, 116, 114, 105, 110, 103]
def tkUnit : List UInt8 := [117, 110, 105, 116]
def tkList : List UInt8 := [108, 105, 115, 116]

abbrev Ty.leaf (k : Int) : Ty := .mk k 0 []
abbrev Ty.one (k : Int) (a : Ty) : Ty := .mk k 0 [a]
abbrev Ty.two (k : Int) (a b : Ty) : Ty := .mk k 0 [a, b]

def mAtom (typ : List Tok → PR Ty) (l : List Tok) : PR Ty :=
  if hit 2 tkInt l then .ok (.leaf 1, l.tail)
  else if hit 2 tkBool l then .ok (.leaf 2, l.tail)
  else if hit 2 tkString l then .ok (.leaf 3, l.tail)
  else if hit 2 tkUnit l then .ok (.leaf 4, l.tail)
  else if hit 5 [63] l then .ok (.leaf 5, l.tail)
  else if hit 5 [40] l then
    match typ l.tail with
    | .error e => .error e
    | .ok (t, r) => if hit 5 [41] r then .ok (t, r.tail) else .error r.length
  else .error l.length
def mLists : Ty → List Tok → Ty × List Tok
  | t, [] => (t, [])
  | t, x :: r => if x.k == 2 && x.s == tkList then mLists (.one 8 t) r else (t, x :: r)
def mPost (typ : List Tok → PR Ty) (l : List Tok) : PR Ty :=
  match mAtom typ l with
  | .error e => .error e
  | .ok (t, r) => .ok (mLists t r)
def mProd (typ : List Tok → PR Ty) (l : List Tok) : PR Ty :=
  match mPost typ l with
  | .error e => .error e
  | .ok (a, r) =>
    if hit 5 [42] r then
      match mPost typ r.tail with
      | .error e => .error e
      | .ok (b, r') => .ok (.two 7 a b, r')
    else .ok (a, r)
def mTypF : Nat → List Tok → PR Ty
  | 0, l => .error l.length
  | f + 1, l =>
    match mProd (mTypF f) l with
    | .error e => .error e
    | .ok (a, r) =>
      if hit 5 [45, 62] r then
        match mTypF f r.tail with
        | .error e => .error e
        | .ok (b, r') => .ok (.two 9 a b, r')
      else .ok (a, r)
def mTyp (l : List Tok) : PR Ty := mTypF (l.length + 1) l

def mRead (ts : List Tok) (i : Int) : Ty × Int × Int :=
  if i < 0 ∨ (ts.length : Int) < i then (.leaf 0, 0, 1)
  else match mTyp (ts.drop i.toNat) with
    | .ok (t, r) => (t, ((ts.length - r.length : Nat) : Int), 0)
    | .error k => (.leaf 0, ((ts.length - k : Nat) : Int), 3)

def PRok {α : Type} (l : List Tok) (x : PR α) : Prop :=
  match x with
  | .error e => e ≤ l.length
  | .ok (_, r) => r.length < l.length ∧ ∃ j, r = l.drop j
theorem suf_trans {l r s : List Tok} (h : ∃ j, r = l.drop j) (h2 : ∃ j, s = r.drop j) : ∃ j, s = l.drop j := by
  obtain ⟨j, rfl⟩ := h
  obtain ⟨i, rfl⟩ := h2
  exact ⟨j + i, by rw [List.drop_drop]⟩
theorem suf_tail (l : List Tok) : ∃ j, l.tail = l.drop j := ⟨1, by simp⟩
theorem suf_len {l r : List Tok} (h : ∃ j, r = l.drop j) : r.length ≤ l.length := by
  obtain ⟨j, rfl⟩ := h; simp
theorem suf_pos {l r : List Tok} (h : ∃ j, r = l.drop j) : l.drop (l.length - r.length) = r := by
  obtain ⟨j, rfl⟩ := h
  rw [List.length_drop]
  rcases Nat.le_total j l.length with h1 | h1
  · rw [show l.length - (l.length - j) = j by omega]
  · rw [List.drop_eq_nil_of_le h1, List.drop_eq_nil_of_le (by omega)]
theorem hit_lt {k : Nat} {s : List UInt8} {ts : List Tok} {i : Nat} (hh : hit k s (ts.drop i) = true) : i < ts.length := by
  obtain ⟨t, h⟩ := hit_cons hh
  rcases Nat.lt_or_ge i ts.length with h1 | h1
  · exact h1
  · rw [List.drop_eq_nil_of_le h1] at h; cases h
theorem PRok.of {α : Type} {l : List Tok} {a : α} {r : List Tok} (h1 : r.length < l.length) (h2 : ∃ j, r = l.drop j) : PRok l (.ok (a, r)) := ⟨h1, h2⟩
theorem PRok.tail {α : Type} {k : Nat} {s : List UInt8} {l : List Tok} (h : hit k s l = true) (a : α) : PRok l (.ok (a, l.tail)) := ⟨by have := hit_len h; omega, suf_tail l⟩
theorem PRok.on {α : Type} {l r : List Tok} {x : PR α} (hr : ∃ j, r = l.drop j) (hx : PRok r x) : PRok l x := by
  have hl := suf_len hr
  cases x with
  | error e => exact Nat.le_trans hx hl
  | ok p => exact ⟨Nat.lt_of_lt_of_le hx.1 hl, suf_trans hr hx.2⟩
theorem mAtom_ok {typ : List Tok → PR Ty} (ht : ∀ l, PRok l (typ l)) (l : List Tok) : PRok l (mAtom typ l) := by
  unfold mAtom
  by_cases h1 : hit 2 tkInt l = true
  · rw [if_pos h1]; exact PRok.tail h1 _
  rw [if_neg h1]
  by_cases h2 : hit 2 tkBool l = true
  · rw [if_pos h2]; exact PRok.tail h2 _
  rw [if_neg h2]
  by_cases h3 : hit 2 tkString l = true
  · rw [if_pos h3]; exact PRok.tail h3 _
  rw [if_neg h3]
  by_cases h4 : hit 2 tkUnit l = true
  · rw [if_pos h4]; exact PRok.tail h4 _
  rw [if_neg h4]
  by_cases h5 : hit 5 [63] l = true
  · rw [if_pos h5]; exact PRok.tail h5 _
  rw [if_neg h5]
  by_cases h6 : hit 5 [40] l = true
  · rw [if_pos h6]
    have h := (ht l.tail).on (suf_tail l)
    cases hx : typ l.tail with
    | error e => rw [hx] at h; exact h
    | ok p =>
      rw [hx] at h
      obtain ⟨t, r⟩ := p
      show PRok l (if hit 5 [41] r = true then .ok (t, r.tail) else .error r.length)
      by_cases h7 : hit 5 [41] r = true
      · rw [if_pos h7]
        exact (PRok.tail h7 t).on h.2
      · rw [if_neg h7]
        exact Nat.le_of_lt h.1
  · rw [if_neg h6]
    exact Nat.le_refl _
theorem mLists_suf : ∀ (l : List Tok) (t : Ty), ∃ j, (mLists t l).2 = l.drop j
  | [], t => ⟨0, rfl⟩
  | x :: r, t => by
    rw [mLists]
    split
    · obtain ⟨j, hj⟩ := mLists_suf r (.one 8 t)
      exact ⟨j + 1, by rw [hj]; rfl⟩
    · exact ⟨0, rfl⟩
theorem mLists_hit {t : Ty} {l : List Tok} (h : hit 2 tkList l = true) : mLists t l = mLists (.one 8 t) l.tail := by
  obtain ⟨x, hx⟩ := hit_cons h
  rw [hx] at h ⊢
  rw [mLists, if_pos (show (x.k == 2 && x.s == tkList) = true from h)]
  rfl
theorem mLists_miss {t : Ty} {l : List Tok} (h : hit 2 tkList l = false) : mLists t l = (t, l) := by
  cases l with
  | nil => rfl
  | cons x r => rw [mLists, if_neg (by rw [show (x.k == 2 && x.s == tkList) = false from h]; decide)]

theorem mPost_ok {typ : List Tok → PR Ty} (ht : ∀ l, PRok l (typ l)) (l : List Tok) : PRok l (mPost typ l) := by
  unfold mPost
  have h := mAtom_ok ht l
  cases hx : mAtom typ l with
  | error e => rw [hx] at h; exact h
  | ok p =>
    rw [hx] at h
    obtain ⟨t, r⟩ := p
    have hs := mLists_suf r t
    exact ⟨Nat.lt_of_le_of_lt (suf_len hs) h.1, suf_trans h.2 hs⟩
theorem mProd_ok {typ : List Tok → PR Ty} (ht : ∀ l, PRok l (typ l)) (l : List Tok) : PRok l (mProd typ l) := by
  unfold mProd
  have h := mPost_ok ht l
  cases hx : mPost typ l with
  | error e => rw [hx] at h; exact h
  | ok p =>
    rw [hx] at h
    obtain ⟨a, r⟩ := p
    show PRok l (if hit 5 [42] r = true then match mPost typ r.tail with
      | .error e => .error e
      | .ok (b, r') => .ok (.two 7 a b, r') else .ok (a, r))
    by_cases h2 : hit 5 [42] r = true
    · rw [if_pos h2]
      have h3 := ((mPost_ok ht r.tail).on (suf_tail r)).on h.2
      cases hy : mPost typ r.tail with
      | error e => rw [hy] at h3; exact h3
      | ok q => rw [hy] at h3; exact h3
    · rw [if_neg h2]; exact h
theorem mTypF_ok : ∀ (f : Nat) (l : List Tok), PRok l (mTypF f l)
  | 0, l => Nat.le_refl _
  | f + 1, l => by
    rw [mTypF]
    have h := mProd_ok (mTypF_ok f) l
    cases hx : mProd (mTypF f) l with
    | error e => rw [hx] at h; exact h
    | ok p =>
      rw [hx] at h
      obtain ⟨a, r⟩ := p
      show PRok l (if hit 5 [45, 62] r = true then match mTypF f r.tail with
        | .error e => .error e
        | .ok (b, r') => .ok (.two 9 a b, r') else .ok (a, r))
      by_cases h2 : hit 5 [45, 62] r = true
      · rw [if_pos h2]
        have h3 := ((mTypF_ok f r.tail).on (suf_tail r)).on h.2
        cases hy : mTypF f r.tail with
        | error e => rw [hy] at h3; exact h3
        | ok q => rw [hy] at h3; exact h3
      · rw [if_neg h2]; exact h

mutual
def mTxt : Ty → List UInt8
  | .mk k n ks =>
    if k = 1 then tkInt else if k = 2 then tkBool else if k = 3 then tkString else if k = 4 then tkUnit else if k = 5 then [63]
    else if k = 6 then 39 :: mNum n
    else if k = 8 then mKidAt 0 ks ++ [32, 108, 105, 115, 116]
    else if k = 7 then mKidAt 0 ks ++ [32, 42, 32] ++ mKidAt 1 ks
    else mKidAt 0 ks ++ [32, 45, 62, 32] ++ mKidAt 1 ks
def mKidAt : Nat → List Ty → List UInt8
  | _, [] => []
  | 0, t :: _ => mKid t
  | i + 1, _ :: r => mKidAt i r
def mKid : Ty → List UInt8
  | .mk k n ks => if ks.isEmpty then mTxt (.mk k n ks) else [40] ++ mTxt (.mk k n ks) ++ [41]
end

end Go.Proofs.YtlagglkpbnbmeaaGreatDoor

/- The plain model of types: how many nodes, which are right, which are the same. No program in sight. -/
namespace Go.Proofs.YtlagglkpbnbmeaaGreatDoor

def mKids (k : Int) : Int := if k = 1 then 0 else if k = 2 then 0 else if k = 3 then 0 else if k = 4 then 0 else if k = 5 then 0 else if k = 6 then 0 else if k = 8 then 1 else if k = 7 then 2 else if k = 9 then 2 else -1
mutual
def mRight : Ty → Bool
  | .mk k n ks => (decide (mKids k = ks.length) && decide (0 ≤ n) && decide (n ≤ 1048576) && (decide (k = 6) || decide (n = 0))) && mRights ks
def mRights : List Ty → Bool
  | [] => true
  | t :: r => mRight t && mRights r
end
mutual
def mWithout (q : Int) : Ty → Bool
  | .mk k _ ks => !decide (k = q) && mWithouts q ks
def mWithouts (q : Int) : List Ty → Bool
  | [] => true
  | t :: r => mWithout q t && mWithouts q r
end
mutual
def mSame : Ty → Ty → Bool
  | .mk k n ks, b => decide (k = b.kind) && decide (n = b.num) && mSames ks b.kids
def mSames : List Ty → List Ty → Bool
  | [], [] => true
  | a :: r, bs => match bs with
    | [] => false
    | b :: s => mSame a b && mSames r s
  | [], _ :: _ => false
end
mutual
def mCnt : Ty → Nat → Nat
  | .mk _ _ ks, n => mCnts ks (n + 1)
def mCnts : List Ty → Nat → Nat
  | [], n => n
  | t :: r, n => if n ≤ 600 then mCnts r (mCnt t n) else n
end
theorem mRight_eq (t : Ty) : mRight t = ((decide (mKids t.kind = t.kids.length) && decide (0 ≤ t.num) && decide (t.num ≤ 1048576) && (decide (t.kind = 6) || decide (t.num = 0))) && mRights t.kids) := by cases t; rw [mRight]; rfl
theorem mWithout_eq (q : Int) (t : Ty) : mWithout q t = (!decide (t.kind = q) && mWithouts q t.kids) := by cases t; rw [mWithout]; rfl
theorem mSame_eq (a b : Ty) : mSame a b = (decide (a.kind = b.kind) && decide (a.num = b.num) && mSames a.kids b.kids) := by cases a; rw [mSame]; rfl
theorem drop_get {α : Type} {l : List α} {i : Nat} {x : α} (h : l[i]? = some x) : l.drop i = x :: l.drop (i + 1) := by
  have hi : i < l.length := by
    rcases Nat.lt_or_ge i l.length with h1 | h1
    · exact h1
    · rw [List.getElem?_eq_none h1] at h; cases h
  rw [List.drop_eq_getElem_cons hi]
  rw [List.getElem?_eq_getElem hi] at h
  cases h
  rfl
theorem get_some {α : Type} {l : List α} {i : Nat} (h : i < l.length) : ∃ x, l[i]? = some x := ⟨l[i], List.getElem?_eq_getElem h⟩
theorem Ty.kid_lt' {t x : Ty} {i : Nat} (h : t.kids[i]? = some x) : x.size < t.size := by
  have hi : i < t.kids.length := by
    rcases Nat.lt_or_ge i t.kids.length with h1 | h1
    · exact h1
    · rw [List.getElem?_eq_none h1] at h; cases h
  have := t.kid_lt i hi
  rw [List.getElem?_eq_getElem hi] at h
  cases h
  exact this
theorem Ty.kids_lt (t : Ty) : t.kids.length < t.size := by
  cases t with
  | mk k n ks => have := Ty.len_le ks; rw [Ty.size]; simp only [Ty.kids]; omega
theorem mSames_len : ∀ (a b : List Ty), mSames a b = true → a.length = b.length
  | [], [], _ => rfl
  | [], _ :: _, h => by rw [mSames] at h; cases h
  | _ :: _, [], h => by rw [mSames] at h; cases h
  | x :: r, y :: s, h => by
    rw [mSames, Bool.and_eq_true] at h
    simp [mSames_len r s h.2]
mutual
theorem mCnt_le : ∀ (t : Ty) (n : Nat), n + 1 ≤ mCnt t n ∧ mCnt t n ≤ max 601 (n + 1)
  | .mk k m ks, n => by
    rw [mCnt]
    exact mCnts_le ks (n + 1)
theorem mCnts_le : ∀ (l : List Ty) (n : Nat), n ≤ mCnts l n ∧ mCnts l n ≤ max 601 n
  | [], n => by rw [mCnts]; omega
  | t :: r, n => by
    rw [mCnts]
    have h1 := mCnt_le t n
    have h2 := mCnts_le r (mCnt t n)
    split <;> omega
end
mutual
theorem mCnt_light : ∀ (t : Ty) (n : Nat), mCnt t n ≤ 600 → mCnt t n = n + t.size
  | .mk k m ks, n => by
    rw [mCnt, Ty.size]
    intro h
    have := mCnts_light ks (n + 1) h
    omega
theorem mCnts_light : ∀ (l : List Ty) (n : Nat), mCnts l n ≤ 600 → mCnts l n = n + Ty.sizes l
  | [], n => by rw [mCnts, Ty.sizes]; omega
  | t :: r, n => by
    rw [mCnts, Ty.sizes]
    intro h
    split at h
    · rename_i hn
      rw [if_pos hn]
      have h1 := mCnts_le r (mCnt t n)
      have h2 := mCnts_light r (mCnt t n) h
      have h3 := mCnt_light t n (by omega)
      omega
    · omega
end

end Go.Proofs.YtlagglkpbnbmeaaGreatDoor

/- The plain model of types: the right ones' shapes, how long their texts are. No program in sight. -/
namespace Go.Proofs.YtlagglkpbnbmeaaGreatDoor

inductive RightTy : Ty → Prop
  | int : RightTy (.leaf 1)
  | bool : RightTy (.leaf 2)
  | str : RightTy (.leaf 3)
  | unit : RightTy (.leaf 4)
  | dyn : RightTy (.leaf 5)
  | var (n : Int) : 0 ≤ n → n ≤ 1048576 → RightTy (.mk 6 n [])
  | pair (a b : Ty) : RightTy a → RightTy b → RightTy (.two 7 a b)
  | list (a : Ty) : RightTy a → RightTy (.one 8 a)
  | func (a b : Ty) : RightTy a → RightTy b → RightTy (.two 9 a b)

theorem right_ty : ∀ (m : Nat) (t : Ty), t.size ≤ m → mRight t = true → RightTy t
  | 0, t, h, _ => absurd t.size_pos (by omega)
  | m + 1, .mk k n ks, hm, h => by
    rw [mRight, Bool.and_eq_true, Bool.and_eq_true, Bool.and_eq_true, Bool.and_eq_true, Bool.or_eq_true, decide_eq_true_eq, decide_eq_true_eq, decide_eq_true_eq, decide_eq_true_eq, decide_eq_true_eq] at h
    obtain ⟨⟨⟨⟨h1, h2⟩, h3⟩, h4⟩, h5⟩ := h
    rw [Ty.size] at hm
    unfold mKids at h1
    by_cases e1 : k = 1
    · subst e1
      obtain rfl : ks = [] := List.eq_nil_of_length_eq_zero (by simp at h1; omega)
      obtain rfl : n = 0 := by omega
      exact .int
    rw [if_neg e1] at h1
    by_cases e2 : k = 2
    · subst e2
      obtain rfl : ks = [] := List.eq_nil_of_length_eq_zero (by simp at h1; omega)
      obtain rfl : n = 0 := by omega
      exact .bool
    rw [if_neg e2] at h1
    by_cases e3 : k = 3
    · subst e3
      obtain rfl : ks = [] := List.eq_nil_of_length_eq_zero (by simp at h1; omega)
      obtain rfl : n = 0 := by omega
      exact .str
    rw [if_neg e3] at h1
    by_cases e4 : k = 4
    · subst e4
      obtain rfl : ks = [] := List.eq_nil_of_length_eq_zero (by simp at h1; omega)
      obtain rfl : n = 0 := by omega
      exact .unit
    rw [if_neg e4] at h1
    by_cases e5 : k = 5
    · subst e5
      obtain rfl : ks = [] := List.eq_nil_of_length_eq_zero (by simp at h1; omega)
      obtain rfl : n = 0 := by omega
      exact .dyn
    rw [if_neg e5] at h1
    by_cases e6 : k = 6
    · subst e6
      obtain rfl : ks = [] := List.eq_nil_of_length_eq_zero (by simp at h1; omega)
      exact .var n h2 h3
    rw [if_neg e6] at h1
    obtain rfl : n = 0 := by omega
    by_cases e8 : k = 8
    · subst e8
      rw [if_pos rfl] at h1
      match ks, h1, h5, hm with
      | [a], _, h5, hm =>
        rw [mRights, mRights, Bool.and_true] at h5
        rw [Ty.sizes, Ty.sizes] at hm
        exact .list a (right_ty m a (by omega) h5)
      | [], h1, _, _ => exact absurd h1 (by simp)
      | _ :: _ :: _, h1, _, _ => exact absurd h1 (by simp; omega)
    rw [if_neg e8] at h1
    have two : (ks.length : Int) = 2 → ∃ a b, ks = [a, b] ∧ RightTy a ∧ RightTy b := by
      intro h1
      match ks, h1, h5, hm with
      | [a, b], _, h5, hm =>
        rw [mRights, mRights, mRights, Bool.and_true, Bool.and_eq_true] at h5
        rw [Ty.sizes, Ty.sizes, Ty.sizes] at hm
        exact ⟨a, b, rfl, right_ty m a (by omega) h5.1, right_ty m b (by omega) h5.2⟩
      | [], h1, _, _ => exact absurd h1 (by simp)
      | [_], h1, _, _ => exact absurd h1 (by simp)
      | _ :: _ :: _ :: _, h1, _, _ => exact absurd h1 (by simp; omega)
    by_cases e7 : k = 7
    · subst e7
      rw [if_pos rfl] at h1
      obtain ⟨a, b, rfl, ha, hb⟩ := two h1.symm
      exact .pair a b ha hb
    rw [if_neg e7] at h1
    by_cases e9 : k = 9
    · subst e9
      rw [if_pos rfl] at h1
      obtain ⟨a, b, rfl, ha, hb⟩ := two h1.symm
      exact .func a b ha hb
    rw [if_neg e9] at h1
    omega
theorem right_right {t : Ty} (h : RightTy t) : mRight t = true := by
  induction h with
  | var n h1 h2 =>
    rw [mRight, mRights]
    have : mKids 6 = 0 := rfl
    simp [this, h1, h2]
  | pair a b _ _ ha hb => rw [mRight, mRights, mRights, mRights, ha, hb]; rfl
  | list a _ ha => rw [mRight, mRights, mRights, ha]; rfl
  | func a b _ _ ha hb => rw [mRight, mRights, mRights, mRights, ha, hb]; rfl
  | _ => rfl

theorem mTxt_1 : mTxt (.leaf 1) = tkInt := by rw [mTxt]; rfl
theorem mTxt_2 : mTxt (.leaf 2) = tkBool := by rw [mTxt]; rfl
theorem mTxt_3 : mTxt (.leaf 3) = tkString := by rw [mTxt]; rfl
theorem mTxt_4 : mTxt (.leaf 4) = tkUnit := by rw [mTxt]; rfl
theorem mTxt_5 : mTxt (.leaf 5) = [63] := by rw [mTxt]; rfl
theorem mTxt_var (n : Int) : mTxt (.mk 6 n []) = 39 :: mNum n := by rw [mTxt]; rfl
theorem mTxt_pair (a b : Ty) : mTxt (.two 7 a b) = mKid a ++ [32, 42, 32] ++ mKid b := by rw [mTxt]; simp [mKidAt]
theorem mTxt_list (a : Ty) : mTxt (.one 8 a) = mKid a ++ [32, 108, 105, 115, 116] := by rw [mTxt]; simp [mKidAt]
theorem mTxt_fun (a b : Ty) : mTxt (.two 9 a b) = mKid a ++ [32, 45, 62, 32] ++ mKid b := by rw [mTxt]; simp [mKidAt]
theorem mKid_eq (t : Ty) : mKid t = if t.kids.isEmpty then mTxt t else [40] ++ mTxt t ++ [41] := by cases t; rw [mKid]; rfl
theorem mNum_small {n : Int} (h1 : 0 ≤ n) (h2 : n ≤ 1048576) : (mNum n).length ≤ 19 := by
  rw [mNum, if_neg (by omega)]
  exact (mDigits_len (by rw [pow19]; omega)).2
theorem mTxt_len {t : Ty} (h : RightTy t) : (mTxt t).length + 4 ≤ 30 * t.size := by
  have key : ∀ t : Ty, (mTxt t).length + 4 ≤ 30 * t.size → (mKid t).length + 2 ≤ 30 * t.size := by
    intro t h
    rw [mKid_eq]
    split
    · omega
    · simp only [List.length_append, List.length_cons, List.length_nil]; omega
  induction h with
  | var n h1 h2 =>
    have := mNum_small h1 h2
    rw [mTxt_var]
    simp only [List.length_cons, Ty.size, Ty.sizes]; omega
  | pair a b _ _ ha hb =>
    have h1 := key a ha
    have h2 := key b hb
    rw [mTxt_pair]
    simp only [List.length_append, List.length_cons, List.length_nil, Ty.size, Ty.sizes]; omega
  | list a _ ha =>
    have h1 := key a ha
    rw [mTxt_list]
    simp only [List.length_append, List.length_cons, List.length_nil, Ty.size, Ty.sizes]; omega
  | func a b _ _ ha hb =>
    have h1 := key a ha
    have h2 := key b hb
    rw [mTxt_fun]
    simp only [List.length_append, List.length_cons, List.length_nil, Ty.size, Ty.sizes]; omega
  | _ => simp [mTxt, Ty.size, Ty.sizes, tkInt, tkBool, tkString, tkUnit]
theorem mKid_len {t : Ty} (h : RightTy t) : (mKid t).length + 2 ≤ 30 * t.size := by
  have := mTxt_len h
  rw [mKid_eq]
  split
  · omega
  · simp only [List.length_append, List.length_cons, List.length_nil]; omega

end Go.Proofs.YtlagglkpbnbmeaaGreatDoor

