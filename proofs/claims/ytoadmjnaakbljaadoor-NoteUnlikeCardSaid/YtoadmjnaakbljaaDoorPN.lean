/- The plain model of types: how many nodes, which are right, which are the same. No program in sight. -/
import Derived.Test.YtoadmjnaakbljaaDoorPM
namespace Go.Proofs.YtoadmjnaakbljaaDoor

def mKids (k : Int) : Int := if k = 1 then 0 else if k = 2 then 0 else if k = 3 then 0 else if k = 4 then 0 else if k = 5 then 0 else if k = 6 then 0 else if k = 8 then 1 else if k = 7 then 2 else if k = 9 then 2 else -1
mutual
def mRight : Ty → Bool
  | .mk k n ks => (decide (mKids k = ks.length) && decide (0 ≤ n) && decide (n ≤ 1048576) && (decide (k = 6) || decide (n = 0))) && mRights ks
def mRights : List Ty → Bool
  | [] => true
  | t :: r => mRight t && mRights r
end
mutual
def mWithout (q : Int) : Ty → Bool
  | .mk k _ ks => !decide (k = q) && mWithouts q ks
def mWithouts (q : Int) : List Ty → Bool
  | [] => true
  | t :: r => mWithout q t && mWithouts q r
end
mutual
def mSame : Ty → Ty → Bool
  | .mk k n ks, b => decide (k = b.kind) && decide (n = b.num) && mSames ks b.kids
def mSames : List Ty → List Ty → Bool
  | [], [] => true
  | a :: r, bs => match bs with
    | [] => false
    | b :: s => mSame a b && mSames r s
  | [], _ :: _ => false
end
mutual
def mCnt : Ty → Nat → Nat
  | .mk _ _ ks, n => mCnts ks (n + 1)
def mCnts : List Ty → Nat → Nat
  | [], n => n
  | t :: r, n => if n ≤ 600 then mCnts r (mCnt t n) else n
end
theorem mRight_eq (t : Ty) : mRight t = ((decide (mKids t.kind = t.kids.length) && decide (0 ≤ t.num) && decide (t.num ≤ 1048576) && (decide (t.kind = 6) || decide (t.num = 0))) && mRights t.kids) := by cases t; rw [mRight]; rfl
theorem mWithout_eq (q : Int) (t : Ty) : mWithout q t = (!decide (t.kind = q) && mWithouts q t.kids) := by cases t; rw [mWithout]; rfl
theorem mSame_eq (a b : Ty) : mSame a b = (decide (a.kind = b.kind) && decide (a.num = b.num) && mSames a.kids b.kids) := by cases a; rw [mSame]; rfl
theorem mCnt_eq (t : Ty) (n : Nat) : mCnt t n = mCnts t.kids (n + 1) := by cases t; rw [mCnt]; rfl
theorem drop_get {α : Type} {l : List α} {i : Nat} {x : α} (h : l[i]? = some x) : l.drop i = x :: l.drop (i + 1) := by
  have hi : i < l.length := by
    rcases Nat.lt_or_ge i l.length with h1 | h1
    · exact h1
    · rw [List.getElem?_eq_none h1] at h; cases h
  rw [List.drop_eq_getElem_cons hi]
  rw [List.getElem?_eq_getElem hi] at h
  cases h
  rfl
theorem get_some {α : Type} {l : List α} {i : Nat} (h : i < l.length) : ∃ x, l[i]? = some x := ⟨l[i], List.getElem?_eq_getElem h⟩
theorem Ty.kid_lt' {t x : Ty} {i : Nat} (h : t.kids[i]? = some x) : x.size < t.size := by
  have hi : i < t.kids.length := by
    rcases Nat.lt_or_ge i t.kids.length with h1 | h1
    · exact h1
    · rw [List.getElem?_eq_none h1] at h; cases h
  have := t.kid_lt i hi
  rw [List.getElem?_eq_getElem hi] at h
  cases h
  exact this
theorem Ty.kids_lt (t : Ty) : t.kids.length < t.size := by
  cases t with
  | mk k n ks => have := Ty.len_le ks; rw [Ty.size]; simp only [Ty.kids]; omega
theorem mSames_len : ∀ (a b : List Ty), mSames a b = true → a.length = b.length
  | [], [], _ => rfl
  | [], _ :: _, h => by rw [mSames] at h; cases h
  | _ :: _, [], h => by rw [mSames] at h; cases h
  | x :: r, y :: s, h => by
    rw [mSames, Bool.and_eq_true] at h
    simp [mSames_len r s h.2]
mutual
theorem mCnt_le : ∀ (t : Ty) (n : Nat), n + 1 ≤ mCnt t n ∧ mCnt t n ≤ max 601 (n + 1)
  | .mk k m ks, n => by
    rw [mCnt]
    exact mCnts_le ks (n + 1)
theorem mCnts_le : ∀ (l : List Ty) (n : Nat), n ≤ mCnts l n ∧ mCnts l n ≤ max 601 n
  | [], n => by rw [mCnts]; omega
  | t :: r, n => by
    rw [mCnts]
    have h1 := mCnt_le t n
    have h2 := mCnts_le r (mCnt t n)
    split <;> omega
end
mutual
/-- light: as many as there are nodes -/
theorem mCnt_light : ∀ (t : Ty) (n : Nat), mCnt t n ≤ 600 → mCnt t n = n + t.size
  | .mk k m ks, n => by
    rw [mCnt, Ty.size]
    intro h
    have := mCnts_light ks (n + 1) h
    omega
theorem mCnts_light : ∀ (l : List Ty) (n : Nat), mCnts l n ≤ 600 → mCnts l n = n + Ty.sizes l
  | [], n => by rw [mCnts, Ty.sizes]; omega
  | t :: r, n => by
    rw [mCnts, Ty.sizes]
    intro h
    split at h
    · rename_i hn
      rw [if_pos hn]
      have h1 := mCnts_le r (mCnt t n)
      have h2 := mCnts_light r (mCnt t n) h
      have h3 := mCnt_light t n (by omega)
      omega
    · omega
end

end Go.Proofs.YtoadmjnaakbljaaDoor
