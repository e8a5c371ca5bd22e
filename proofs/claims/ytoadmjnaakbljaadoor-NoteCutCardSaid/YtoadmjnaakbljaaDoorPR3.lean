/- The plain law of NoteCut: what the first tokens of a type's text tell. No program in sight. -/
import Derived.Test.YtoadmjnaakbljaaDoorPR2
namespace Go.Proofs.YtoadmjnaakbljaaDoor

/-! more fuel changes nothing -/
theorem mAtom_congr {ty ty' : List Tok → PR Ty} {l : List Tok} (h : ∀ r, r.length < l.length → ty r = ty' r) : mAtom ty l = mAtom ty' l := by
  cases l with
  | nil => rfl
  | cons x l =>
    unfold mAtom
    rw [h (x :: l).tail (by simp)]
theorem mPost_congr {ty ty' : List Tok → PR Ty} {l : List Tok} (h : ∀ r, r.length < l.length → ty r = ty' r) : mPost ty l = mPost ty' l := by
  unfold mPost
  rw [mAtom_congr h]
theorem mProd_congr {ty ty' : List Tok → PR Ty} (hok : ∀ l, PRok l (ty l)) {l : List Tok} (h : ∀ r, r.length < l.length → ty r = ty' r) : mProd ty l = mProd ty' l := by
  unfold mProd
  rw [← mPost_congr h]
  have hp := mPost_ok hok l
  cases hx : mPost ty l with
  | error e => rfl
  | ok p =>
    rw [hx] at hp
    obtain ⟨a, r⟩ := p
    have hl : r.length < l.length := hp.1
    have hc : mPost ty r.tail = mPost ty' r.tail := mPost_congr fun q hq => h q (by simp only [List.length_tail] at hq; omega)
    simp only [hc]
theorem mTypF_fuel : ∀ (f : Nat) (l : List Tok), l.length < f → mTypF f l = mTypF (f + 1) l
  | 0, _, h => absurd h (by omega)
  | f + 1, l, h => by
    have hc := mProd_congr (mTypF_ok f) (l := l) (fun r hr => mTypF_fuel f r (by omega))
    have hp := mProd_ok (mTypF_ok f) l
    rw [mTypF, mTypF, ← hc]
    cases hx : mProd (mTypF f) l with
    | error e => rfl
    | ok p =>
      rw [hx] at hp
      obtain ⟨a, r⟩ := p
      have hl : r.length < l.length := hp.1
      have := mTypF_fuel f r.tail (by rw [List.length_tail]; omega)
      simp only [this]
theorem mTypF_more (l : List Tok) : ∀ (d f : Nat), l.length < f → mTypF f l = mTypF (f + d) l
  | 0, f, _ => rfl
  | d + 1, f, h => (mTypF_more l d f h).trans (mTypF_fuel (f + d) l (by omega))

/-! more tokens: what was decided stays -/
def Stays {α : Type} (l2 : List Tok) (x y : PR α) : Prop := match x with
  | .error e => e = 0 ∨ y = .error (e + l2.length)
  | .ok (t, r) => r = [] ∨ y = .ok (t, r ++ l2)
theorem hit_app {k : Nat} {s : List UInt8} {x : Tok} {l l2 : List Tok} : hit k s ((x :: l) ++ l2) = hit k s (x :: l) := rfl
theorem mAtom_stays {ty : List Tok → PR Ty} {l2 : List Tok} (ht : ∀ l, Stays l2 (ty l) (ty (l ++ l2))) (l : List Tok) : Stays l2 (mAtom ty l) (mAtom ty (l ++ l2)) := by
  cases l with
  | nil => exact .inl rfl
  | cons x l =>
    have leaf : ∀ k, Stays l2 (.ok (Ty.leaf k, (x :: l).tail)) (.ok (Ty.leaf k, ((x :: l) ++ l2).tail)) := fun k => .inr rfl
    unfold mAtom
    by_cases h1 : hit 2 tkInt (x :: l) = true
    · rw [if_pos h1, if_pos (c := hit 2 tkInt (x :: l ++ l2) = true) h1]; exact leaf 1
    rw [if_neg h1, if_neg (c := hit 2 tkInt (x :: l ++ l2) = true) h1]
    by_cases h2 : hit 2 tkBool (x :: l) = true
    · rw [if_pos h2, if_pos (c := hit 2 tkBool (x :: l ++ l2) = true) h2]; exact leaf 2
    rw [if_neg h2, if_neg (c := hit 2 tkBool (x :: l ++ l2) = true) h2]
    by_cases h3 : hit 2 tkString (x :: l) = true
    · rw [if_pos h3, if_pos (c := hit 2 tkString (x :: l ++ l2) = true) h3]; exact leaf 3
    rw [if_neg h3, if_neg (c := hit 2 tkString (x :: l ++ l2) = true) h3]
    by_cases h4 : hit 2 tkUnit (x :: l) = true
    · rw [if_pos h4, if_pos (c := hit 2 tkUnit (x :: l ++ l2) = true) h4]; exact leaf 4
    rw [if_neg h4, if_neg (c := hit 2 tkUnit (x :: l ++ l2) = true) h4]
    by_cases h5 : hit 5 [63] (x :: l) = true
    · rw [if_pos h5, if_pos (c := hit 5 [63] (x :: l ++ l2) = true) h5]; exact leaf 5
    rw [if_neg h5, if_neg (c := hit 5 [63] (x :: l ++ l2) = true) h5]
    by_cases h6 : hit 5 [40] (x :: l) = true
    · rw [if_pos h6, if_pos (c := hit 5 [40] (x :: l ++ l2) = true) h6]
      have h := ht l
      show Stays l2 (match ty l with
        | .error e => .error e
        | .ok (t, r) => if hit 5 [41] r then .ok (t, r.tail) else .error r.length) (match ty (l ++ l2) with
        | .error e => .error e
        | .ok (t, r) => if hit 5 [41] r then .ok (t, r.tail) else .error r.length)
      cases hx : ty l with
      | error e =>
        rw [hx] at h
        rcases h with h | h
        · exact .inl h
        · rw [h]; exact .inr rfl
      | ok p =>
        rw [hx] at h
        obtain ⟨t, r⟩ := p
        rcases h with h | h
        · have h' : r = [] := h
          subst h'
          exact .inl rfl
        · rw [h]
          cases r with
          | nil => exact .inl rfl
          | cons y r =>
            show Stays l2 (if hit 5 [41] (y :: r) = true then .ok (t, r) else .error (y :: r).length) (if hit 5 [41] (y :: r) = true then .ok (t, r ++ l2) else .error ((y :: r) ++ l2).length)
            by_cases h7 : hit 5 [41] (y :: r) = true
            · rw [if_pos h7, if_pos h7]; exact .inr rfl
            · rw [if_neg h7, if_neg h7]; exact .inr (by rw [List.length_append])
    · rw [if_neg h6, if_neg (c := hit 5 [40] (x :: l ++ l2) = true) h6]
      exact .inr (by rw [List.length_append])
theorem mLists_stays (l2 : List Tok) : ∀ (l : List Tok) (t : Ty), (mLists t l).2 = [] ∨ mLists t (l ++ l2) = ((mLists t l).1, (mLists t l).2 ++ l2)
  | [], t => .inl (by rw [mLists])
  | x :: r, t => by
    rw [List.cons_append, mLists, mLists]
    split
    · exact mLists_stays l2 r (.one 8 t)
    · exact .inr rfl
theorem mPost_stays {ty : List Tok → PR Ty} {l2 : List Tok} (ht : ∀ l, Stays l2 (ty l) (ty (l ++ l2))) (l : List Tok) : Stays l2 (mPost ty l) (mPost ty (l ++ l2)) := by
  have h := mAtom_stays ht l
  unfold mPost
  cases hx : mAtom ty l with
  | error e =>
    rw [hx] at h
    rcases h with h | h
    · exact .inl h
    · rw [h]; exact .inr rfl
  | ok p =>
    rw [hx] at h
    obtain ⟨t, r⟩ := p
    rcases h with h | h
    · have h' : r = [] := h
      subst h'
      exact .inl rfl
    · rw [h]
      show Stays l2 (.ok (mLists t r)) (.ok (mLists t (r ++ l2)))
      rcases mLists_stays l2 r t with h2 | h2
      · exact .inl h2
      · rw [h2]; exact .inr rfl
/-- one more, behind a sign -/
def moreM (s : List UInt8) (k : Int) (p2 : List Tok → PR Ty) : PR Ty → PR Ty
  | .error e => .error e
  | .ok (a, r) => if hit 5 s r then (match p2 r.tail with
    | .error e => .error e
    | .ok (b, r') => .ok (Ty.two k a b, r')) else .ok (a, r)
theorem prod_more (ty : List Tok → PR Ty) (l : List Tok) : mProd ty l = moreM [42] 7 (mPost ty) (mPost ty l) := by
  unfold mProd moreM
  cases mPost ty l with
  | error e => rfl
  | ok p => rfl
theorem typ_more (f : Nat) (l : List Tok) : mTypF (f + 1) l = moreM [45, 62] 9 (mTypF f) (mProd (mTypF f) l) := by
  rw [mTypF]
  unfold moreM
  cases mProd (mTypF f) l with
  | error e => rfl
  | ok p => rfl
theorem more_stays {l2 : List Tok} {p2 : List Tok → PR Ty} {s : List UInt8} {k : Int} (h2 : ∀ l, Stays l2 (p2 l) (p2 (l ++ l2))) {x y : PR Ty} (h : Stays l2 x y) : Stays l2 (moreM s k p2 x) (moreM s k p2 y) := by
  cases x with
  | error e =>
    rcases h with h | h
    · exact .inl h
    · rw [h]; exact .inr rfl
  | ok p =>
    obtain ⟨a, r⟩ := p
    cases r with
    | nil => exact .inl rfl
    | cons z r =>
      rcases h with h | h
      · cases h
      · rw [h]
        by_cases h7 : hit 5 s (z :: r) = true
        · have hq := h2 r
          have e1 : moreM s k p2 (.ok (a, z :: r)) = (match p2 r with
            | .error e => .error e
            | .ok (b, r') => .ok (Ty.two k a b, r')) := if_pos h7
          have e2 : moreM s k p2 (.ok (a, (z :: r) ++ l2)) = (match p2 (r ++ l2) with
            | .error e => .error e
            | .ok (b, r') => .ok (Ty.two k a b, r')) := if_pos (c := hit 5 s (z :: r ++ l2) = true) h7
          rw [e1, e2]
          cases hx : p2 r with
          | error e =>
            rw [hx] at hq
            rcases hq with hq | hq
            · exact .inl hq
            · rw [hq]; exact .inr rfl
          | ok q =>
            rw [hx] at hq
            obtain ⟨b, r'⟩ := q
            rcases hq with hq | hq
            · exact .inl hq
            · rw [hq]; exact .inr rfl
        · have e1 : moreM s k p2 (.ok (a, z :: r)) = .ok (a, z :: r) := if_neg h7
          have e2 : moreM s k p2 (.ok (a, (z :: r) ++ l2)) = .ok (a, (z :: r) ++ l2) := if_neg (c := hit 5 s (z :: r ++ l2) = true) h7
          rw [e1, e2]
          exact .inr rfl
theorem mTypF_stays (l2 : List Tok) : ∀ (f : Nat) (l : List Tok), Stays l2 (mTypF f l) (mTypF f (l ++ l2))
  | 0, l => .inr (by rw [mTypF, List.length_append])
  | f + 1, l => by
    rw [typ_more, typ_more, prod_more, prod_more]
    exact more_stays (mTypF_stays l2 f) (more_stays (mPost_stays (mTypF_stays l2 f)) (mPost_stays (mTypF_stays l2 f) l))

/-! what is read is some type -/
def KPos (x : PR Ty) : Prop := match x with
  | .error _ => True
  | .ok (t, _) => 0 < t.kind
theorem mLists_kpos : ∀ (l : List Tok) (t : Ty), 0 < t.kind → 0 < (mLists t l).1.kind
  | [], t, h => by rw [mLists]; exact h
  | x :: r, t, h => by
    rw [mLists]
    split
    · exact mLists_kpos r _ (show 0 < (8 : Int) by decide)
    · exact h
theorem mAtom_kpos {ty : List Tok → PR Ty} (ht : ∀ l, KPos (ty l)) (l : List Tok) : KPos (mAtom ty l) := by
  unfold mAtom
  split
  · show 0 < (1 : Int); decide
  split
  · show 0 < (2 : Int); decide
  split
  · show 0 < (3 : Int); decide
  split
  · show 0 < (4 : Int); decide
  split
  · show 0 < (5 : Int); decide
  split
  · have h := ht l.tail
    cases hx : ty l.tail with
    | error e => trivial
    | ok p =>
      rw [hx] at h
      obtain ⟨t, r⟩ := p
      show KPos (if hit 5 [41] r = true then .ok (t, r.tail) else .error r.length)
      split
      · exact h
      · trivial
  · trivial
theorem mPost_kpos {ty : List Tok → PR Ty} (ht : ∀ l, KPos (ty l)) (l : List Tok) : KPos (mPost ty l) := by
  have h := mAtom_kpos ht l
  unfold mPost
  cases hx : mAtom ty l with
  | error e => trivial
  | ok p =>
    rw [hx] at h
    obtain ⟨t, r⟩ := p
    exact mLists_kpos r t h
theorem mProd_kpos {ty : List Tok → PR Ty} (ht : ∀ l, KPos (ty l)) (l : List Tok) : KPos (mProd ty l) := by
  have h := mPost_kpos ht l
  unfold mProd
  cases hx : mPost ty l with
  | error e => trivial
  | ok p =>
    rw [hx] at h
    obtain ⟨a, r⟩ := p
    show KPos (if hit 5 [42] r = true then match mPost ty r.tail with
      | .error e => .error e
      | .ok (b, r') => .ok (.two 7 a b, r') else .ok (a, r))
    split
    · cases mPost ty r.tail with
      | error e => trivial
      | ok q => show 0 < (7 : Int); decide
    · exact h
theorem mTypF_kpos : ∀ (f : Nat) (l : List Tok), KPos (mTypF f l)
  | 0, _ => trivial
  | f + 1, l => by
    have h := mProd_kpos (mTypF_kpos f) l
    rw [mTypF]
    cases hx : mProd (mTypF f) l with
    | error e => trivial
    | ok p =>
      rw [hx] at h
      obtain ⟨a, r⟩ := p
      show KPos (if hit 5 [45, 62] r = true then match mTypF f r.tail with
        | .error e => .error e
        | .ok (b, r') => .ok (.two 9 a b, r') else .ok (a, r))
      split
      · cases mTypF f r.tail with
        | error e => trivial
        | ok q => show 0 < (9 : Int); decide
      · exact h

/-- the first k tokens of a type's text -/
theorem read_cut {t : Ty} (h : ClosedTy t) {B : List Tok} (hm : B.map Tok.bare = bTxt t) (k : Nat) (hk : k ≤ B.length) :
    mRead (B.take k) 0 = (.leaf 0, (k : Int), 3) ∨ ∃ u j, mRead (B.take k) 0 = (u, ((j : Nat) : Int), 0) ∧ 0 < j ∧ j ≤ k ∧ 0 < u.kind := by
  have hl : (B.take k).length = k := by rw [List.length_take]; omega
  have hb : (bTxt t).length = B.length := by rw [← hm, List.length_map]
  have hw : mTypF (B.length + 1) B = .ok (t, B.drop (bTxt t).length) := rd_txt h _ B [] (by rw [hm, List.append_nil]) nogo_nil (by omega)
  have e1 : mTyp (B.take k) = mTypF (B.length + 1) (B.take k) := by
    rw [mTyp, hl]
    have := mTypF_more (B.take k) (B.length - k) (k + 1) (by omega)
    rw [this]
    congr 1
    omega
  have hs := mTypF_stays (B.drop k) (B.length + 1) (B.take k)
  rw [List.take_append_drop, hw] at hs
  have hok := mTypF_ok (B.length + 1) (B.take k)
  have hkp := mTypF_kpos (B.length + 1) (B.take k)
  rw [mRead, if_neg (by omega)]
  show (match mTyp ((B.take k).drop 0) with
    | .ok (t, r) => (t, (((B.take k).length - r.length : Nat) : Int), (0 : Int))
    | .error k' => (.leaf 0, (((B.take k).length - k' : Nat) : Int), 3)) = _ ∨ ∃ u j, (match mTyp ((B.take k).drop 0) with
    | .ok (t, r) => (t, (((B.take k).length - r.length : Nat) : Int), (0 : Int))
    | .error k' => (.leaf 0, (((B.take k).length - k' : Nat) : Int), 3)) = _ ∧ _
  rw [List.drop_zero, e1, hl]
  cases hx : mTypF (B.length + 1) (B.take k) with
  | error e =>
    rw [hx] at hs
    rcases hs with hs | hs
    · have hs' : e = 0 := hs
      subst hs'
      exact .inl rfl
    · cases hs
  | ok p =>
    rw [hx] at hok hkp
    obtain ⟨u, r⟩ := p
    have h1 : r.length < (B.take k).length := hok.1
    exact .inr ⟨u, k - r.length, rfl, by omega, by omega, hkp⟩

end Go.Proofs.YtoadmjnaakbljaaDoor
