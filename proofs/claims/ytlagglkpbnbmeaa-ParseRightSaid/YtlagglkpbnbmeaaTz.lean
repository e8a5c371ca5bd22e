/- A type that is read is no greater than its tokens. -/
import Derived.Test.YtlagglkpbnbmeaaPX
namespace Go.Proofs.Ytlagglkpbnbmeaa

theorem mLists_size : ∀ (l : List Tok) (t : Ty), (mLists t l).1.size + (mLists t l).2.length ≤ t.size + l.length
  | [], t => by rw [mLists]; exact Nat.le_refl _
  | x :: r, t => by
    rw [mLists]
    split
    · have := mLists_size r (.one 8 t)
      simp only [Ty.size, Ty.sizes, List.length_cons] at this ⊢
      omega
    · exact Nat.le_refl _
/-- a type is no greater than the tokens that tell it -/
def SzOK (l : List Tok) (x : PR Ty) : Prop := match x with
  | .error _ => True
  | .ok (t, r) => t.size + r.length ≤ l.length
theorem mAtom_sz {typ : List Tok → PR Ty} (ht : ∀ l, SzOK l (typ l)) (l : List Tok) : SzOK l (mAtom typ l) := by
  unfold mAtom
  have leaf : ∀ {k : Nat} {s : List UInt8} {j : Int}, hit k s l = true → SzOK l (.ok (.leaf j, l.tail)) := fun h => by
    have := hit_len h
    show (1 + 0) + _ ≤ _
    omega
  by_cases h1 : hit 2 tkInt l = true
  · rw [if_pos h1]; exact leaf h1
  rw [if_neg h1]
  by_cases h2 : hit 2 tkBool l = true
  · rw [if_pos h2]; exact leaf h2
  rw [if_neg h2]
  by_cases h3 : hit 2 tkString l = true
  · rw [if_pos h3]; exact leaf h3
  rw [if_neg h3]
  by_cases h4 : hit 2 tkUnit l = true
  · rw [if_pos h4]; exact leaf h4
  rw [if_neg h4]
  by_cases h5 : hit 5 [63] l = true
  · rw [if_pos h5]; exact leaf h5
  rw [if_neg h5]
  by_cases h6 : hit 5 [40] l = true
  · rw [if_pos h6]
    have h := ht l.tail
    have hl := hit_len h6
    cases hx : typ l.tail with
    | error e => trivial
    | ok p =>
      rw [hx] at h
      obtain ⟨t, r⟩ := p
      show SzOK l (if hit 5 [41] r = true then .ok (t, r.tail) else .error r.length)
      by_cases h7 : hit 5 [41] r = true
      · rw [if_pos h7]
        have := hit_len h7
        have h' : t.size + r.length ≤ l.tail.length := h
        show t.size + r.tail.length ≤ l.length
        omega
      · rw [if_neg h7]; trivial
  · rw [if_neg h6]; trivial
theorem mPost_sz {typ : List Tok → PR Ty} (ht : ∀ l, SzOK l (typ l)) (l : List Tok) : SzOK l (mPost typ l) := by
  unfold mPost
  have h := mAtom_sz ht l
  cases hx : mAtom typ l with
  | error e => trivial
  | ok p =>
    rw [hx] at h
    obtain ⟨t, r⟩ := p
    have hs := mLists_size r t
    have h' : t.size + r.length ≤ l.length := h
    show (mLists t r).1.size + (mLists t r).2.length ≤ l.length
    omega
theorem two_sz {a b : Ty} {k : Int} {l r r' : List Tok} {q : Nat} {s : List UInt8} (h1 : a.size + r.length ≤ l.length) (hh : hit q s r = true) (h2 : b.size + r'.length ≤ r.tail.length) : (Ty.two k a b).size + r'.length ≤ l.length := by
  have := hit_len hh
  simp only [Ty.size, Ty.sizes]
  omega
theorem mProd_sz {typ : List Tok → PR Ty} (ht : ∀ l, SzOK l (typ l)) (l : List Tok) : SzOK l (mProd typ l) := by
  unfold mProd
  have h := mPost_sz ht l
  cases hx : mPost typ l with
  | error e => trivial
  | ok p =>
    rw [hx] at h
    obtain ⟨a, r⟩ := p
    show SzOK l (if hit 5 [42] r = true then match mPost typ r.tail with
      | .error e => .error e
      | .ok (b, r') => .ok (.two 7 a b, r') else .ok (a, r))
    by_cases h2 : hit 5 [42] r = true
    · rw [if_pos h2]
      have h3 := mPost_sz ht r.tail
      cases hy : mPost typ r.tail with
      | error e => trivial
      | ok q => rw [hy] at h3; exact two_sz h h2 h3
    · rw [if_neg h2]; exact h
theorem mTypF_sz : ∀ (f : Nat) (l : List Tok), SzOK l (mTypF f l)
  | 0, _ => trivial
  | f + 1, l => by
    rw [mTypF]
    have h := mProd_sz (mTypF_sz f) l
    cases hx : mProd (mTypF f) l with
    | error e => trivial
    | ok p =>
      rw [hx] at h
      obtain ⟨a, r⟩ := p
      show SzOK l (if hit 5 [45, 62] r = true then match mTypF f r.tail with
        | .error e => .error e
        | .ok (b, r') => .ok (.two 9 a b, r') else .ok (a, r))
      by_cases h2 : hit 5 [45, 62] r = true
      · rw [if_pos h2]
        have h3 := mTypF_sz f r.tail
        cases hy : mTypF f r.tail with
        | error e => trivial
        | ok q => rw [hy] at h3; exact two_sz h h2 h3
      · rw [if_neg h2]; exact h
theorem mRead_size (ts : List Tok) (i : Int) : (mRead ts i).1.size ≤ ts.length + 1 := by
  have one : ∀ k, (Ty.leaf k).size = 1 := fun k => rfl
  rw [mRead]
  split
  · show (Ty.leaf 0).size ≤ _
    rw [one]; omega
  · have h := mTypF_sz ((ts.drop i.toNat).length + 1) (ts.drop i.toNat)
    unfold mTyp
    cases hx : mTypF ((ts.drop i.toNat).length + 1) (ts.drop i.toNat) with
    | error e =>
      show (Ty.leaf 0).size ≤ _
      rw [one]; omega
    | ok p =>
      rw [hx] at h
      obtain ⟨t, r⟩ := p
      have h' : t.size + r.length ≤ (ts.drop i.toNat).length := h
      rw [List.length_drop] at h'
      show t.size ≤ _
      omega

end Go.Proofs.Ytlagglkpbnbmeaa
