/- The plain model of layer 6: tokens that differ in their places alone are read alike, but for places. -/
import Derived.Test.YtlagglkpbnbmeaaGreatDoorEM
import Derived.Test.YtlagglkpbnbmeaaGreatDoorNQ
namespace Go.Proofs.YtlagglkpbnbmeaaGreatDoor
set_option linter.unusedVariables false
set_option linter.unusedSimpArgs false
set_option linter.unusedSectionVars false

mutual
def Pa.nude : Pa → Pa
  | .mk k _ _ nm n s kids => .mk k 0 0 nm n s (pasNude kids)
def pasNude : List Pa → List Pa
  | [] => []
  | p :: r => p.nude :: pasNude r
end
mutual
def Ex.nude : Ex → Ex
  | .mk k _ _ nm arg n s op A B pats kids => .mk k 0 0 nm arg n s op A B (pasNude pats) (exsNude kids)
def exsNude : List Ex → List Ex
  | [] => []
  | p :: r => p.nude :: exsNude r
end
def mapR (x : PR Ty) : PR Ty := match x with
  | .error e => .error e
  | .ok (t, r) => .ok (t, r.map Tok.nude)
def mapQ {α : Type} (f : α → α) (x : QR α) : QR α := match x with
  | .error e => .error e
  | .ok (a, j) => .ok (f a, j)
abbrev nu (ts : List Tok) : List Tok := ts.map Tok.nude
theorem hit_nu (k : Nat) (s : List UInt8) (l : List Tok) : hit k s (nu l) = hit k s l := by cases l <;> rfl
theorem tail_nu (l : List Tok) : (nu l).tail = nu l.tail := by cases l <;> rfl
theorem len_nu (l : List Tok) : (nu l).length = l.length := by simp [nu]
theorem mLists_nu : ∀ (l : List Tok) (t : Ty), mLists t (nu l) = ((mLists t l).1, nu (mLists t l).2)
  | [], t => rfl
  | x :: r, t => by
    show mLists t (x.nude :: nu r) = _
    rw [mLists, mLists]
    by_cases h : (x.k == 2 && x.s == tkList) = true
    · rw [if_pos h, if_pos (show (x.nude.k == 2 && x.nude.s == tkList) = true from h)]; exact mLists_nu r _
    · rw [if_neg h, if_neg (show ¬ (x.nude.k == 2 && x.nude.s == tkList) = true from h)]; rfl
theorem mAtom_nu {typ : List Tok → PR Ty} (h : ∀ l, typ (nu l) = mapR (typ l)) (l : List Tok) : mAtom typ (nu l) = mapR (mAtom typ l) := by
  unfold mAtom
  simp only [hit_nu, tail_nu, len_nu, h]
  split
  · rfl
  · split
    · rfl
    · split
      · rfl
      · split
        · rfl
        · split
          · rfl
          · split
            · rcases typ l.tail with e | ⟨t, r⟩
              · rfl
              · simp only [mapR, hit_nu, tail_nu, len_nu]
                split <;> rfl
            · rfl
theorem mPost_nu {typ : List Tok → PR Ty} (h : ∀ l, typ (nu l) = mapR (typ l)) (l : List Tok) : mPost typ (nu l) = mapR (mPost typ l) := by
  unfold mPost
  rw [mAtom_nu h]
  rcases mAtom typ l with e | ⟨t, r⟩
  · rfl
  · simp only [mapR, mLists_nu]
theorem mProd_nu {typ : List Tok → PR Ty} (h : ∀ l, typ (nu l) = mapR (typ l)) (l : List Tok) : mProd typ (nu l) = mapR (mProd typ l) := by
  unfold mProd
  rw [mPost_nu h]
  rcases mPost typ l with e | ⟨t, r⟩
  · rfl
  · simp only [mapR, hit_nu, tail_nu, mPost_nu h]
    by_cases hh : hit 5 [42] r = true
    · simp only [hh, if_true]
      rcases mPost typ r.tail with e | ⟨b, r'⟩ <;> rfl
    · simp only [hh, if_false, Bool.false_eq_true]
theorem mTypF_nu : ∀ (f : Nat) (l : List Tok), mTypF f (nu l) = mapR (mTypF f l)
  | 0, l => by rw [mTypF, mTypF, len_nu]; rfl
  | f + 1, l => by
    rw [mTypF, mTypF, mProd_nu (mTypF_nu f)]
    rcases mProd (mTypF f) l with e | ⟨t, r⟩
    · rfl
    · simp only [mapR, hit_nu, tail_nu, mTypF_nu f]
      by_cases hh : hit 5 [45, 62] r = true
      · simp only [hh, if_true]
        rcases mTypF f r.tail with e | ⟨b, r'⟩ <;> rfl
      · simp only [hh, if_false, Bool.false_eq_true]
theorem mRead_nu (ts : List Tok) (i : Int) : mRead (nu ts) i = mRead ts i := by
  unfold mRead mTyp
  simp only [len_nu, ← List.map_drop, mTypF_nu]
  by_cases h : i < 0 ∨ (ts.length : Int) < i
  · rw [if_pos h, if_pos h]
  · rw [if_neg h, if_neg h]
    rcases mTypF ((List.drop i.toNat ts).length + 1) (List.drop i.toNat ts) with e | ⟨b, r'⟩
    · rfl
    · simp only [mapR, List.length_map]

section
variable (ts : List Tok)
theorem at_nu (i k : Nat) (s : List UInt8) : at? (nu ts) i k s = at? ts i k s := by unfold at?; rw [← List.map_drop, hit_nu]
theorem of_nu (i k : Nat) : of? (nu ts) i k = of? ts i k := by unfold of? nu; rw [List.getElem?_map]; rcases ts[i]? with _ | x <;> rfl
theorem fr_nu (i : Nat) : frE (nu ts) i = 0 := by unfold frE nu; rw [List.getElem?_map]; rcases ts[i]? with _ | x <;> rfl
theorem beh_nu (i : Nat) : behE (nu ts) i = 0 := by unfold behE nu; rw [List.getElem?_map]; rcases ts[i - 1]? with _ | x <;> rfl
theorem str_nu (i : Nat) : strE (nu ts) i = strE ts i := by unfold strE nu; rw [List.getElem?_map]; rcases ts[i]? with _ | x <;> rfl
theorem nbr_nu (i : Nat) : nbrE (nu ts) i = nbrE ts i := by unfold nbrE nu; rw [List.getElem?_map]; rcases ts[i]? with _ | x <;> rfl
theorem beg_nu (i : Nat) : eBegins (nu ts) i = eBegins ts i := by unfold eBegins; simp only [at_nu, of_nu]
theorem qTyp_nu (i : Nat) : qTyp (nu ts) i = qTyp ts i := by unfold qTyp; rw [mRead_nu]
abbrev nP (x : Pa × List (List UInt8)) : Pa × List (List UInt8) := (x.1.nude, x.2)
theorem Pa.fr_nude (p : Pa) : p.nude.fr = 0 := by cases p; rfl
theorem Pa.to_nude (p : Pa) : p.nude.to = 0 := by cases p; rfl
theorem Ex.fr_nude (p : Ex) : p.nude.fr = 0 := by cases p; rfl
theorem Ex.to_nude (p : Ex) : p.nude.to = 0 := by cases p; rfl
theorem qRing_nu {pat pat' : List (List UInt8) → Nat → QR (Pa × List (List UInt8))} (h : ∀ s i, pat' s i = mapQ nP (pat s i)) (seen : List (List UInt8)) (i : Nat) : qRing (nu ts) pat' seen i = mapQ nP (qRing ts pat seen i) := by
  unfold qRing
  simp only [at_nu, fr_nu, beh_nu, h]
  split
  · rfl
  · rcases pat seen (i + 1) with e | ⟨⟨a, sn⟩, j⟩
    · rfl
    · simp only [mapQ]
      split
      · rfl
      · split
        · rcases pat sn (j + 1) with e | ⟨⟨b, sn'⟩, k⟩
          · rfl
          · simp only []
            split <;> rfl
        · rfl
theorem qRound_nu {pat pat' : List (List UInt8) → Nat → QR (Pa × List (List UInt8))} (h : ∀ s i, pat' s i = mapQ nP (pat s i)) (seen : List (List UInt8)) (i : Nat) : qRound (nu ts) pat' seen i = mapQ nP (qRound ts pat seen i) := by
  unfold qRound
  simp only [at_nu, fr_nu, beh_nu, qRing_nu ts h]
  split
  · split <;> rfl
  · rfl
theorem eTwo_nu (k op : Int) (a b : Ex) : eTwo k op a.nude b.nude = (eTwo k op a b).nude := by
  unfold eTwo; rw [Ex.fr_nude, Ex.to_nude]; rfl
theorem eLeaf_nu (k : Int) (i : Nat) (nm : List UInt8) (n : Int) (s : List UInt8) : eLeaf (nu ts) k i nm n s = (eLeaf ts k i nm n s).nude := by
  unfold eLeaf; rw [fr_nu, beh_nu]; rfl
theorem qLeaf_nu (i : Nat) : qLeaf (nu ts) i = mapQ Ex.nude (qLeaf ts i) := by
  unfold qLeaf
  simp only [at_nu, of_nu, str_nu, nbr_nu, eLeaf_nu]
  repeat' split
  all_goals rfl
section
variable {ex ex' : Nat → QR Ex} (h : ∀ i, ex' i = mapQ Ex.nude (ex i))
include h
theorem qParen_nu (i : Nat) : qParen (nu ts) ex' i = mapQ Ex.nude (qParen ts ex i) := by
  unfold qParen
  simp only [at_nu, fr_nu, beh_nu, qTyp_nu, h]
  rcases ex (i + 1) with e | ⟨a, j⟩
  · rfl
  · simp only [mapQ]
    split
    · rfl
    · split
      · rcases ex (j + 1) with e | ⟨b, k⟩
        · rfl
        · simp only []
          split <;> rfl
      · split
        · rcases qTyp ts (j + 1) with e | ⟨b, k⟩
          · rfl
          · simp only []
            split <;> rfl
        · rfl
theorem qRnd_nu (i : Nat) : qRnd (nu ts) ex' i = mapQ Ex.nude (qRnd ts ex i) := by
  unfold qRnd
  simp only [at_nu, fr_nu, beh_nu, qParen_nu ts h]
  split <;> rfl
theorem qAtom_nu (i : Nat) : qAtom (nu ts) ex' i = mapQ Ex.nude (qAtom ts ex i) := by
  unfold qAtom
  simp only [qLeaf_nu, at_nu, fr_nu, beh_nu, qRnd_nu ts h]
  rcases qLeaf ts i with e | p
  · simp only [mapQ]
    split
    · split <;> rfl
    · split <;> rfl
  · rfl
theorem qAppL_nu : ∀ (f : Nat) (a : Ex) (i : Nat), qAppL (nu ts) ex' f a.nude i = mapQ Ex.nude (qAppL ts ex f a i)
  | 0, a, i => rfl
  | f + 1, a, i => by
    rw [qAppL, qAppL]
    simp only [beg_nu, qAtom_nu ts h]
    split
    · rcases qAtom ts ex i with e | ⟨b, j⟩
      · rfl
      · simp only [mapQ, eTwo_nu, qAppL_nu f]
    · rfl
theorem qApp_nu (i : Nat) : qApp (nu ts) ex' i = mapQ Ex.nude (qApp ts ex i) := by
  unfold qApp
  simp only [qAtom_nu ts h, len_nu]
  rcases qAtom ts ex i with e | ⟨b, j⟩
  · rfl
  · exact qAppL_nu ts h _ _ _
theorem qProdL_nu : ∀ (f : Nat) (a : Ex) (i : Nat), qProdL (nu ts) ex' f a.nude i = mapQ Ex.nude (qProdL ts ex f a i)
  | 0, a, i => rfl
  | f + 1, a, i => by
    rw [qProdL, qProdL]
    simp only [at_nu, qApp_nu ts h]
    split
    · rcases qApp ts ex (i + 1) with e | ⟨b, j⟩
      · rfl
      · simp only [mapQ, eTwo_nu, qProdL_nu f]
    · split
      · rcases qApp ts ex (i + 1) with e | ⟨b, j⟩
        · rfl
        · simp only [mapQ, eTwo_nu, qProdL_nu f]
      · rfl
theorem qProd_nu (i : Nat) : qProd (nu ts) ex' i = mapQ Ex.nude (qProd ts ex i) := by
  unfold qProd
  simp only [qApp_nu ts h, len_nu]
  rcases qApp ts ex i with e | ⟨b, j⟩
  · rfl
  · exact qProdL_nu ts h _ _ _
theorem qSumL_nu : ∀ (f : Nat) (a : Ex) (i : Nat), qSumL (nu ts) ex' f a.nude i = mapQ Ex.nude (qSumL ts ex f a i)
  | 0, a, i => rfl
  | f + 1, a, i => by
    rw [qSumL, qSumL]
    simp only [at_nu, qProd_nu ts h]
    split
    · rcases qProd ts ex (i + 1) with e | ⟨b, j⟩
      · rfl
      · simp only [mapQ, eTwo_nu, qSumL_nu f]
    · split
      · rcases qProd ts ex (i + 1) with e | ⟨b, j⟩
        · rfl
        · simp only [mapQ, eTwo_nu, qSumL_nu f]
      · rfl
end
end

end Go.Proofs.YtlagglkpbnbmeaaGreatDoor
