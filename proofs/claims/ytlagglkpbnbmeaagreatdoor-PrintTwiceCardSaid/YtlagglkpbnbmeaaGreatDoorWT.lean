/- Bundle of Tz Cl Wt. -/
import Derived.Test.YtlagglkpbnbmeaaGreatDoorPX
import Derived.Test.YtlagglkpbnbmeaaGreatDoorNQ
import Derived.Test.YtlagglkpbnbmeaaGreatDoorRU
import Derived.Test.YtlagglkpbnbmeaaGreatDoorRD

/- A type that is read is no greater than its tokens. -/
namespace Go.Proofs.YtlagglkpbnbmeaaGreatDoor

theorem mLists_size : ∀ (l : List Tok) (t : Ty), (mLists t l).1.size + (mLists t l).2.length ≤ t.size + l.length
  | [], t => by rw [mLists]; exact Nat.le_refl _
  | x :: r, t => by
    rw [mLists]
    split
    · have := mLists_size r (.one 8 t)
      simp only [Ty.size, Ty.sizes, List.length_cons] at this ⊢
      omega
    · exact Nat.le_refl _
def SzOK (l : List Tok) (x : PR Ty) : Prop := match x with
  | .error _ => True
  | .ok (t, r) => t.size + r.length ≤ l.length
theorem mAtom_sz {typ : List Tok → PR Ty} (ht : ∀ l, SzOK l (typ l)) (l : List Tok) : SzOK l (mAtom typ l) := by
  unfold mAtom
  have leaf : ∀ {k : Nat} {s : List UInt8} {j : Int}, hit k s l = true → SzOK l (.ok (.leaf j, l.tail)) := fun h => by
    have := hit_len h
    show (1 + 0) + _ ≤ _
    omega
  by_cases h1 : hit 2 tkInt l = true
  · rw [if_pos h1]; exact leaf h1
  rw [if_neg h1]
  by_cases h2 : hit 2 tkBool l = true
  · rw [if_pos h2]; exact leaf h2
  rw [if_neg h2]
  by_cases h3 : hit 2 tkString l = true
  · rw [if_pos h3]; exact leaf h3
  rw [if_neg h3]
  by_cases h4 : hit 2 tkUnit l = true
  · rw [if_pos h4]; exact leaf h4
  rw [if_neg h4]
  by_cases h5 : hit 5 [63] l = true
  · rw [if_pos h5]; exact leaf h5
  rw [if_neg h5]
  by_cases h6 : hit 5 [40] l = true
  · rw [if_pos h6]
    have h := ht l.tail
    have hl := hit_len h6
    cases hx : typ l.tail with
    | error e => trivial
    | ok p =>
      rw [hx] at h
      obtain ⟨t, r⟩ := p
      show SzOK l (if hit 5 [41] r = true then .ok (t, r.tail) else .error r.length)
      by_cases h7 : hit 5 [41] r = true
      · rw [if_pos h7]
        have := hit_len h7
        have h' : t.size + r.length ≤ l.tail.length := h
        show t.size + r.tail.length ≤ l.length
        omega
      · rw [if_neg h7]; trivial
  · rw [if_neg h6]; trivial
theorem mPost_sz {typ : List Tok → PR Ty} (ht : ∀ l, SzOK l (typ l)) (l : List Tok) : SzOK l (mPost typ l) := by
  unfold mPost
  have h := mAtom_sz ht l
  cases hx : mAtom typ l with
  | error e => trivial
  | ok p =>
    rw [hx] at h
    obtain ⟨t, r⟩ := p
    have hs := mLists_size r t
    have h' : t.size + r.length ≤ l.length := h
    show (mLists t r).1.size + (mLists t r).2.length ≤ l.length
    omega
theorem two_sz {a b : Ty} {k : Int} {l r r' : List Tok} {q : Nat} {s : List UInt8} (h1 : a.size + r.length ≤ l.length) (hh : hit q s r = true) (h2 : b.size + r'.length ≤ r.tail.length) : (Ty.two k a b).size + r'.length ≤ l.length := by
  have := hit_len hh
  simp only [Ty.size, Ty.sizes]
  omega
theorem mProd_sz {typ : List Tok → PR Ty} (ht : ∀ l, SzOK l (typ l)) (l : List Tok) : SzOK l (mProd typ l) := by
  unfold mProd
  have h := mPost_sz ht l
  cases hx : mPost typ l with
  | error e => trivial
  | ok p =>
    rw [hx] at h
    obtain ⟨a, r⟩ := p
    show SzOK l (if hit 5 [42] r = true then match mPost typ r.tail with
      | .error e => .error e
      | .ok (b, r') => .ok (.two 7 a b, r') else .ok (a, r))
    by_cases h2 : hit 5 [42] r = true
    · rw [if_pos h2]
      have h3 := mPost_sz ht r.tail
      cases hy : mPost typ r.tail with
      | error e => trivial
      | ok q => rw [hy] at h3; exact two_sz h h2 h3
    · rw [if_neg h2]; exact h
theorem mTypF_sz : ∀ (f : Nat) (l : List Tok), SzOK l (mTypF f l)
  | 0, _ => trivial
  | f + 1, l => by
    rw [mTypF]
    have h := mProd_sz (mTypF_sz f) l
    cases hx : mProd (mTypF f) l with
    | error e => trivial
    | ok p =>
      rw [hx] at h
      obtain ⟨a, r⟩ := p
      show SzOK l (if hit 5 [45, 62] r = true then match mTypF f r.tail with
        | .error e => .error e
        | .ok (b, r') => .ok (.two 9 a b, r') else .ok (a, r))
      by_cases h2 : hit 5 [45, 62] r = true
      · rw [if_pos h2]
        have h3 := mTypF_sz f r.tail
        cases hy : mTypF f r.tail with
        | error e => trivial
        | ok q => rw [hy] at h3; exact two_sz h h2 h3
      · rw [if_neg h2]; exact h
theorem mRead_size (ts : List Tok) (i : Int) : (mRead ts i).1.size ≤ ts.length + 1 := by
  have one : ∀ k, (Ty.leaf k).size = 1 := fun k => rfl
  rw [mRead]
  split
  · show (Ty.leaf 0).size ≤ _
    rw [one]; omega
  · have h := mTypF_sz ((ts.drop i.toNat).length + 1) (ts.drop i.toNat)
    unfold mTyp
    cases hx : mTypF ((ts.drop i.toNat).length + 1) (ts.drop i.toNat) with
    | error e =>
      show (Ty.leaf 0).size ≤ _
      rw [one]; omega
    | ok p =>
      rw [hx] at h
      obtain ⟨t, r⟩ := p
      have h' : t.size + r.length ≤ (ts.drop i.toNat).length := h
      rw [List.length_drop] at h'
      show t.size ≤ _
      omega

end Go.Proofs.YtlagglkpbnbmeaaGreatDoor

/- The plain law of what is read: types are closed, tokens are what they should be. No program in sight. -/
namespace Go.Proofs.YtlagglkpbnbmeaaGreatDoor
set_option linter.unusedVariables false
set_option linter.unusedSimpArgs false
set_option linter.unusedSectionVars false
set_option maxRecDepth 100000

def CL (t : Ty) : Prop := mRight t = true ∧ mWithout 6 t = true ∧ 0 < t.kind
theorem cl_leaf {k : Int} (h : k = 1 ∨ k = 2 ∨ k = 3 ∨ k = 4 ∨ k = 5) : CL (.leaf k) := by
  rcases h with rfl | rfl | rfl | rfl | rfl <;> exact ⟨by decide, by decide, by decide⟩
theorem cl_one {a : Ty} (h : CL a) : CL (.one 8 a) := by
  refine ⟨?_, ?_, by show (0 : Int) < 8; decide⟩
  · rw [mRight, mRights, mRights, h.1]; rfl
  · rw [mWithout, mWithouts, mWithouts, h.2.1]; rfl
theorem cl_two {a b : Ty} {k : Int} (hk : k = 7 ∨ k = 9) (h : CL a) (h2 : CL b) : CL (.two k a b) := by
  refine ⟨?_, ?_, by show 0 < k; omega⟩
  · rw [mRight, mRights, mRights, mRights, h.1, h2.1]
    rcases hk with rfl | rfl <;> rfl
  · rw [mWithout, mWithouts, mWithouts, mWithouts, h.2.1, h2.2.1]
    rcases hk with rfl | rfl <;> rfl
def PCl (x : PR Ty) : Prop := match x with
  | .error _ => True
  | .ok (t, _) => CL t
theorem mLists_cl : ∀ (l : List Tok) (t : Ty), CL t → CL (mLists t l).1
  | [], t, h => by rw [mLists]; exact h
  | x :: r, t, h => by
    rw [mLists]
    split
    · exact mLists_cl r _ (cl_one h)
    · exact h
theorem mAtom_cl {ty : List Tok → PR Ty} (ht : ∀ l, PCl (ty l)) (l : List Tok) : PCl (mAtom ty l) := by
  unfold mAtom
  split
  · exact cl_leaf (.inl rfl)
  split
  · exact cl_leaf (.inr (.inl rfl))
  split
  · exact cl_leaf (.inr (.inr (.inl rfl)))
  split
  · exact cl_leaf (.inr (.inr (.inr (.inl rfl))))
  split
  · exact cl_leaf (.inr (.inr (.inr (.inr rfl))))
  split
  · have h := ht l.tail
    cases hx : ty l.tail with
    | error e => trivial
    | ok p =>
      rw [hx] at h
      obtain ⟨t, r⟩ := p
      show PCl (if hit 5 [41] r = true then .ok (t, r.tail) else .error r.length)
      split
      · exact h
      · trivial
  · trivial
theorem mPost_cl {ty : List Tok → PR Ty} (ht : ∀ l, PCl (ty l)) (l : List Tok) : PCl (mPost ty l) := by
  have h := mAtom_cl ht l
  unfold mPost
  cases hx : mAtom ty l with
  | error e => trivial
  | ok p =>
    rw [hx] at h
    obtain ⟨t, r⟩ := p
    exact mLists_cl r t h
theorem mProd_cl {ty : List Tok → PR Ty} (ht : ∀ l, PCl (ty l)) (l : List Tok) : PCl (mProd ty l) := by
  have h := mPost_cl ht l
  unfold mProd
  cases hx : mPost ty l with
  | error e => trivial
  | ok p =>
    rw [hx] at h
    obtain ⟨a, r⟩ := p
    show PCl (if hit 5 [42] r = true then match mPost ty r.tail with
      | .error e => .error e
      | .ok (b, r') => .ok (.two 7 a b, r') else .ok (a, r))
    split
    · have h2 := mPost_cl ht r.tail
      cases hy : mPost ty r.tail with
      | error e => trivial
      | ok q => rw [hy] at h2; exact cl_two (.inl rfl) h h2
    · exact h
theorem mTypF_cl : ∀ (f : Nat) (l : List Tok), PCl (mTypF f l)
  | 0, _ => trivial
  | f + 1, l => by
    have h := mProd_cl (mTypF_cl f) l
    rw [mTypF]
    cases hx : mProd (mTypF f) l with
    | error e => trivial
    | ok p =>
      rw [hx] at h
      obtain ⟨a, r⟩ := p
      show PCl (if hit 5 [45, 62] r = true then match mTypF f r.tail with
        | .error e => .error e
        | .ok (b, r') => .ok (.two 9 a b, r') else .ok (a, r))
      split
      · have h2 := mTypF_cl f r.tail
        cases hy : mTypF f r.tail with
        | error e => trivial
        | ok q => rw [hy] at h2; exact cl_two (.inr rfl) h h2
      · exact h
theorem mTok_kind {l : List UInt8} {t : BTok} {n : Nat} (h : mTok l = some (t, n)) : (t.k = 1 → mName t.s = true) ∧ (t.k = 4 → t.s.length ≤ 200) := by
  cases l with
  | nil => simp [mTok] at h
  | cons c r =>
    rw [mTok] at h
    split at h
    · unfold mWord at h
      split at h
      · cases h; exact ⟨fun e => (by cases e), fun e => (by cases e)⟩
      · split at h
        · rename_i hn; cases h; exact ⟨fun _ => hn, fun e => (by cases e)⟩
        · cases h
    · split at h
      · unfold mNumber at h
        split at h
        · cases h; exact ⟨fun e => (by cases e), fun e => (by cases e)⟩
        · cases h
      · split at h
        · unfold mText at h
          split at h
          · split at h
            · rename_i t' ht
              cases h
              refine ⟨fun e => (by cases e), fun _ => ?_⟩
              unfold mUnquote at ht
              split at ht
              · split at ht
                · split at ht
                  · rename_i hle; cases ht; exact hle
                  · cases ht
                · cases ht
              · cases ht
            · cases h
          · cases h
        · unfold mSign at h
          split at h
          · cases h
          · cases h; exact ⟨fun e => (by cases e), fun e => (by cases e)⟩
theorem scans_tok {off : Nat} {l : List UInt8} {ts : List Tok} {e : Option Nat} (h : Scans off l ts e) :
    (∀ x : Tok, x ∈ ts → (x.k = 1 → mName x.s = true) ∧ (x.k = 4 → x.s.length ≤ 200)) ∧ ∀ (i j : Nat) (x y : Tok), i < j → ts[i]? = some x → ts[j]? = some y → x.b ≤ y.a := by
  induction h with
  | done => exact ⟨fun _ h => by simp at h, fun i j x y _ h => by simp at h⟩
  | bad => exact ⟨fun _ h => by simp at h, fun i j x y _ h => by simp at h⟩
  | step off l t n ts e hm hs ih =>
    refine ⟨fun x hx => ?_, fun i j x y hij hx hy => ?_⟩
    · rcases List.mem_cons.1 hx with rfl | hx
      · exact mTok_kind hm
      · exact ih.1 x hx
    · cases i with
      | zero =>
        obtain ⟨j', rfl⟩ : ∃ j', j = j' + 1 := ⟨j - 1, by omega⟩
        simp at hx hy
        have := ((scans_at hs).1 y (List.mem_of_getElem? hy)).1
        rw [← hx]
        exact this
      | succ i =>
        obtain ⟨j', rfl⟩ : ∃ j', j = j' + 1 := ⟨j - 1, by omega⟩
        exact ih.2 i j' x y (by omega) (by simpa using hx) (by simpa using hy)

end Go.Proofs.YtlagglkpbnbmeaaGreatDoor

/- The plain law of what is read: right by its form, and its text is not longer than the tokens allow. No program in sight. -/
namespace Go.Proofs.YtlagglkpbnbmeaaGreatDoor
set_option linter.unusedVariables false
set_option linter.unusedSimpArgs false
set_option linter.unusedSectionVars false
set_option maxRecDepth 100000

structure TkG (ts : List Tok) : Prop where
  own : ∀ (i : Nat) (x : Tok), ts[i]? = some x → (x.k = 1 → mName x.s = true) ∧ (x.k = 4 → x.s.length ≤ 200) ∧ (x.k = 3 → I64 x.n)
theorem mTok_numW {l : List UInt8} {t : BTok} {n : Nat} (h : mTok l = some (t, n)) : t.k = 3 → I64 t.n := by
  intro hk
  cases l with
  | nil => simp [mTok] at h
  | cons c r =>
    rw [mTok] at h
    split at h
    · unfold mWord at h
      split at h
      · cases h; cases hk
      · split at h
        · cases h; cases hk
        · cases h
    · split at h
      · unfold mNumber at h
        split at h
        · rename_i n hp
          cases h
          unfold mParseNum at hp
          split at hp
          · unfold numRange at hp
            split at hp
            · split at hp
              · cases hp; exact ⟨by dsimp only; omega, by dsimp only; omega⟩
              · cases hp
            · split at hp
              · cases hp; exact ⟨by dsimp only; omega, by dsimp only; omega⟩
              · cases hp
          · cases hp
        · cases h
      · split at h
        · unfold mText at h
          split at h
          · split at h
            · cases h; cases hk
            · cases h
          · cases h
        · unfold mSign at h
          split at h
          · cases h
          · cases h; cases hk
theorem scans_num {off : Nat} {l : List UInt8} {ts : List Tok} {e : Option Nat} (h : Scans off l ts e) : ∀ x : Tok, x ∈ ts → x.k = 3 → I64 x.n := by
  induction h with
  | done => exact fun _ h => by simp at h
  | bad => exact fun _ h => by simp at h
  | step off l t n ts e hm hs ih =>
    intro x hx
    rcases List.mem_cons.1 hx with rfl | hx
    · exact mTok_numW hm
    · exact ih x hx
theorem tkG_of {bs : List UInt8} {ts : List Tok} (hl : bs.length ≤ 16384) (h : mScan bs = .ok ts) : TkG ts ∧ ts.length ≤ bs.length := by
  rw [mScan_small hl] at h
  have hs := scans_of_ok h
  refine ⟨⟨fun i x hx => ?_⟩, scans_len hs⟩
  have h1 := (scans_tok hs).1 x (List.mem_of_getElem? hx)
  exact ⟨h1.1, h1.2, scans_num hs x (List.mem_of_getElem? hx)⟩
section
variable {ts : List Tok} (ht : TkG ts)
include ht
theorem w_name {i : Nat} (h : of? ts i 1 = true) : mName (strE ts i) = true := by
  unfold of? at h
  unfold strE
  cases hx : ts[i]? with
  | none => rw [hx] at h; cases h
  | some x => rw [hx] at h; exact (ht.own i x hx).1 (by simpa using h)
theorem w_text {i : Nat} (h : of? ts i 4 = true) : (strE ts i).length ≤ 200 := by
  unfold of? at h
  unfold strE
  cases hx : ts[i]? with
  | none => rw [hx] at h; cases h
  | some x => rw [hx] at h; exact (ht.own i x hx).2.1 (by simpa using h)
theorem w_num {i : Nat} (h : of? ts i 3 = true) : I64 (nbrE ts i) := by
  unfold of? at h
  unfold nbrE
  cases hx : ts[i]? with
  | none => rw [hx] at h; cases h
  | some x => rw [hx] at h; exact (ht.own i x hx).2.2 (by simpa using h)
end

def WP (ts : List Tok) (i j : Nat) (s0 s1 : List (List UInt8)) (p : Pa) : Prop :=
  i < j ∧ j ≤ ts.length ∧ RPa p ∧ PaK 100000 p ∧ (xPat p).length + 10 ≤ 500000 * (j - i) ∧ rnP s0 p = (true, s1)
def WE (ts : List Tok) (i j : Nat) (e : Ex) : Prop := i < j ∧ j ≤ ts.length ∧ REx e ∧ ExK 100000 e ∧ (xEx e).length + 10 ≤ 500000 * (j - i)
def WA (t : Ty) : Prop := Ann t ∧ t.size ≤ 16385
theorem wa_no : WA noTy := ⟨.inl rfl, by decide⟩
theorem wa_k {t : Ty} (h : WA t) : t.size ≤ 100000 := by have := h.2; omega
theorem wlen_sort {A : Ty} (h : WA A) : (sortT A).length ≤ 115000 := by
  obtain ⟨h, hs⟩ := h
  rcases h with rfl | h
  · simp [sortT, noTy, Ty.kind]
  · have := mTxt_len7 h
    rw [sortT, if_neg (closed_kind h)]
    simp only [List.length_append, List.length_cons, List.length_nil]
    omega
theorem wlen_param {A : Ty} (s : List UInt8) (h : WA A) : (paramT s A).length ≤ s.length + 115000 := by
  obtain ⟨h, hs⟩ := h
  rcases h with rfl | h
  · rw [show paramT s noTy = s from rfl]; omega
  · have := mTxt_len7 h
    rw [paramT, if_neg (closed_kind h)]
    simp only [List.length_append, List.length_cons, List.length_nil]
    omega
section
variable {ts : List Tok} {i j k l m i0 : Nat} {a b c : Ex}
theorem WE.wide (h : WE ts i j a) (h1 : i0 ≤ i) (h2 : j ≤ m) (h3 : m ≤ ts.length) : WE ts i0 m a := by
  obtain ⟨a1, a2, a3, a4, a5⟩ := h
  exact ⟨by omega, h3, a3, a4, by omega⟩
theorem WP.wide {s0 s1 : List (List UInt8)} {p : Pa} (h : WP ts i j s0 s1 p) (h1 : i0 ≤ i) (h2 : j ≤ m) (h3 : m ≤ ts.length) : WP ts i0 m s0 s1 p := by
  obtain ⟨a1, a2, a3, a4, a5, a6⟩ := h
  exact ⟨by omega, h3, a3, a4, by omega, a6⟩
theorem k0 {k' fr tq m' op : Int} {nm arg s : List UInt8} (h1 : nm.length ≤ 200) (h3 : s.length ≤ 200) : ExK 100000 (.mk k' fr tq nm [] m' s op noTy noTy [] []) :=
  .mk (by omega) (by simp) (by omega) (by decide) (by decide) (by simp) (by simp) (fun _ h => by simp at h) (fun _ h => by simp at h)
theorem k1 {k' fr tq m' op : Int} {nm : List UInt8} {A : Ty} (h1 : nm.length ≤ 200) (hA : A.size ≤ 100000) (ha : ExK 100000 a) : ExK 100000 (.mk k' fr tq nm [] m' [] op A noTy [] [a]) :=
  .mk (by omega) (by simp) (by simp) hA (by decide) (by simp) (by simp) (fun _ h => by simp at h) (fun x h => by simp at h; rw [h]; exact ha)
theorem k2' {k' fr tq m' op : Int} {nm arg : List UInt8} {A B : Ty} (h1 : nm.length ≤ 200) (h2 : arg.length ≤ 200) (hA : A.size ≤ 100000) (hB : B.size ≤ 100000) (ha : ExK 100000 a) (hb : ExK 100000 b) : ExK 100000 (.mk k' fr tq nm arg m' [] op A B [] [a, b]) :=
  .mk (by omega) (by omega) (by simp) hA hB (by simp) (by simp) (fun _ h => by simp at h) (fun x h => by simp at h; rcases h with rfl | rfl <;> assumption)
theorem w_two {kd op : Int} (ha : WE ts i j a) (hb : WE ts m k b) (hj : j ≤ m) (h : ((kd = 8 ∨ kd = 10) ∧ op = 0) ∨ (kd = 16 ∧ 1 ≤ op ∧ op ≤ 7)) : WE ts i k (eTwo kd op a b) := by
  obtain ⟨a1, a2, a3, a4, a5⟩ := ha
  obtain ⟨b1, b2, b3, b4, b5⟩ := hb
  have q1 := len_q a.kind (xEx a)
  have q2 := len_q b.kind (xEx b)
  have q3 := len_sign op
  have hk : ExK 100000 (eTwo kd op a b) := k2' (by simp) (by simp) (by decide) (by decide) a4 b4
  rcases h with ⟨rfl | rfl, rfl⟩ | ⟨rfl, h1, h2⟩
  · refine ⟨by omega, b2, .cons _ _ _ _ a3 b3, hk, ?_⟩
    rw [eTwo, xEx_8]; simp only [List.length_append, List.length_cons, List.length_nil]; omega
  · refine ⟨by omega, b2, .app _ _ _ _ a3 b3, hk, ?_⟩
    rw [eTwo, xEx_10]; simp only [List.length_append, List.length_cons, List.length_nil]; omega
  · refine ⟨by omega, b2, .op _ _ _ _ _ h1 h2 a3 b3, hk, ?_⟩
    rw [eTwo, xEx_16]; simp only [List.length_append, List.length_cons, List.length_nil]; omega
theorem w_pair {fr tq : Int} (ha : WE ts (i + 1) j a) (hb : WE ts (j + 1) k b) (hk : k < ts.length) : WE ts i (k + 1) (.mk 6 fr tq [] [] 0 [] 0 noTy noTy [] [a, b]) := by
  obtain ⟨a1, a2, a3, a4, a5⟩ := ha
  obtain ⟨b1, b2, b3, b4, b5⟩ := hb
  refine ⟨by omega, by omega, .pair _ _ _ _ a3 b3, k2' (by simp) (by simp) (by decide) (by decide) a4 b4, ?_⟩
  rw [xEx_6]; simp only [List.length_append, List.length_cons, List.length_nil]; omega
theorem w_asc {fr tq : Int} {t : Ty} (ha : WE ts (i + 1) j a) (hjk : j < k) (hc : ClosedTy t) (hA : WA t) (hk : k < ts.length) : WE ts i (k + 1) (.mk 15 fr tq [] [] 0 [] 0 t noTy [] [a]) := by
  obtain ⟨a1, a2, a3, a4, a5⟩ := ha
  have := wlen_sort hA
  refine ⟨by omega, by omega, .asc _ _ _ _ hc a3, k1 (by simp) (wa_k hA) a4, ?_⟩
  rw [xEx_15]; simp only [List.length_append, List.length_cons, List.length_nil]; omega
theorem w_let {fr tq : Int} {s : List UInt8} {t : Ty} (ha : WE ts i j a) (hb : WE ts k m b) (hi : i0 < i) (hjk : j ≤ k) (hs : mName s = true) (hA : WA t) : WE ts i0 m (.mk 11 fr tq s [] 0 [] 0 t noTy [] [a, b]) := by
  obtain ⟨a1, a2, a3, a4, a5⟩ := ha
  obtain ⟨b1, b2, b3, b4, b5⟩ := hb
  have q1 := wlen_sort hA
  have q2 := len_name hs
  refine ⟨by omega, b2, .letE _ _ _ _ _ _ hs hA.1 a3 b3, k2' (by omega) (by simp) (wa_k hA) (by decide) a4 b4, ?_⟩
  rw [xEx_11]; simp only [List.length_append, List.length_cons, List.length_nil]; omega
theorem w_rec {fr tq : Int} {s g : List UInt8} {t u : Ty} (ha : WE ts i j a) (hb : WE ts k m b) (hi : i0 < i) (hjk : j ≤ k) (hs : mName s = true) (hg : mName g = true) (hA : WA t) (hB : WA u) : WE ts i0 m (.mk 12 fr tq s g 0 [] 0 t u [] [a, b]) := by
  obtain ⟨a1, a2, a3, a4, a5⟩ := ha
  obtain ⟨b1, b2, b3, b4, b5⟩ := hb
  have q1 := wlen_param g hA
  have q3 := wlen_sort hB
  have q2 := len_name hs
  have q4 := len_name hg
  refine ⟨by omega, b2, .recE _ _ _ _ _ _ _ _ hs hg hA.1 hB.1 a3 b3, k2' (by omega) (by omega) (wa_k hA) (wa_k hB) a4 b4, ?_⟩
  rw [xEx_12]; simp only [List.length_append, List.length_cons, List.length_nil]; omega
theorem w_fun {fr tq : Int} {s : List UInt8} {t : Ty} (hb : WE ts i m b) (hi : i0 < i) (hs : mName s = true) (hA : WA t) : WE ts i0 m (.mk 9 fr tq s [] 0 [] 0 t noTy [] [b]) := by
  obtain ⟨b1, b2, b3, b4, b5⟩ := hb
  have q1 := wlen_param s hA
  have q2 := len_name hs
  refine ⟨by omega, b2, .func _ _ _ _ _ hs hA.1 b3, k1 (by omega) (wa_k hA) b4, ?_⟩
  rw [xEx_9]; simp only [List.length_append, List.length_cons, List.length_nil]; omega
theorem w_if {fr tq : Int} {o : Nat} (ha : WE ts i j a) (hb : WE ts k l b) (hc : WE ts m o c) (hi : i0 ≤ i) (hjk : j ≤ k) (hlm : l ≤ m) : WE ts i0 o (.mk 13 fr tq [] [] 0 [] 0 noTy noTy [] [a, b, c]) := by
  obtain ⟨a1, a2, a3, a4, a5⟩ := ha
  obtain ⟨b1, b2, b3, b4, b5⟩ := hb
  obtain ⟨c1, c2, c3, c4, c5⟩ := hc
  refine ⟨by omega, c2, .ifE _ _ _ _ _ a3 b3 c3, .mk (by simp) (by simp) (by simp) (by decide) (by decide) (by simp) (by simp) (fun _ h => by simp at h) (fun x h => by simp at h; rcases h with rfl | rfl | rfl <;> assumption), ?_⟩
  rw [xEx_13]; simp only [List.length_append, List.length_cons, List.length_nil]; omega
theorem pk2 {k' fr tq : Int} {p q : Pa} (hp : PaK 100000 p) (hq : PaK 100000 q) : PaK 100000 (.mk k' fr tq [] 0 [] [p, q]) :=
  .mk (by simp) (by simp) (by simp) (fun x h => by simp at h; rcases h with rfl | rfl <;> assumption)
theorem pk0 {k' fr tq m' : Int} {nm s : List UInt8} (h1 : nm.length ≤ 200) (h3 : s.length ≤ 200) : PaK 100000 (.mk k' fr tq nm m' s []) :=
  .mk (by omega) (by omega) (by simp) (fun _ h => by simp at h)
theorem rn_leaf {k' fr tq m' : Int} {nm s : List UInt8} {sn : List (List UInt8)} (hk : k' ≠ 2) (h : okPa (.mk k' fr tq nm m' s []) = true) : rnP sn (.mk k' fr tq nm m' s []) = (true, sn) := by
  have e1 : (Pa.mk k' fr tq nm m' s []).kind = k' := rfl
  have e2 : contP sn (.mk k' fr tq nm m' s []) = true := by unfold contP; rw [h, e1, decide_eq_false hk]; rfl
  have h2 := run_leaf (a := fr) (b := tq) (nm := nm) (n := m') (s := s) (seen := sn) hk
  have h1 : (rnP sn (.mk k' fr tq nm m' s [])).1 = true := by
    unfold rnP
    rw [Pa.list, pasList, runL, e2]; rfl
  exact Prod.ext h1 h2
theorem rn_two {k' fr tq : Int} {x y : Pa} {s0 s1 s2 : List (List UInt8)} (hk : k' = 7 ∨ k' = 9) (hx : rnP s0 x = (true, s1)) (hy : rnP s1 y = (true, s2)) : rnP s0 (.mk k' fr tq [] 0 [] [x, y]) = (true, s2) := by
  have e1 : (Pa.mk k' fr tq [] 0 [] [x, y]).kind = k' := rfl
  have h2 : k' ≠ 2 := by omega
  have h : okPa (.mk k' fr tq [] 0 [] [x, y]) = true := by rcases hk with rfl | rfl <;> simp [okPa, paSh, Pa.kind, Pa.nm, Pa.n, Pa.s, Pa.kids]
  have e2 : contP s0 (.mk k' fr tq [] 0 [] [x, y]) = true := by unfold contP; rw [h, e1, decide_eq_false h2]; rfl
  have e3 : stepP s0 (.mk k' fr tq [] 0 [] [x, y]) = s0 := by
    unfold stepP
    rw [if_neg (by rw [e1]; simp [h2])]
  unfold rnP at hx hy ⊢
  rw [Pa.list, pasList, pasList, pasList, List.append_nil, runL, e2]
  simp only [e3]
  rw [runL_append, hx]
  exact hy
theorem rn_name {fr tq : Int} {nm : List UInt8} {sn : List (List UInt8)} (hn : mName nm = true) (h : sn.contains nm = false) : rnP sn (.mk 2 fr tq nm 0 [] []) = (true, sn ++ [nm]) := by
  have e1 : (Pa.mk 2 fr tq nm 0 [] []).kind = 2 := rfl
  have e2 : (Pa.mk 2 fr tq nm 0 [] []).nm = nm := rfl
  have e3 : okPa (.mk 2 fr tq nm 0 [] []) = true := by simp [okPa, paSh, Pa.kind, Pa.nm, Pa.n, Pa.s, Pa.kids, hn]
  have e4 : contP sn (.mk 2 fr tq nm 0 [] []) = true := by unfold contP; rw [e3, e1, e2, h]; rfl
  unfold rnP
  rw [Pa.list, pasList, runL, e4]
  simp only [runL]
  unfold stepP
  rw [e4, e1, e2]; rfl
theorem wp_leaf {k' fr tq m' : Int} {nm s : List UInt8} {sn : List (List UInt8)} (hij : i < j) (hj : j ≤ ts.length) (hk : k' ≠ 2) (h1 : nm.length ≤ 200) (h3 : s.length ≤ 200) (hr : RPa (.mk k' fr tq nm m' s [])) (ho : okPa (.mk k' fr tq nm m' s []) = true) : WP ts i j sn sn (.mk k' fr tq nm m' s []) := by
  have := len_pat hr
  rw [len_list0] at this
  exact ⟨hij, hj, hr, pk0 h1 h3, by omega, rn_leaf hk ho⟩
theorem wp_name {fr tq : Int} {nm : List UInt8} {sn : List (List UInt8)} (hij : i < ts.length) (h : mName nm = true) (hc : sn.contains nm = false) : WP ts i (i + 1) sn (sn ++ [nm]) (.mk 2 fr tq nm 0 [] []) := by
  have h2 := len_name h
  exact ⟨by omega, by omega, .name _ _ _ h, pk0 (by omega) (by simp), by rw [xPat_2]; omega, rn_name h hc⟩
theorem wp_pair {fr tq : Int} {p q : Pa} {s0 s1 s2 : List (List UInt8)} (hp : WP ts (i + 1) j s0 s1 p) (hq : WP ts (j + 1) k s1 s2 q) (hk : k < ts.length) : WP ts i (k + 1) s0 s2 (.mk 7 fr tq [] 0 [] [p, q]) := by
  obtain ⟨a1, a2, a3, a4, a5, a6⟩ := hp
  obtain ⟨b1, b2, b3, b4, b5, b6⟩ := hq
  refine ⟨by omega, by omega, .pair _ _ _ _ a3 b3, pk2 a4 b4, ?_, rn_two (.inl rfl) a6 b6⟩
  rw [xPat_7]; simp only [List.length_append, List.length_cons, List.length_nil]; omega
theorem wp_cons {fr tq : Int} {p q : Pa} {s0 s1 s2 : List (List UInt8)} (hp : WP ts i j s0 s1 p) (hq : WP ts (j + 1) k s1 s2 q) : WP ts i k s0 s2 (.mk 9 fr tq [] 0 [] [p, q]) := by
  obtain ⟨a1, a2, a3, a4, a5, a6⟩ := hp
  obtain ⟨b1, b2, b3, b4, b5, b6⟩ := hq
  have q1 := len_kid p.kind (xPat p)
  have q2 := len_kid q.kind (xPat q)
  refine ⟨by omega, by omega, .cons _ _ _ _ a3 b3, pk2 a4 b4, ?_, rn_two (.inr rfl) a6 b6⟩
  rw [xPat_9]; simp only [List.length_append, List.length_cons, List.length_nil]; omega
end

def QW {α : Type} (P : α → Nat → Prop) : QR α → Prop
  | .error _ => True
  | .ok (a, j) => P a j
theorem qwOk {α : Type} {P : α → Nat → Prop} {x : QR α} {a : α} {j : Nat} (k : QW P x) (h : x = .ok (a, j)) : P a j := by subst h; exact k
section
variable {ts : List Tok} (ht : TkG ts) (hs : ts.length ≤ 16384)
include ht hs
theorem qTyp_w (i : Nat) (hi : i ≤ ts.length) : QW (fun t j => ClosedTy t ∧ WA t ∧ i < j ∧ j ≤ ts.length) (qTyp ts i) := by
  have hok := qTyp_ok ts i hi
  have hsz := mRead_size ts i
  have hcl := mTypF_cl ((ts.drop i).length + 1) (ts.drop i)
  rcases h : qTyp ts i with e | ⟨t, j⟩
  · trivial
  · rw [h] at hok
    unfold qTyp at h
    split at h
    · rename_i h0
      cases h
      have hc : ClosedTy (mRead ts i).1 := by
        unfold mRead at h0 ⊢
        rw [if_neg (by omega)] at h0 ⊢
        rw [Int.toNat_natCast, mTyp] at h0 ⊢
        rcases hx : mTypF ((ts.drop i).length + 1) (ts.drop i) with k | ⟨t, r⟩
        · rw [hx] at h0; simp at h0
        · rw [hx] at hcl; exact closed_right hcl.1 hcl.2.1
      exact ⟨hc, ⟨.inr hc, by omega⟩, hok.1, hok.2⟩
    · cases h
theorem qName_w (i : Nat) : QW (fun s j => mName s = true ∧ j = i + 1 ∧ i < ts.length) (qName ts i) := by
  unfold qName
  rcases h : of? ts i 1 with _ | _
  · trivial
  · exact ⟨w_name ht h, rfl, ofl h⟩
theorem qMaybe_w (i : Nat) (hi : i ≤ ts.length) : QW (fun t j => WA t ∧ i ≤ j ∧ j ≤ ts.length) (qMaybe ts i) := by
  unfold qMaybe
  rcases h : at? ts i 5 [58] with _ | _
  · exact ⟨wa_no, Nat.le_refl _, hi⟩
  · have := atl h
    simp only [if_true]
    rcases h2 : qTyp ts (i + 1) with e | ⟨t, j⟩
    · trivial
    · obtain ⟨c1, c2, c3, c4⟩ := qwOk (qTyp_w ht hs (i + 1) (by omega)) h2
      exact ⟨c2, by omega, c4⟩
theorem qParam_w (i : Nat) (hi : i ≤ ts.length) : QW (fun p j => mName p.1 = true ∧ WA p.2 ∧ i < j ∧ j ≤ ts.length) (qParam ts i) := by
  unfold qParam
  rcases q1 : at? ts i 5 [40] with _ | _
  · simp only [Bool.false_eq_true, if_false]
    rcases h1 : qName ts i with e | ⟨s, j⟩
    · trivial
    · obtain ⟨c1, c2, c3⟩ := qwOk (qName_w ht hs i) h1
      try simp only
      exact ⟨c1, wa_no, by omega, by omega⟩
  · simp only [if_true]
    have := atl q1
    rcases h2 : qName ts (i + 1) with e | ⟨s, j⟩
    · trivial
    · obtain ⟨c1, c2, c3⟩ := qwOk (qName_w ht hs (i + 1)) h2
      try simp only
      rcases q2 : at? ts j 5 [58] with _ | _
      · simp only [Bool.false_eq_true, if_false]
        trivial
      · simp only [if_true]
        have := atl q2
        rcases h3 : qTyp ts (j + 1) with e | ⟨t, k⟩
        · trivial
        · obtain ⟨c4, c5, c6, c7⟩ := qwOk (qTyp_w ht hs (j + 1) (by omega)) h3
          try simp only
          rcases q3 : at? ts k 5 [41] with _ | _
          · simp only [Bool.false_eq_true, if_false]
            trivial
          · simp only [if_true]
            have := atl q3
            exact ⟨c1, c5, by omega, by omega⟩
theorem qRing_w {pat : List (List UInt8) → Nat → QR (Pa × List (List UInt8))} (hp : ∀ seen j, QW (fun q k => WP ts j k seen q.2 q.1) (pat seen j)) (seen : List (List UInt8)) (i : Nat) : QW (fun q k => WP ts i k seen q.2 q.1) (qRing ts pat seen i) := by
  unfold qRing
  rcases q1 : at? ts (i + 1) 5 [41] with _ | _
  · simp only [Bool.false_eq_true, if_false]
    rcases h4 : pat seen (i + 1) with e | ⟨⟨a, seen1⟩, j⟩
    · trivial
    · have b1 := qwOk (hp seen (i + 1)) h4
      try simp only
      rcases q2 : at? ts j 5 [41] with _ | _
      · simp only [Bool.false_eq_true, if_false]
        rcases q3 : at? ts j 5 [44] with _ | _
        · simp only [Bool.false_eq_true, if_false]
          trivial
        · simp only [if_true]
          have := atl q3
          rcases h5 : pat seen1 (j + 1) with e | ⟨⟨b, seen2⟩, k⟩
          · trivial
          · have b2 := qwOk (hp seen1 (j + 1)) h5
            try simp only
            rcases q4 : at? ts k 5 [41] with _ | _
            · simp only [Bool.false_eq_true, if_false]
              trivial
            · simp only [if_true]
              have := atl q4
              exact wp_pair b1 b2 (by omega)
      · simp only [if_true]
        have := atl q2
        exact b1.wide (by omega) (by omega) (by omega)
  · simp only [if_true]
    have := atl q1
    exact wp_leaf (by omega) (by omega) (by decide) (by simp) (by simp) (.unit _ _) (by simp [okPa, paSh, Pa.kind, Pa.nm, Pa.n, Pa.s, Pa.kids])
theorem qRound_w {pat : List (List UInt8) → Nat → QR (Pa × List (List UInt8))} (hp : ∀ seen j, QW (fun q k => WP ts j k seen q.2 q.1) (pat seen j)) (seen : List (List UInt8)) (i : Nat) : QW (fun q k => WP ts i k seen q.2 q.1) (qRound ts pat seen i) := by
  unfold qRound
  rcases q1 : at? ts i 5 [91] with _ | _
  · simp only [Bool.false_eq_true, if_false]
    exact qRing_w ht hs hp seen i
  · simp only [if_true]
    have := atl q1
    rcases q2 : at? ts (i + 1) 5 [93] with _ | _
    · simp only [Bool.false_eq_true, if_false]
      trivial
    · simp only [if_true]
      have := atl q2
      exact wp_leaf (by omega) (by omega) (by decide) (by simp) (by simp) (.nil _ _) (by simp [okPa, paSh, Pa.kind, Pa.nm, Pa.n, Pa.s, Pa.kids])
theorem qPop_w {pat : List (List UInt8) → Nat → QR (Pa × List (List UInt8))} (hp : ∀ seen j, QW (fun q k => WP ts j k seen q.2 q.1) (pat seen j)) (seen : List (List UInt8)) (i : Nat) : QW (fun q k => WP ts i k seen q.2 q.1) (qPop ts pat seen i) := by
  unfold qPop
  rcases q1 : at? ts i 5 [95] with _ | _
  · simp only [Bool.false_eq_true, if_false]
    rcases q2 : of? ts i 1 with _ | _
    · simp only [Bool.false_eq_true, if_false]
      rcases q4 : of? ts i 3 with _ | _
      · simp only [Bool.false_eq_true, if_false]
        rcases q5 : of? ts i 4 with _ | _
        · simp only [Bool.false_eq_true, if_false]
          rcases q6 : at? ts i 2 [116, 114, 117, 101] with _ | _
          · simp only [Bool.false_eq_true, if_false]
            rcases q7 : at? ts i 2 [102, 97, 108, 115, 101] with _ | _
            · simp only [Bool.false_eq_true, if_false]
              rcases q8 : (at? ts i 5 [91] || at? ts i 5 [40]) with _ | _
              · simp only [Bool.false_eq_true, if_false]
                trivial
              · simp only [if_true]
                skip
                exact qRound_w ht hs hp seen i
            · simp only [if_true]
              have := atl q7
              exact wp_leaf (by omega) (by omega) (by decide) (by simp) (by simp) (.bool _ _ _ (.inl rfl)) (by simp [okPa, paSh, Pa.kind, Pa.nm, Pa.n, Pa.s, Pa.kids])
          · simp only [if_true]
            have := atl q6
            exact wp_leaf (by omega) (by omega) (by decide) (by simp) (by simp) (.bool _ _ _ (.inr rfl)) (by simp [okPa, paSh, Pa.kind, Pa.nm, Pa.n, Pa.s, Pa.kids])
        · simp only [if_true]
          have := ofl q5
          exact wp_leaf (by omega) (by omega) (by decide) (by simp) (w_text ht q5) (.str _ _ _ (w_text ht q5)) (by simp [okPa, paSh, Pa.kind, Pa.nm, Pa.n, Pa.s, Pa.kids, w_text ht q5])
      · simp only [if_true]
        have := ofl q4
        exact wp_leaf (by omega) (by omega) (by decide) (by simp) (by simp) (.int _ _ _ (w_num ht q4)) (by simp [okPa, paSh, Pa.kind, Pa.nm, Pa.n, Pa.s, Pa.kids])
    · simp only [if_true]
      have := ofl q2
      rcases q3 : seen.contains (strE ts i) with _ | _
      · simp only [Bool.false_eq_true, if_false]
        exact wp_name (by omega) (w_name ht q2) q3
      · simp only [if_true]
        skip
        trivial
  · simp only [if_true]
    have := atl q1
    exact wp_leaf (by omega) (by omega) (by decide) (by simp) (by simp) (.any _ _) (by simp [okPa, paSh, Pa.kind, Pa.nm, Pa.n, Pa.s, Pa.kids])
theorem qPatF_w : ∀ (f : Nat) (seen : List (List UInt8)) (i : Nat), QW (fun q k => WP ts i k seen q.2 q.1) (qPatF ts f seen i)
  | 0, _, _ => trivial
  | f + 1, seen, i => by
    have hp := qPatF_w f
    unfold qPatF
    rcases h6 : qPop ts (qPatF ts f) seen i with e | ⟨⟨a, seen1⟩, j⟩
    · trivial
    · have b1 := qwOk (qPop_w ht hs hp seen i) h6
      try simp only
      rcases q1 : at? ts j 5 [58, 58] with _ | _
      · simp only [Bool.false_eq_true, if_false]
        exact b1
      · simp only [if_true]
        have := atl q1
        rcases h7 : qPatF ts f seen1 (j + 1) with e | ⟨⟨b, seen2⟩, k⟩
        · trivial
        · have b2 := qwOk (hp seen1 (j + 1)) h7
          try simp only
          exact wp_cons b1 b2
theorem qParen_w {ex : Nat → QR Ex} (he : ∀ j, QW (fun e k => WE ts j k e) (ex j)) (i : Nat) : QW (fun e k => WE ts i k e) (qParen ts ex i) := by
  unfold qParen
  rcases h8 : ex (i + 1) with e | ⟨a, j⟩
  · trivial
  · have b1 := qwOk (he (i + 1)) h8
    try simp only
    rcases q1 : at? ts j 5 [41] with _ | _
    · simp only [Bool.false_eq_true, if_false]
      rcases q2 : at? ts j 5 [44] with _ | _
      · simp only [Bool.false_eq_true, if_false]
        rcases q4 : at? ts j 5 [58] with _ | _
        · simp only [Bool.false_eq_true, if_false]
          trivial
        · simp only [if_true]
          have := atl q4
          rcases h9 : qTyp ts (j + 1) with e | ⟨t, k⟩
          · trivial
          · obtain ⟨c1, c2, c3, c4⟩ := qwOk (qTyp_w ht hs (j + 1) (by omega)) h9
            try simp only
            rcases q5 : at? ts k 5 [41] with _ | _
            · simp only [Bool.false_eq_true, if_false]
              trivial
            · simp only [if_true]
              have := atl q5
              exact w_asc b1 (by omega) c1 c2 (by omega)
      · simp only [if_true]
        have := atl q2
        rcases h10 : ex (j + 1) with e | ⟨b, k⟩
        · trivial
        · have b2 := qwOk (he (j + 1)) h10
          try simp only
          rcases q3 : at? ts k 5 [41] with _ | _
          · simp only [Bool.false_eq_true, if_false]
            trivial
          · simp only [if_true]
            have := atl q3
            exact w_pair b1 b2 (by omega)
    · simp only [if_true]
      have := atl q1
      exact b1.wide (by omega) (by omega) (by omega)
theorem qRnd_w {ex : Nat → QR Ex} (he : ∀ j, QW (fun e k => WE ts j k e) (ex j)) (i : Nat) : QW (fun e k => WE ts i k e) (qRnd ts ex i) := by
  unfold qRnd
  rcases q1 : at? ts (i + 1) 5 [41] with _ | _
  · simp only [Bool.false_eq_true, if_false]
    exact qParen_w ht hs he i
  · simp only [if_true]
    have := atl q1
    exact ⟨by omega, by omega, .unit _ _, k0 (arg := []) (by simp) (by simp), by rw [xEx_5]; simp only [List.length_cons, List.length_nil]; omega⟩
theorem qLeaf_w (i : Nat) : QW (fun e k => WE ts i k e) (qLeaf ts i) := by
  unfold qLeaf
  rcases q1 : of? ts i 1 with _ | _
  · simp only [Bool.false_eq_true, if_false]
    rcases q2 : of? ts i 3 with _ | _
    · simp only [Bool.false_eq_true, if_false]
      rcases q3 : of? ts i 4 with _ | _
      · simp only [Bool.false_eq_true, if_false]
        rcases q4 : at? ts i 2 [116, 114, 117, 101] with _ | _
        · simp only [Bool.false_eq_true, if_false]
          rcases q5 : at? ts i 2 [102, 97, 108, 115, 101] with _ | _
          · simp only [Bool.false_eq_true, if_false]
            trivial
          · simp only [if_true]
            have := atl q5
            exact ⟨by omega, by omega, .bool _ _ _ (.inl rfl), k0 (arg := []) (by simp) (by simp), by rw [eLeaf, xEx_3]; have := len_truth 0; omega⟩
        · simp only [if_true]
          have := atl q4
          exact ⟨by omega, by omega, .bool _ _ _ (.inr rfl), k0 (arg := []) (by simp) (by simp), by rw [eLeaf, xEx_3]; have := len_truth 1; omega⟩
      · simp only [if_true]
        have := ofl q3
        exact ⟨by omega, by omega, .str _ _ _ (w_text ht q3), k0 (arg := []) (by simp) (w_text ht q3), by rw [eLeaf, xEx_4]; have := len_longS (strE ts i); have h2 := w_text ht q3; omega⟩
    · simp only [if_true]
      have := ofl q2
      exact ⟨by omega, by omega, .int _ _ _ (w_num ht q2), k0 (arg := []) (by simp) (by simp), by rw [eLeaf, xEx_2]; have := mNum_len (w_num ht q2).1 (w_num ht q2).2; omega⟩
  · simp only [if_true]
    have := ofl q1
    exact ⟨by omega, by omega, .name _ _ _ (w_name ht q1), k0 (arg := []) (by have := len_name (w_name ht q1); omega) (by simp), by rw [eLeaf, xEx_1]; have := len_name (w_name ht q1); omega⟩
theorem qAtom_w {ex : Nat → QR Ex} (he : ∀ j, QW (fun e k => WE ts j k e) (ex j)) (i : Nat) : QW (fun e k => WE ts i k e) (qAtom ts ex i) := by
  have k := qLeaf_w ht hs i
  unfold qAtom
  rcases hl : qLeaf ts i with e | p
  · simp only
    rcases q1 : at? ts i 5 [91] with _ | _
    · simp only [Bool.false_eq_true, if_false]
      rcases q3 : at? ts i 5 [40] with _ | _
      · simp only [Bool.false_eq_true, if_false]
        trivial
      · simp only [if_true]
        have := atl q3
        exact qRnd_w ht hs he i
    · simp only [if_true]
      have := atl q1
      rcases q2 : at? ts (i + 1) 5 [93] with _ | _
      · simp only [Bool.false_eq_true, if_false]
        trivial
      · simp only [if_true]
        have := atl q2
        exact ⟨by omega, by omega, .nil _ _, k0 (arg := []) (by simp) (by simp), by rw [xEx_7]; simp only [List.length_cons, List.length_nil]; omega⟩
  · rw [hl] at k
    exact k
theorem qAppL_w {ex : Nat → QR Ex} (he : ∀ j, QW (fun e k => WE ts j k e) (ex j)) (i0 : Nat) : ∀ (f : Nat) (a : Ex) (i : Nat), WE ts i0 i a → QW (fun e k => WE ts i0 k e) (qAppL ts ex f a i)
  | 0, _, i, _ => trivial
  | f + 1, a, i, ha => by
    unfold qAppL
    rcases q1 : eBegins ts i with _ | _
    · simp only [Bool.false_eq_true, if_false]
      exact ha
    · simp only [if_true]
      skip
      rcases h11 : qAtom ts ex i with e | ⟨b, j⟩
      · trivial
      · have b1 := qwOk (qAtom_w ht hs he i) h11
        try simp only
        exact qAppL_w he i0 f _ j (w_two ha b1 (Nat.le_refl _) (.inl ⟨.inr rfl, rfl⟩))
theorem qApp_w {ex : Nat → QR Ex} (he : ∀ j, QW (fun e k => WE ts j k e) (ex j)) (i : Nat) : QW (fun e k => WE ts i k e) (qApp ts ex i) := by
  unfold qApp
  rcases h12 : qAtom ts ex i with e | ⟨a, j⟩
  · trivial
  · have b1 := qwOk (qAtom_w ht hs he i) h12
    try simp only
    exact qAppL_w ht hs he i _ _ j b1
theorem qProdL_w {ex : Nat → QR Ex} (he : ∀ j, QW (fun e k => WE ts j k e) (ex j)) (i0 : Nat) : ∀ (f : Nat) (a : Ex) (i : Nat), WE ts i0 i a → QW (fun e k => WE ts i0 k e) (qProdL ts ex f a i)
  | 0, _, i, _ => trivial
  | f + 1, a, i, ha => by
    unfold qProdL
    rcases q1 : at? ts i 5 [42] with _ | _
    · simp only [Bool.false_eq_true, if_false]
      rcases q2 : at? ts i 5 [47] with _ | _
      · simp only [Bool.false_eq_true, if_false]
        exact ha
      · simp only [if_true]
        have := atl q2
        rcases h13 : qApp ts ex (i + 1) with e | ⟨b, j⟩
        · trivial
        · have b1 := qwOk (qApp_w ht hs he (i + 1)) h13
          try simp only
          exact qProdL_w he i0 f _ j (w_two ha b1 (by omega) (.inr ⟨rfl, by decide, by decide⟩))
    · simp only [if_true]
      have := atl q1
      rcases h14 : qApp ts ex (i + 1) with e | ⟨b, j⟩
      · trivial
      · have b1 := qwOk (qApp_w ht hs he (i + 1)) h14
        try simp only
        exact qProdL_w he i0 f _ j (w_two ha b1 (by omega) (.inr ⟨rfl, by decide, by decide⟩))
theorem qProd_w {ex : Nat → QR Ex} (he : ∀ j, QW (fun e k => WE ts j k e) (ex j)) (i : Nat) : QW (fun e k => WE ts i k e) (qProd ts ex i) := by
  unfold qProd
  rcases h15 : qApp ts ex i with e | ⟨a, j⟩
  · trivial
  · have b1 := qwOk (qApp_w ht hs he i) h15
    try simp only
    exact qProdL_w ht hs he i _ _ j b1
theorem qSumL_w {ex : Nat → QR Ex} (he : ∀ j, QW (fun e k => WE ts j k e) (ex j)) (i0 : Nat) : ∀ (f : Nat) (a : Ex) (i : Nat), WE ts i0 i a → QW (fun e k => WE ts i0 k e) (qSumL ts ex f a i)
  | 0, _, i, _ => trivial
  | f + 1, a, i, ha => by
    unfold qSumL
    rcases q1 : at? ts i 5 [43] with _ | _
    · simp only [Bool.false_eq_true, if_false]
      rcases q2 : at? ts i 5 [45] with _ | _
      · simp only [Bool.false_eq_true, if_false]
        exact ha
      · simp only [if_true]
        have := atl q2
        rcases h16 : qProd ts ex (i + 1) with e | ⟨b, j⟩
        · trivial
        · have b1 := qwOk (qProd_w ht hs he (i + 1)) h16
          try simp only
          exact qSumL_w he i0 f _ j (w_two ha b1 (by omega) (.inr ⟨rfl, by decide, by decide⟩))
    · simp only [if_true]
      have := atl q1
      rcases h17 : qProd ts ex (i + 1) with e | ⟨b, j⟩
      · trivial
      · have b1 := qwOk (qProd_w ht hs he (i + 1)) h17
        try simp only
        exact qSumL_w he i0 f _ j (w_two ha b1 (by omega) (.inr ⟨rfl, by decide, by decide⟩))
theorem qSum_w {ex : Nat → QR Ex} (he : ∀ j, QW (fun e k => WE ts j k e) (ex j)) (i : Nat) : QW (fun e k => WE ts i k e) (qSum ts ex i) := by
  unfold qSum
  rcases h18 : qProd ts ex i with e | ⟨a, j⟩
  · trivial
  · have b1 := qwOk (qProd_w ht hs he i) h18
    try simp only
    exact qSumL_w ht hs he i _ _ j b1
theorem qConsF_w {ex : Nat → QR Ex} (he : ∀ j, QW (fun e k => WE ts j k e) (ex j)) : ∀ (f : Nat) (i : Nat), QW (fun e k => WE ts i k e) (qConsF ts ex f i)
  | 0, i => trivial
  | f + 1, i => by
    unfold qConsF
    rcases h19 : qSum ts ex i with e | ⟨a, j⟩
    · trivial
    · have b1 := qwOk (qSum_w ht hs he i) h19
      try simp only
      rcases q1 : at? ts j 5 [58, 58] with _ | _
      · simp only [Bool.false_eq_true, if_false]
        exact b1
      · simp only [if_true]
        have := atl q1
        rcases h20 : qConsF ts ex f (j + 1) with e | ⟨b, k⟩
        · trivial
        · have b2 := qwOk (qConsF_w he f (j + 1)) h20
          try simp only
          exact w_two b1 b2 (by omega) (.inl ⟨.inl rfl, rfl⟩)
theorem qCmp_w {ex : Nat → QR Ex} (he : ∀ j, QW (fun e k => WE ts j k e) (ex j)) (i : Nat) : QW (fun e k => WE ts i k e) (qCmp ts ex i) := by
  unfold qCmp qCons
  rcases h21 : qConsF ts ex (ts.length + 1) i with e | ⟨a, j⟩
  · trivial
  · have b1 := qwOk (qConsF_w ht hs he (ts.length + 1) i) h21
    try simp only
    rcases q1 : at? ts j 5 [60] with _ | _
    · simp only [Bool.false_eq_true, if_false]
      rcases q2 : at? ts j 5 [61] with _ | _
      · simp only [Bool.false_eq_true, if_false]
        rcases q3 : at? ts j 5 [61, 61] with _ | _
        · simp only [Bool.false_eq_true, if_false]
          exact b1
        · simp only [if_true]
          have := atl q3
          rcases h22 : qConsF ts ex (ts.length + 1) (j + 1) with e | ⟨b, k⟩
          · trivial
          · have b2 := qwOk (qConsF_w ht hs he (ts.length + 1) (j + 1)) h22
            try simp only
            exact w_two b1 b2 (by omega) (.inr ⟨rfl, by decide, by decide⟩)
      · simp only [if_true]
        have := atl q2
        rcases h23 : qConsF ts ex (ts.length + 1) (j + 1) with e | ⟨b, k⟩
        · trivial
        · have b2 := qwOk (qConsF_w ht hs he (ts.length + 1) (j + 1)) h23
          try simp only
          exact w_two b1 b2 (by omega) (.inr ⟨rfl, by decide, by decide⟩)
    · simp only [if_true]
      have := atl q1
      rcases h24 : qConsF ts ex (ts.length + 1) (j + 1) with e | ⟨b, k⟩
      · trivial
      · have b2 := qwOk (qConsF_w ht hs he (ts.length + 1) (j + 1)) h24
        try simp only
        exact w_two b1 b2 (by omega) (.inr ⟨rfl, by decide, by decide⟩)
theorem qBody_w {ex : Nat → QR Ex} (he : ∀ j, QW (fun e k => WE ts j k e) (ex j)) (i : Nat) : QW (fun p m => ∃ j k, j ≤ k ∧ WE ts (i + 1) j p.1 ∧ WE ts k m p.2) (qBody ts ex i) := by
  unfold qBody
  rcases q1 : at? ts i 5 [61] with _ | _
  · simp only [Bool.false_eq_true, if_false]
    trivial
  · simp only [if_true]
    have := atl q1
    rcases h25 : ex (i + 1) with e | ⟨a, j⟩
    · trivial
    · have b1 := qwOk (he (i + 1)) h25
      try simp only
      rcases q2 : at? ts j 2 [105, 110] with _ | _
      · simp only [Bool.false_eq_true, if_false]
        trivial
      · simp only [if_true]
        have := atl q2
        rcases h26 : ex (j + 1) with e | ⟨b, k⟩
        · trivial
        · have b2 := qwOk (he (j + 1)) h26
          try simp only
          exact ⟨_, _, by omega, b1, b2⟩
theorem qLet_w {ex : Nat → QR Ex} (he : ∀ j, QW (fun e k => WE ts j k e) (ex j)) (i0 i : Nat) (hi : i0 ≤ i) (fr : Int) : QW (fun e k => WE ts i0 k e) (qLet ts ex fr i) := by
  unfold qLet
  rcases h27 : qName ts i with e | ⟨s, j⟩
  · trivial
  · obtain ⟨c1, c2, c3⟩ := qwOk (qName_w ht hs i) h27
    try simp only
    rcases h28 : qMaybe ts j with e | ⟨t, k⟩
    · trivial
    · obtain ⟨c4, c5, c6⟩ := qwOk (qMaybe_w ht hs j (by omega)) h28
      try simp only
      rcases h29 : qBody ts ex k with e | ⟨⟨a, b⟩, m⟩
      · trivial
      · obtain ⟨j1, k1, d2, b8, b9⟩ := qwOk (qBody_w ht hs he k) h29
        try simp only
        exact w_let b8 b9 (by omega) d2 c1 c4
theorem qRec_w {ex : Nat → QR Ex} (he : ∀ j, QW (fun e k => WE ts j k e) (ex j)) (i0 i : Nat) (hi : i0 ≤ i) (fr : Int) : QW (fun e k => WE ts i0 k e) (qRec ts ex fr i) := by
  unfold qRec
  rcases h30 : qName ts i with e | ⟨s, j⟩
  · trivial
  · obtain ⟨c1, c2, c3⟩ := qwOk (qName_w ht hs i) h30
    try simp only
    rcases h31 : qParam ts j with e | ⟨⟨g, t⟩, k⟩
    · trivial
    · obtain ⟨c4, c5, c6, c7⟩ := qwOk (qParam_w ht hs j (by omega)) h31
      try simp only
      rcases h32 : qMaybe ts k with e | ⟨u, l⟩
      · trivial
      · obtain ⟨c8, c9, c10⟩ := qwOk (qMaybe_w ht hs k (by omega)) h32
        try simp only
        rcases h33 : qBody ts ex l with e | ⟨⟨a, b⟩, m⟩
        · trivial
        · obtain ⟨j1, k1, d2, b8, b9⟩ := qwOk (qBody_w ht hs he l) h33
          try simp only
          exact w_rec b8 b9 (by omega) d2 c1 c4 c5 c8
theorem qLetR_w {ex : Nat → QR Ex} (he : ∀ j, QW (fun e k => WE ts j k e) (ex j)) (i0 i : Nat) (hi : i0 ≤ i) (fr : Int) : QW (fun e k => WE ts i0 k e) (qLetR ts ex fr i) := by
  unfold qLetR
  rcases q1 : at? ts i 2 [114, 101, 99] with _ | _
  · simp only [Bool.false_eq_true, if_false]
    exact qLet_w ht hs he i0 _ hi fr
  · simp only [if_true]
    have := atl q1
    exact qRec_w ht hs he i0 _ (by omega) fr
theorem qFun_w {ex : Nat → QR Ex} (he : ∀ j, QW (fun e k => WE ts j k e) (ex j)) (i0 i : Nat) (hi : i0 ≤ i) (hil : i ≤ ts.length) (fr : Int) : QW (fun e k => WE ts i0 k e) (qFun ts ex fr i) := by
  unfold qFun
  rcases h34 : qParam ts i with e | ⟨⟨s, t⟩, j⟩
  · trivial
  · obtain ⟨c1, c2, c3, c4⟩ := qwOk (qParam_w ht hs i hil) h34
    try simp only
    rcases q1 : at? ts j 5 [45, 62] with _ | _
    · simp only [Bool.false_eq_true, if_false]
      trivial
    · simp only [if_true]
      have := atl q1
      rcases h35 : ex (j + 1) with e | ⟨b, k⟩
      · trivial
      · have b2 := qwOk (he (j + 1)) h35
        try simp only
        exact w_fun b2 (by omega) c1 c2
theorem qIf_w {ex : Nat → QR Ex} (he : ∀ j, QW (fun e k => WE ts j k e) (ex j)) (i0 i : Nat) (hi : i0 ≤ i) (fr : Int) : QW (fun e k => WE ts i0 k e) (qIf ts ex fr i) := by
  unfold qIf qIfS
  rcases h1 : ex i with e | ⟨a, j⟩
  · trivial
  · have b1 := qwOk (he i) h1
    simp only
    rw [if_neg (by decide)]
    rcases q1 : at? ts j 2 [116, 104, 101, 110] with _ | _
    · trivial
    · simp only [if_true]
      unfold qIfS
      rcases h2 : ex (j + 1) with e | ⟨b, k⟩
      · trivial
      · have b2 := qwOk (he (j + 1)) h2
        simp only
        rw [if_neg (by decide)]
        rcases q2 : at? ts k 2 [101, 108, 115, 101] with _ | _
        · trivial
        · simp only [if_true]
          unfold qIfS
          rcases h3 : ex (k + 1) with e | ⟨c, m⟩
          · trivial
          · have b3 := qwOk (he (k + 1)) h3
            simp only [if_true]
            unfold qIfS
            exact w_if b1 b2 b3 hi (by omega) (by omega)
def WR (ts : List Tok) (i0 j : Nat) (ps : List Pa) (es : List Ex) : Prop := i0 < j ∧ j ≤ ts.length ∧ ∃ (x : Ex) (l : List (Pa × Ex)), es = x :: l.map (·.2) ∧ ps = l.map (·.1) ∧ REx x ∧ ExK 100000 x ∧ (∀ q, q ∈ l → RPa q.1 ∧ mCheckPat q.1 = true ∧ PaK 100000 q.1 ∧ REx q.2 ∧ ExK 100000 q.2) ∧ l.length ≤ j - i0 ∧ (xEx x).length + (aL true l).length + 40 ≤ 500000 * (j - i0)
theorem wAL : ∀ (l : List (Pa × Ex)) (first : Bool) (p : Pa) (e : Ex), (aL first (l ++ [(p, e)])).length ≤ (aL first l).length + (xPat p).length + (xEx e).length + 7
  | [], first, p, e => by
    rw [List.nil_append]
    simp only [aL]
    cases first <;> simp [List.length_append] <;> omega
  | q :: l, first, p, e => by
    have := wAL l false p e
    simp only [List.cons_append, aL, List.length_append] at this ⊢
    omega
theorem qEnd_w (i0 k : Nat) (fr : Int) (ps : List Pa) (es : List Ex) (h : WR ts i0 k ps es) (hne : ps ≠ []) : QW (fun e k => WE ts i0 k e) (qEnd ts fr ps es k) := by
  unfold qEnd
  rcases q1 : at? ts k 2 [101, 110, 100] with _ | _
  · trivial
  · have hk := atl q1
    obtain ⟨g1, g2, x, l, he, hp, h1, h2, h3, h4, h5⟩ := h
    have hl : l ≠ [] := fun e => hne (by rw [hp, e]; rfl)
    subst he hp
    refine ⟨by omega, by omega, .matchE _ _ _ _ hl h1 (fun q hq => (h3 q hq).1) (fun q hq => (h3 q hq).2.1) (fun q hq => (h3 q hq).2.2.2.1), ?_, ?_⟩
    · refine .mk (by simp) (by simp) (by simp) (by decide) (by decide) (by simp; omega) (by simp; omega) (fun p hp => ?_) (fun e he => ?_)
      · obtain ⟨q, hq, rfl⟩ := List.mem_map.1 hp
        exact (h3 q hq).2.2.1
      · rcases List.mem_cons.1 he with rfl | he
        · exact h2
        · obtain ⟨q, hq, rfl⟩ := List.mem_map.1 he
          exact (h3 q hq).2.2.2.2
    · rw [xEx_14]
      simp only [List.length_append, List.length_cons, List.length_nil]
      omega
theorem qArms_w {ex : Nat → QR Ex} (he : ∀ j, QW (fun e k => WE ts j k e) (ex j)) (i0 : Nat) (fr : Int) : ∀ (f : Nat) (ps : List Pa) (es : List Ex) (i : Nat), 0 < i → WR ts i0 (i - 1) ps es → QW (fun e k => WE ts i0 k e) (qArms ts ex fr f ps es i)
  | 0, _, _, i, _, _ => trivial
  | f + 1, ps, es, i, h0, h => by
    unfold qArms
    rcases g1 : qPatF ts (ts.length + 1) [] i with e | ⟨⟨p, s⟩, j⟩
    · trivial
    · have b1 : WP ts i j [] s p := qwOk (qPatF_w ht hs (ts.length + 1) [] i) g1
      simp only
      rcases g2 : at? ts j 5 [45, 62] with _ | _
      · trivial
      · have hj := atl g2
        simp only [if_true]
        rcases g3 : ex (j + 1) with e | ⟨a, k⟩
        · trivial
        · have b2 := qwOk (he (j + 1)) g3
          simp only
          have hnew : WR ts i0 k (ps ++ [p]) (es ++ [a]) := by
            obtain ⟨d1, d2, x, l, e1, e2, e3, e4, e5, e6, e7⟩ := h
            obtain ⟨p1, p2, p3, p4, p5, p6⟩ := b1
            obtain ⟨a1, a2, a3, a4, a5⟩ := b2
            have hsn := wAL ht hs l true p a
            refine ⟨by omega, a2, x, l ++ [(p, a)], by rw [e1]; simp, by rw [e2]; simp, e3, e4, fun q hq => ?_, by simp; omega, by omega⟩
            rcases List.mem_append.1 hq with h | h
            · exact e5 q h
            · simp at h
              rw [h]
              exact ⟨p3, by show (rnP [] p).1 = true; rw [p6], p4, a3, a4⟩
          rcases g4 : at? ts k 5 [124] with _ | _
          · simp only [Bool.false_eq_true, if_false]
            exact qEnd_w ht hs i0 k fr _ _ hnew (by simp)
          · simp only [if_true]
            exact qArms_w he i0 fr f _ _ (k + 1) (by omega) (by rw [Nat.add_sub_cancel]; exact hnew)
theorem qMatch_w {ex : Nat → QR Ex} (he : ∀ j, QW (fun e k => WE ts j k e) (ex j)) (i0 i : Nat) (hi : i0 < i) (fr : Int) : QW (fun e k => WE ts i0 k e) (qMatch ts ex fr i) := by
  unfold qMatch
  rcases g1 : ex i with e | ⟨x, j⟩
  · trivial
  · have b1 := qwOk (he i) g1
    simp only
    rcases g2 : at? ts j 2 [119, 105, 116, 104] with _ | _
    · trivial
    · have hj := atl g2
      simp only [if_true]
      obtain ⟨a1, a2, a3, a4, a5⟩ := b1
      exact qArms_w ht hs he i0 fr _ _ _ (j + 1) (by omega) ⟨by omega, by omega, x, [], rfl, rfl, a3, a4, fun q hq => (by cases hq), by simp, by simp only [aL, List.length_nil]; omega⟩
theorem qExprF_w : ∀ (f : Nat) (i : Nat), QW (fun e k => WE ts i k e) (qExprF ts f i)
  | 0, i => trivial
  | f + 1, i => by
    have he := qExprF_w f
    unfold qExprF
    rcases q1 : at? ts i 2 [108, 101, 116] with _ | _
    · simp only [Bool.false_eq_true, if_false]
      rcases q2 : at? ts i 2 [102, 117, 110] with _ | _
      · simp only [Bool.false_eq_true, if_false]
        rcases q3 : at? ts i 2 [105, 102] with _ | _
        · simp only [Bool.false_eq_true, if_false]
          rcases q4 : at? ts i 2 [109, 97, 116, 99, 104] with _ | _
          · simp only [Bool.false_eq_true, if_false]
            exact qCmp_w ht hs he i
          · simp only [if_true]
            exact qMatch_w ht hs he i (i + 1) (by omega) _
        · simp only [if_true]
          exact qIf_w ht hs he i (i + 1) (by omega) _
      · have := atl q2
        simp only [if_true]
        exact qFun_w ht hs he i (i + 1) (by omega) (by omega) _
    · simp only [if_true]
      exact qLetR_w ht hs he i (i + 1) (by omega) _
end
theorem parse_w {bs : List UInt8} {e : Ex} (hl : bs.length ≤ 16384) (h : mParse bs = .ok e) : REx e ∧ ExK 100000 e ∧ (xEx e).length ≤ 500000 * bs.length := by
  unfold mParse at h
  rcases hs : mScan bs with k | ts
  · rw [hs] at h; cases h
  · rw [hs] at h
    simp only at h
    obtain ⟨ht, hlen⟩ := tkG_of (by omega) hs
    rcases hx : qExprF ts (ts.length + 1) 0 with ⟨j, q⟩ | ⟨e', j⟩
    · rw [hx] at h; simp only at h; split at h <;> cases h
    · rw [hx] at h
      simp only at h
      split at h
      · cases h
        obtain ⟨_, _, h1, h2, h3⟩ := qwOk (qExprF_w ht (by omega) (ts.length + 1) 0) hx
        exact ⟨h1, h2, by omega⟩
      · cases h

theorem ann_m {t : Ty} (h : Ann t) : mNone t = true ∨ (mNone t = false ∧ mClosed t = true) := by
  rcases h with rfl | h
  · exact .inl rfl
  · have hc : CL t := by
      induction h with
      | int => exact cl_leaf (.inl rfl)
      | bool => exact cl_leaf (.inr (.inl rfl))
      | str => exact cl_leaf (.inr (.inr (.inl rfl)))
      | unit => exact cl_leaf (.inr (.inr (.inr (.inl rfl))))
      | dyn => exact cl_leaf (.inr (.inr (.inr (.inr rfl))))
      | pair a b _ _ iha ihb => exact cl_two (.inl rfl) iha ihb
      | list a _ iha => exact cl_one iha
      | func a b _ _ iha ihb => exact cl_two (.inr rfl) iha ihb
    refine .inr ⟨?_, ?_⟩
    · unfold mNone
      rw [decide_eq_false (by have := hc.2.2; omega)]; rfl
    · unfold mClosed
      rw [hc.1, hc.2.1]; rfl
theorem rpa_N {p : Pa} (h : RPa p) : PaN p := by
  induction h with
  | any | name | unit | nil | str => exact .mk ⟨by decide, by decide⟩ (fun _ h => by cases h)
  | int a b n hn => exact .mk hn (fun _ h => by cases h)
  | bool a b n hn => exact .mk (by rcases hn with rfl | rfl <;> exact ⟨by decide, by decide⟩) (fun _ h => by cases h)
  | pair a b x y _ _ ihx ihy => exact .mk ⟨by decide, by decide⟩ (fun z h => by simp at h; rcases h with rfl | rfl <;> assumption)
  | cons a b x y _ _ ihx ihy => exact .mk ⟨by decide, by decide⟩ (fun z h => by simp at h; rcases h with rfl | rfl <;> assumption)
theorem rex_N {e : Ex} (h : REx e) : ExN e := by
  have z : I64 0 := ⟨by decide, by decide⟩
  induction h with
  | name | str | unit | nil => exact .mk z (fun _ h => by cases h) (fun _ h => by cases h)
  | int a b n hn => exact .mk hn (fun _ h => by cases h) (fun _ h => by cases h)
  | bool a b n hn => exact .mk (by rcases hn with rfl | rfl <;> exact ⟨by decide, by decide⟩) (fun _ h => by cases h) (fun _ h => by cases h)
  | pair | cons | app | op | letE | recE => exact .mk z (fun _ h => by cases h) (fun z h => by simp at h; rcases h with rfl | rfl <;> assumption)
  | asc | func => exact .mk z (fun _ h => by cases h) (fun z h => by simp at h; rw [h]; assumption)
  | ifE => exact .mk z (fun _ h => by cases h) (fun z h => by simp at h; rcases h with rfl | rfl | rfl <;> assumption)
  | matchE a b x l hl hx hP hC hE ihx ihE =>
    refine .mk z (fun p h => ?_) (fun z h => ?_)
    · obtain ⟨q, hq, rfl⟩ := List.mem_map.1 h
      exact rpa_N (hP q hq)
    · rcases List.mem_cons.1 h with rfl | h
      · exact ihx
      · obtain ⟨q, hq, rfl⟩ := List.mem_map.1 h
        exact ihE q hq
theorem check_of {e : Ex} (h : REx e) : mCheck e = true := by
  have nn : mNone noTy = true := rfl
  have one : ∀ {k a b : Int} {nm arg : List UInt8} {m : Int} {s : List UInt8} {op : Int} {A B : Ty} {pats : List Pa} {kids : List Ex}, oneE (.mk k a b nm arg m s op A B pats kids) = true → (∀ x, x ∈ kids → mCheck x = true) → mCheck (.mk k a b nm arg m s op A B pats kids) = true := fun h1 h2 => by
    rw [check_mk7, h1, List.all_eq_true.2 h2]; rfl
  induction h with
  | name a b s hs =>
    exact one (by simp [oneE, shOf, k2, k4, k6, k8, k10, k12, k14, k16, Ex.kind, Ex.nm, Ex.arg, Ex.n, Ex.s, Ex.op, Ex.A, Ex.B, Ex.pats, Ex.kids, nn, hs]) (fun x h => by cases h)
  | int a b n hn =>
    exact one (by simp [oneE, shOf, k2, k4, k6, k8, k10, k12, k14, k16, Ex.kind, Ex.nm, Ex.arg, Ex.n, Ex.s, Ex.op, Ex.A, Ex.B, Ex.pats, Ex.kids, nn]) (fun x h => by cases h)
  | bool a b n hn =>
    exact one (by rcases hn with rfl | rfl <;> simp [oneE, shOf, k2, k4, k6, k8, k10, k12, k14, k16, Ex.kind, Ex.nm, Ex.arg, Ex.n, Ex.s, Ex.op, Ex.A, Ex.B, Ex.pats, Ex.kids, nn]) (fun x h => by cases h)
  | str a b s hs =>
    exact one (by simp [oneE, shOf, k2, k4, k6, k8, k10, k12, k14, k16, Ex.kind, Ex.nm, Ex.arg, Ex.n, Ex.s, Ex.op, Ex.A, Ex.B, Ex.pats, Ex.kids, nn]; try exact decide_eq_false (by omega)) (fun x h => by cases h)
  | unit a b =>
    exact one rfl (fun x h => by cases h)
  | nil a b =>
    exact one rfl (fun x h => by cases h)
  | pair a b x y _ _ ihx ihy =>
    exact one rfl (fun x h => by simp at h; rcases h with rfl | rfl <;> assumption)
  | cons a b x y _ _ ihx ihy =>
    exact one rfl (fun x h => by simp at h; rcases h with rfl | rfl <;> assumption)
  | app a b x y _ _ ihx ihy =>
    exact one rfl (fun x h => by simp at h; rcases h with rfl | rfl <;> assumption)
  | op a b op x y h1 h2 _ _ ihx ihy =>
    exact one (by simp [oneE, shOf, k2, k4, k6, k8, k10, k12, k14, k16, Ex.kind, Ex.nm, Ex.arg, Ex.n, Ex.s, Ex.op, Ex.A, Ex.B, Ex.pats, Ex.kids, nn, h1, h2]; exact ⟨decide_eq_false (by omega), decide_eq_false (by omega)⟩) (fun x h => by simp at h; rcases h with rfl | rfl <;> assumption)
  | asc a b A x hA _ ihx =>
    rcases ann_m (.inr hA) with h | ⟨h, h2⟩
    · exact absurd (noTy_of h) (fun e => by subst e; cases hA)
    · exact one (by simp [oneE, shOf, k2, k4, k6, k8, k10, k12, k14, k16, Ex.kind, Ex.nm, Ex.arg, Ex.n, Ex.s, Ex.op, Ex.A, Ex.B, Ex.pats, Ex.kids, nn, h, h2]) (fun x h => by simp at h; rw [h]; assumption)
  | func a b s A x hs hA _ ihx =>
    rcases ann_m hA with h | ⟨h, h2⟩ <;> exact one (by simp [oneE, shOf, k2, k4, k6, k8, k10, k12, k14, k16, Ex.kind, Ex.nm, Ex.arg, Ex.n, Ex.s, Ex.op, Ex.A, Ex.B, Ex.pats, Ex.kids, nn, hs, *]) (fun x h => by simp at h; rw [h]; assumption)
  | letE a b s A x y hs hA _ _ ihx ihy =>
    rcases ann_m hA with h | ⟨h, h2⟩ <;> exact one (by simp [oneE, shOf, k2, k4, k6, k8, k10, k12, k14, k16, Ex.kind, Ex.nm, Ex.arg, Ex.n, Ex.s, Ex.op, Ex.A, Ex.B, Ex.pats, Ex.kids, nn, hs, *]) (fun x h => by simp at h; rcases h with rfl | rfl <;> assumption)
  | recE a b s g A B x y hs hg hA hB _ _ ihx ihy =>
    rcases ann_m hA with h | ⟨h, h2⟩ <;> rcases ann_m hB with h3 | ⟨h3, h4⟩ <;> exact one (by simp [oneE, shOf, k2, k4, k6, k8, k10, k12, k14, k16, Ex.kind, Ex.nm, Ex.arg, Ex.n, Ex.s, Ex.op, Ex.A, Ex.B, Ex.pats, Ex.kids, nn, hs, hg, *]) (fun x h => by simp at h; rcases h with rfl | rfl <;> assumption)
  | ifE a b x y z _ _ _ ihx ihy ihz =>
    exact one rfl (fun x h => by simp at h; rcases h with rfl | rfl | rfl <;> assumption)
  | matchE a b x l hl hx hP hC hE ihx ihE =>
    have c1 : (l.map (·.1)).all mCheckPat = true := List.all_eq_true.2 fun p hp => by obtain ⟨q, hq, rfl⟩ := List.mem_map.1 hp; exact hC q hq
    have c3 : 0 < l.length := by cases l with | nil => exact absurd rfl hl | cons => simp
    refine one (by simp [oneE, shOf, k2, k4, k6, k8, k10, k12, k14, k16, Ex.kind, Ex.nm, Ex.arg, Ex.n, Ex.s, Ex.op, Ex.A, Ex.B, Ex.pats, Ex.kids, c1, c3, nn]; try exact fun p e hpe => hC _ hpe) (fun z h => ?_)
    rcases List.mem_cons.1 h with rfl | h
    · exact ihx
    · obtain ⟨q, hq, rfl⟩ := List.mem_map.1 h
      exact ihE q hq
theorem exB_k {e : Ex} (h : ExK 100000 e) : mCheck e = true → ExB 100000 e := by
  induction h with
  | @mk k a b nm arg m s op A B pats kids h1 h2 h3 h4 h5 h6 h7 h8 h9 ih =>
    intro hm
    rw [check_mk7, Bool.and_eq_true] at hm
    obtain ⟨f1, f2, f3, _⟩ := one_facts hm.1
    have hp : pats.length ≤ 100000 := by
      rcases f3 with f3 | f3
      · have hk : k = 14 := f3
        subst hk
        have hs : (shOf (.mk 14 a b nm arg m s op A B pats kids)).kids = (pats.length : Int) + 1 := rfl
        rw [hs] at f2
        simp only [Ex.kids] at f2
        omega
      · have : pats = [] := f3
        rw [this]; simp
    exact .mk h4 h5 hp h7 (fun p hp => paB_of (Nat.le_refl _) (h8 p hp)) (fun e he => ih e he (List.all_eq_true.1 hm.2 e he))
theorem parse_err {bs : List UInt8} {x y : Int} (h : mParse bs = .error (x, y)) : y = 3 := by
  unfold mParse at h
  rcases hs : mScan bs with k | ts
  · rw [hs] at h; cases h; rfl
  · rw [hs] at h
    simp only at h
    rcases hx : qExprF ts (ts.length + 1) 0 with ⟨j, q⟩ | ⟨e', j⟩
    · rw [hx] at h; simp only at h; split at h <;> cases h <;> rfl
    · rw [hx] at h
      simp only at h
      split at h
      · cases h
      · cases h; rfl

end Go.Proofs.YtlagglkpbnbmeaaGreatDoor

