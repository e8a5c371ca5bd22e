/- The plain law of what is read: tokens, types, and each form of expression and pattern, right and with its parts in order. No program in sight. -/
import Derived.Test.YtlagglkpbnbmeaaRi5
import Derived.Test.YtlagglkpbnbmeaaEk
import Derived.Test.YtlagglkpbnbmeaaTz
import Derived.Test.YtlagglkpbnbmeaaLexQ2
namespace Go.Proofs.Ytlagglkpbnbmeaa
set_option linter.unusedVariables false
set_option linter.unusedSimpArgs false
set_option linter.unusedSectionVars false
set_option maxRecDepth 100000

/-! types that are read -/
def CL (t : Ty) : Prop := mRight t = true ∧ mWithout 6 t = true ∧ 0 < t.kind
theorem cl_leaf {k : Int} (h : k = 1 ∨ k = 2 ∨ k = 3 ∨ k = 4 ∨ k = 5) : CL (.leaf k) := by
  rcases h with rfl | rfl | rfl | rfl | rfl <;> exact ⟨by decide, by decide, by decide⟩
theorem cl_one {a : Ty} (h : CL a) : CL (.one 8 a) := by
  refine ⟨?_, ?_, by show (0 : Int) < 8; decide⟩
  · rw [mRight, mRights, mRights, h.1]; rfl
  · rw [mWithout, mWithouts, mWithouts, h.2.1]; rfl
theorem cl_two {a b : Ty} {k : Int} (hk : k = 7 ∨ k = 9) (h : CL a) (h2 : CL b) : CL (.two k a b) := by
  refine ⟨?_, ?_, by show 0 < k; omega⟩
  · rw [mRight, mRights, mRights, mRights, h.1, h2.1]
    rcases hk with rfl | rfl <;> rfl
  · rw [mWithout, mWithouts, mWithouts, mWithouts, h.2.1, h2.2.1]
    rcases hk with rfl | rfl <;> rfl
def PCl (x : PR Ty) : Prop := match x with
  | .error _ => True
  | .ok (t, _) => CL t
theorem mLists_cl : ∀ (l : List Tok) (t : Ty), CL t → CL (mLists t l).1
  | [], t, h => by rw [mLists]; exact h
  | x :: r, t, h => by
    rw [mLists]
    split
    · exact mLists_cl r _ (cl_one h)
    · exact h
theorem mAtom_cl {ty : List Tok → PR Ty} (ht : ∀ l, PCl (ty l)) (l : List Tok) : PCl (mAtom ty l) := by
  unfold mAtom
  split
  · exact cl_leaf (.inl rfl)
  split
  · exact cl_leaf (.inr (.inl rfl))
  split
  · exact cl_leaf (.inr (.inr (.inl rfl)))
  split
  · exact cl_leaf (.inr (.inr (.inr (.inl rfl))))
  split
  · exact cl_leaf (.inr (.inr (.inr (.inr rfl))))
  split
  · have h := ht l.tail
    cases hx : ty l.tail with
    | error e => trivial
    | ok p =>
      rw [hx] at h
      obtain ⟨t, r⟩ := p
      show PCl (if hit 5 [41] r = true then .ok (t, r.tail) else .error r.length)
      split
      · exact h
      · trivial
  · trivial
theorem mPost_cl {ty : List Tok → PR Ty} (ht : ∀ l, PCl (ty l)) (l : List Tok) : PCl (mPost ty l) := by
  have h := mAtom_cl ht l
  unfold mPost
  cases hx : mAtom ty l with
  | error e => trivial
  | ok p =>
    rw [hx] at h
    obtain ⟨t, r⟩ := p
    exact mLists_cl r t h
theorem mProd_cl {ty : List Tok → PR Ty} (ht : ∀ l, PCl (ty l)) (l : List Tok) : PCl (mProd ty l) := by
  have h := mPost_cl ht l
  unfold mProd
  cases hx : mPost ty l with
  | error e => trivial
  | ok p =>
    rw [hx] at h
    obtain ⟨a, r⟩ := p
    show PCl (if hit 5 [42] r = true then match mPost ty r.tail with
      | .error e => .error e
      | .ok (b, r') => .ok (.two 7 a b, r') else .ok (a, r))
    split
    · have h2 := mPost_cl ht r.tail
      cases hy : mPost ty r.tail with
      | error e => trivial
      | ok q => rw [hy] at h2; exact cl_two (.inl rfl) h h2
    · exact h
theorem mTypF_cl : ∀ (f : Nat) (l : List Tok), PCl (mTypF f l)
  | 0, _ => trivial
  | f + 1, l => by
    have h := mProd_cl (mTypF_cl f) l
    rw [mTypF]
    cases hx : mProd (mTypF f) l with
    | error e => trivial
    | ok p =>
      rw [hx] at h
      obtain ⟨a, r⟩ := p
      show PCl (if hit 5 [45, 62] r = true then match mTypF f r.tail with
        | .error e => .error e
        | .ok (b, r') => .ok (.two 9 a b, r') else .ok (a, r))
      split
      · have h2 := mTypF_cl f r.tail
        cases hy : mTypF f r.tail with
        | error e => trivial
        | ok q => rw [hy] at h2; exact cl_two (.inr rfl) h h2
      · exact h
/-- an annotation that may stand: none, or a closed one -/
def AnnOK (n : Nat) (t : Ty) : Prop := (mNone t = true ∨ (mNone t = false ∧ mClosed t = true)) ∧ t.size ≤ n
theorem CL.ann {t : Ty} (h : CL t) : mNone t = false ∧ mClosed t = true := by
  refine ⟨?_, ?_⟩
  · unfold mNone
    rw [decide_eq_false (by have := h.2.2; omega)]; rfl
  · unfold mClosed
    rw [h.1, h.2.1]; rfl

/-! tokens -/
structure TokG (N : Int) (ts : List Tok) : Prop where
  own : ∀ (i : Nat) (x : Tok), ts[i]? = some x → x.a < x.b ∧ (x.b : Int) ≤ N ∧ (x.k = 1 → mName x.s = true) ∧ (x.k = 4 → x.s.length ≤ 200)
  ord : ∀ (i j : Nat) (x y : Tok), i < j → ts[i]? = some x → ts[j]? = some y → x.b ≤ y.a
theorem mTok_kind {l : List UInt8} {t : BTok} {n : Nat} (h : mTok l = some (t, n)) : (t.k = 1 → mName t.s = true) ∧ (t.k = 4 → t.s.length ≤ 200) := by
  cases l with
  | nil => simp [mTok] at h
  | cons c r =>
    rw [mTok] at h
    split at h
    · unfold mWord at h
      split at h
      · cases h; exact ⟨fun e => (by cases e), fun e => (by cases e)⟩
      · split at h
        · rename_i hn; cases h; exact ⟨fun _ => hn, fun e => (by cases e)⟩
        · cases h
    · split at h
      · unfold mNumber at h
        split at h
        · cases h; exact ⟨fun e => (by cases e), fun e => (by cases e)⟩
        · cases h
      · split at h
        · unfold mText at h
          split at h
          · split at h
            · rename_i t' ht
              cases h
              refine ⟨fun e => (by cases e), fun _ => ?_⟩
              unfold mUnquote at ht
              split at ht
              · split at ht
                · split at ht
                  · rename_i hle; cases ht; exact hle
                  · cases ht
                · cases ht
              · cases ht
            · cases h
          · cases h
        · unfold mSign at h
          split at h
          · cases h
          · cases h; exact ⟨fun e => (by cases e), fun e => (by cases e)⟩
theorem scans_tok {off : Nat} {l : List UInt8} {ts : List Tok} {e : Option Nat} (h : Scans off l ts e) :
    (∀ x : Tok, x ∈ ts → (x.k = 1 → mName x.s = true) ∧ (x.k = 4 → x.s.length ≤ 200)) ∧ ∀ (i j : Nat) (x y : Tok), i < j → ts[i]? = some x → ts[j]? = some y → x.b ≤ y.a := by
  induction h with
  | done => exact ⟨fun _ h => by simp at h, fun i j x y _ h => by simp at h⟩
  | bad => exact ⟨fun _ h => by simp at h, fun i j x y _ h => by simp at h⟩
  | step off l t n ts e hm hs ih =>
    refine ⟨fun x hx => ?_, fun i j x y hij hx hy => ?_⟩
    · rcases List.mem_cons.1 hx with rfl | hx
      · exact mTok_kind hm
      · exact ih.1 x hx
    · cases i with
      | zero =>
        obtain ⟨j', rfl⟩ : ∃ j', j = j' + 1 := ⟨j - 1, by omega⟩
        simp at hx hy
        have := ((scans_at hs).1 y (List.mem_of_getElem? hy)).1
        rw [← hx]
        exact this
      | succ i =>
        obtain ⟨j', rfl⟩ : ∃ j', j = j' + 1 := ⟨j - 1, by omega⟩
        exact ih.2 i j' x y (by omega) (by simpa using hx) (by simpa using hy)
theorem tokG_of {bs : List UInt8} {ts : List Tok} (hl : bs.length ≤ 16384) (h : mScan bs = .ok ts) : TokG (bs.length : Int) ts := by
  rw [mScan_small hl] at h
  have hs := scans_of_ok h
  refine ⟨fun i x hx => ?_, (scans_tok hs).2⟩
  have h1 := (scans_at hs).1 x (List.mem_of_getElem? hx)
  have h2 := (scans_tok hs).1 x (List.mem_of_getElem? hx)
  exact ⟨h1.2.1, by omega, h2.1, h2.2⟩

/-! places -/
section
variable {N : Int} {ts : List Tok} (ht : TokG N ts)
include ht
theorem tokAt {i : Nat} (h : i < ts.length) : ∃ x, ts[i]? = some x := ⟨ts[i], List.getElem?_eq_getElem h⟩
theorem frE_of {i : Nat} {x : Tok} (h : ts[i]? = some x) : frE ts i = (x.a : Int) := by unfold frE; rw [h]
theorem behE_of {i : Nat} {x : Tok} (h : ts[i]? = some x) : behE ts (i + 1) = (x.b : Int) := by unfold behE; rw [Nat.add_sub_cancel, h]
theorem pfb {i j : Nat} (h : i < j) (hj : j ≤ ts.length) : frE ts i < behE ts j := by
  obtain ⟨x, hx⟩ := tokAt ht (i := i) (by omega)
  obtain ⟨j', rfl⟩ : ∃ j', j = j' + 1 := ⟨j - 1, by omega⟩
  obtain ⟨y, hy⟩ := tokAt ht (i := j') (by omega)
  rw [frE_of ht hx, behE_of ht hy]
  have h1 := (ht.own i x hx).1
  have h2 := (ht.own j' y hy).1
  rcases Nat.lt_or_ge i j' with h3 | h3
  · have := ht.ord i j' x y h3 hx hy; omega
  · have : i = j' := by omega
    subst this
    rw [hx] at hy; cases hy; omega
theorem pbf {j m : Nat} (h0 : 0 < j) (h : j ≤ m) (hm : m < ts.length) : behE ts j ≤ frE ts m := by
  obtain ⟨j', rfl⟩ : ∃ j', j = j' + 1 := ⟨j - 1, by omega⟩
  obtain ⟨x, hx⟩ := tokAt ht (i := j') (by omega)
  obtain ⟨y, hy⟩ := tokAt ht (i := m) hm
  rw [frE_of ht hy, behE_of ht hx]
  have := ht.ord j' m x y (by omega) hx hy
  omega
theorem pff {i m : Nat} (h : i ≤ m) (hm : m < ts.length) : frE ts i ≤ frE ts m := by
  rcases Nat.lt_or_ge i m with h1 | h1
  · have h2 := pfb ht (i := i) (j := i + 1) (by omega) (by omega)
    have h3 := pbf ht (j := i + 1) (m := m) (by omega) (by omega) hm
    omega
  · have : i = m := by omega
    subst this; exact Int.le_refl _
theorem pbb {j m : Nat} (h0 : 0 < j) (h : j ≤ m) (hm : m ≤ ts.length) : behE ts j ≤ behE ts m := by
  rcases Nat.lt_or_ge j m with h1 | h1
  · have h2 := pbf ht (j := j) (m := j) h0 (Nat.le_refl _) (by omega)
    have h3 := pfb ht (i := j) (j := m) h1 hm
    omega
  · have : j = m := by omega
    subst this; exact Int.le_refl _
theorem pf0 (i : Nat) : 0 ≤ frE ts i := by
  unfold frE; split <;> omega
theorem pbN {j : Nat} (h0 : 0 < j) (h : j ≤ ts.length) : behE ts j ≤ N := by
  obtain ⟨j', rfl⟩ : ∃ j', j = j' + 1 := ⟨j - 1, by omega⟩
  obtain ⟨x, hx⟩ := tokAt ht (i := j') (by omega)
  rw [behE_of ht hx]
  exact (ht.own j' x hx).2.1
theorem name_of {i : Nat} (h : of? ts i 1 = true) : mName (strE ts i) = true := by
  unfold of? at h
  unfold strE
  cases hx : ts[i]? with
  | none => rw [hx] at h; cases h
  | some x =>
    rw [hx] at h
    exact (ht.own i x hx).2.2.1 (by simpa using h)
theorem text_of {i : Nat} (h : of? ts i 4 = true) : (strE ts i).length ≤ 200 := by
  unfold of? at h
  unfold strE
  cases hx : ts[i]? with
  | none => rw [hx] at h; cases h
  | some x =>
    rw [hx] at h
    exact (ht.own i x hx).2.2.2 (by simpa using h)
end
theorem mName_len {s : List UInt8} (h : mName s = true) : s.length ≤ 32 := by
  cases s with
  | nil => simp
  | cons c r =>
    unfold mName at h
    simp only [Bool.and_eq_true, decide_eq_true_eq] at h
    exact h.1.1.1

/-! the places of the parts -/
mutual
def insE (N : Int) : Ex → Bool
  | .mk _ a b _ _ _ _ _ _ _ pats kids => decide (0 ≤ a) && decide (a < b) && decide (b ≤ N) && insL N b a (none :: pats.map some) kids
def insL (N b at_ : Int) (ops : List (Option Pa)) : List Ex → Bool
  | [] => true
  | k :: r => (match ops with
    | some p :: _ => decide (at_ ≤ p.fr) && decide (p.fr < p.to) && decide (p.to ≤ k.fr)
    | _ => decide (at_ ≤ k.fr)) && decide (k.to ≤ b) && insE N k && insL N b k.to ops.tail r
end
theorem insL_nil (N b x : Int) (o : List (Option Pa)) : insL N b x o [] = true := by rw [insL]
theorem insL_none (N b x : Int) (k : Ex) (r : List Ex) : insL N b x [] (k :: r) = (decide (x ≤ k.fr) && decide (k.to ≤ b) && insE N k && insL N b k.to [] r) := by
  rw [insL]
  · rfl
  · intro _ _ h; cases h
theorem insL_non1 (N b x : Int) (o : List (Option Pa)) (k : Ex) (r : List Ex) : insL N b x (none :: o) (k :: r) = (decide (x ≤ k.fr) && decide (k.to ≤ b) && insE N k && insL N b k.to o r) := by
  rw [insL]
  · rfl
  · intro _ _ h; cases h
theorem insL_some (N b x : Int) (p : Pa) (o : List (Option Pa)) (k : Ex) (r : List Ex) : insL N b x (some p :: o) (k :: r) = (decide (x ≤ p.fr) && decide (p.fr < p.to) && decide (p.to ≤ k.fr) && decide (k.to ≤ b) && insE N k && insL N b k.to o r) := by rw [insL]; rfl
theorem insE_facts {N : Int} {e : Ex} (h : insE N e = true) : 0 ≤ e.fr ∧ e.fr < e.to ∧ e.to ≤ N := by
  cases e
  rw [insE] at h
  simp only [Bool.and_eq_true, decide_eq_true_eq] at h
  exact ⟨h.1.1.1, h.1.1.2, h.1.2⟩
theorem check_mk (k a b : Int) (nm arg : List UInt8) (m : Int) (s : List UInt8) (op : Int) (A B : Ty) (pats : List Pa) (kids : List Ex) : mCheck (.mk k a b nm arg m s op A B pats kids) = (oneE (.mk k a b nm arg m s op A B pats kids) && kids.all mCheck) := by
  unfold mCheck
  rw [Ex.list, List.all_cons]
  congr 1
  induction kids with
  | nil => rfl
  | cons e r ih => rw [exsList, List.all_append, List.all_cons, ih]
/-- what is read from the token i to the token j -/
def GE (N : Int) (n : Nat) (ts : List Tok) (i j : Nat) (e : Ex) : Prop :=
  i < j ∧ j ≤ ts.length ∧ frE ts i ≤ e.fr ∧ e.to ≤ behE ts j ∧ insE N e = true ∧ mCheck e = true ∧ ExK n e
section
variable {N : Int} {n : Nat} {ts : List Tok} (ht : TokG N ts) (hn : 300 ≤ n)
include ht hn
theorem noTy_n : noTy.size ≤ n := by show Ty.size (.mk 0 0 []) ≤ n; rw [Ty.size, Ty.sizes]; omega
theorem g0 {i j : Nat} {k m op : Int} {nm s : List UInt8} (hij : i < j) (hj : j ≤ ts.length) (hnm : nm.length ≤ n) (hs : s.length ≤ n) (h1 : oneE (.mk k (frE ts i) (behE ts j) nm [] m s op noTy noTy [] []) = true) :
    GE N n ts i j (.mk k (frE ts i) (behE ts j) nm [] m s op noTy noTy [] []) := by
  refine ⟨hij, hj, Int.le_refl _, Int.le_refl _, ?_, ?_, ?_⟩
  · rw [insE, insL_nil]
    have h2 := pf0 ht i
    have h3 := pfb ht hij hj
    have h4 := pbN ht (j := j) (by omega) hj
    simp [h2, h3, h4]
  · rw [check_mk, h1]; rfl
  · exact .mk hnm (by simp) hs (noTy_n ht hn) (noTy_n ht hn) (by simp) (by simp) (fun _ h => by simp at h) (fun _ h => by simp at h)
theorem g_name {i : Nat} (h : of? ts i 1 = true) : GE N n ts i (i + 1) (eLeaf ts 1 i (strE ts i) 0 []) := by
  have h1 := name_of ht h
  have h2 := mName_len h1
  exact g0 ht hn (by omega) (ofl h) (by omega) (by simp) (by simp [oneE, shOf, k2, k4, k6, k8, k10, k12, k14, k16, Ex.kind, Ex.nm, Ex.arg, Ex.n, Ex.s, Ex.op, Ex.A, Ex.B, Ex.pats, Ex.kids, h1, mNone, Ty.leaf, Ty.kind, Ty.num, Ty.kids])
theorem g_num {i : Nat} (h : of? ts i 3 = true) (m : Int) : GE N n ts i (i + 1) (eLeaf ts 2 i [] m []) :=
  g0 ht hn (by omega) (ofl h) (by simp) (by simp) (by simp [oneE, shOf, k2, k4, k6, k8, k10, k12, k14, k16, Ex.kind, Ex.nm, Ex.arg, Ex.n, Ex.s, Ex.op, Ex.A, Ex.B, Ex.pats, Ex.kids, mNone, Ty.leaf, Ty.kind, Ty.num, Ty.kids])
theorem g_text {i : Nat} (h : of? ts i 4 = true) : GE N n ts i (i + 1) (eLeaf ts 4 i [] 0 (strE ts i)) := by
  have h1 := text_of ht h
  exact g0 ht hn (by omega) (ofl h) (by simp) (by omega) (by simp [oneE, shOf, k2, k4, k6, k8, k10, k12, k14, k16, Ex.kind, Ex.nm, Ex.arg, Ex.n, Ex.s, Ex.op, Ex.A, Ex.B, Ex.pats, Ex.kids, mNone, Ty.leaf, Ty.kind, Ty.num, Ty.kids, h1]; try exact decide_eq_false (by omega))
theorem g_bool {i : Nat} {s : List UInt8} (h : at? ts i 2 s = true) {m : Int} (hm : m = 0 ∨ m = 1) : GE N n ts i (i + 1) (eLeaf ts 3 i [] m []) :=
  g0 ht hn (by omega) (atl h) (by simp) (by simp) (by rcases hm with rfl | rfl <;> simp [oneE, shOf, k2, k4, k6, k8, k10, k12, k14, k16, Ex.kind, Ex.nm, Ex.arg, Ex.n, Ex.s, Ex.op, Ex.A, Ex.B, Ex.pats, Ex.kids, mNone, Ty.leaf, Ty.kind, Ty.num, Ty.kids])
theorem g_void {i : Nat} {s : List UInt8} (h : at? ts (i + 1) 5 s = true) {k : Int} (hk : k = 5 ∨ k = 7) : GE N n ts i (i + 1 + 1) (.mk k (frE ts i) (behE ts (i + 1 + 1)) [] [] 0 [] 0 noTy noTy [] []) :=
  g0 ht hn (by omega) (atl h) (by simp) (by simp) (by rcases hk with rfl | rfl <;> simp [oneE, shOf, k2, k4, k6, k8, k10, k12, k14, k16, Ex.kind, Ex.nm, Ex.arg, Ex.n, Ex.s, Ex.op, Ex.A, Ex.B, Ex.pats, Ex.kids, mNone, Ty.leaf, Ty.kind, Ty.num, Ty.kids])
/-- a node over one, two, three kids; it begins at the token i0 and ends with the token before l -/
theorem gk1 {i0 i l m : Nat} {k fr tq m' op : Int} {nm arg : List UInt8} {A B : Ty} {a : Ex} (ha : GE N n ts i l a) (hi : i0 ≤ i) (hl : l ≤ m) (hm : m ≤ ts.length) (hfr : frE ts i0 ≤ fr) (hfr2 : fr ≤ frE ts i) (hto : a.to ≤ tq) (hto2 : tq ≤ behE ts m) (hnm : nm.length ≤ n) (harg : arg.length ≤ n) (hA : A.size ≤ n) (hB : B.size ≤ n)
    (h1 : oneE (.mk k fr tq nm arg m' [] op A B [] [a]) = true) : GE N n ts i0 m (.mk k fr tq nm arg m' [] op A B [] [a]) := by
  obtain ⟨a1, a2, a3, a4, a5, a6, a7⟩ := ha
  obtain ⟨c1, c2, c3⟩ := insE_facts a5
  have h4 := pbN ht (j := m) (by omega) hm
  have h5 := pf0 ht i0
  refine ⟨by omega, hm, hfr, hto2, ?_, ?_, ?_⟩
  · rw [insE, List.map_nil, insL_non1, insL_nil]
    simp [a5, show 0 ≤ fr by omega, show fr < tq by omega, show tq ≤ N by omega, show fr ≤ a.fr by omega, hto]
  · rw [check_mk, h1]; simp [a6]
  · exact .mk hnm harg (by simp) hA hB (by simp) (by simp; omega) (fun _ h => by simp at h) (fun x h => by simp at h; rw [h]; exact a7)
theorem gk2 {i0 i j i2 l m : Nat} {k fr tq m' op : Int} {nm arg : List UInt8} {A B : Ty} {a b : Ex} (ha : GE N n ts i j a) (hb : GE N n ts i2 l b) (hj : j ≤ i2) (hi : i0 ≤ i) (hl : l ≤ m) (hm : m ≤ ts.length) (hfr : frE ts i0 ≤ fr) (hfr2 : fr ≤ a.fr) (hto : b.to ≤ tq) (hto2 : tq ≤ behE ts m) (hnm : nm.length ≤ n) (harg : arg.length ≤ n) (hA : A.size ≤ n) (hB : B.size ≤ n)
    (h1 : oneE (.mk k fr tq nm arg m' [] op A B [] [a, b]) = true) : GE N n ts i0 m (.mk k fr tq nm arg m' [] op A B [] [a, b]) := by
  obtain ⟨a1, a2, a3, a4, a5, a6, a7⟩ := ha
  obtain ⟨b1, b2, b3, b4, b5, b6, b7⟩ := hb
  obtain ⟨c1, c2, c3⟩ := insE_facts a5
  obtain ⟨d1, d2, d3⟩ := insE_facts b5
  have h4 := pbN ht (j := m) (by omega) hm
  have h5 := pf0 ht i0
  have h6 := pbf ht (j := j) (m := i2) (by omega) hj (by omega)
  refine ⟨by omega, hm, hfr, hto2, ?_, ?_, ?_⟩
  · rw [insE, List.map_nil, insL_non1, insL_none, insL_nil]
    simp [a5, b5, show 0 ≤ fr by omega, show fr < tq by omega, show tq ≤ N by omega, show fr ≤ a.fr by omega, show a.to ≤ tq by omega, show a.to ≤ b.fr by omega, hto]
  · rw [check_mk, h1]; simp [a6, b6]
  · exact .mk hnm harg (by simp) hA hB (by simp) (by simp; omega) (fun _ h => by simp at h) (fun x h => by simp at h; rcases h with rfl | rfl <;> assumption)
theorem g_two {i j m k : Nat} {kd op : Int} {a b : Ex} (ha : GE N n ts i j a) (hb : GE N n ts m k b) (hjm : j ≤ m) (h1 : oneE (eTwo kd op a b) = true) : GE N n ts i k (eTwo kd op a b) :=
  gk2 ht hn ha hb hjm (Nat.le_refl _) (Nat.le_refl _) hb.2.1 ha.2.2.1 (Int.le_refl _) (Int.le_refl _) hb.2.2.2.1 (by simp) (by simp) (noTy_n ht hn) (noTy_n ht hn) h1
theorem one_two {kd op : Int} {a b : Ex} (h : ((kd = 8 ∨ kd = 10) ∧ op = 0) ∨ (kd = 16 ∧ 1 ≤ op ∧ op ≤ 7)) : oneE (eTwo kd op a b) = true := by
  rcases h with ⟨rfl | rfl, rfl⟩ | ⟨rfl, h1, h2⟩
  · simp [oneE, eTwo, shOf, k2, k4, k6, k8, k10, k12, k14, k16, Ex.kind, Ex.nm, Ex.arg, Ex.n, Ex.s, Ex.op, Ex.A, Ex.B, Ex.pats, Ex.kids, mNone, Ty.leaf, Ty.kind, Ty.num, Ty.kids]
  · simp [oneE, eTwo, shOf, k2, k4, k6, k8, k10, k12, k14, k16, Ex.kind, Ex.nm, Ex.arg, Ex.n, Ex.s, Ex.op, Ex.A, Ex.B, Ex.pats, Ex.kids, mNone, Ty.leaf, Ty.kind, Ty.num, Ty.kids]
  · simp [oneE, eTwo, shOf, k2, k4, k6, k8, k10, k12, k14, k16, Ex.kind, Ex.nm, Ex.arg, Ex.n, Ex.s, Ex.op, Ex.A, Ex.B, Ex.pats, Ex.kids, mNone, Ty.leaf, Ty.kind, Ty.num, Ty.kids, h1, h2]
    exact ⟨decide_eq_false (by omega), decide_eq_false (by omega)⟩
theorem g_up {i j : Nat} {a : Ex} (ha : GE N n ts (i + 1) j a) (h : at? ts j 5 [41] = true) : GE N n ts i (j + 1) a := by
  have hj := atl h
  obtain ⟨a1, a2, a3, a4, a5, a6, a7⟩ := ha
  have := pff ht (i := i) (m := i + 1) (by omega) (by omega)
  have := pbb ht (j := j) (m := j + 1) (by omega) (by omega) (by omega)
  exact ⟨by omega, by omega, by omega, by omega, a5, a6, a7⟩
theorem g_pair {i j k : Nat} {a b : Ex} (ha : GE N n ts (i + 1) j a) (hb : GE N n ts (j + 1) k b) (h : at? ts k 5 [41] = true) : GE N n ts i (k + 1) (.mk 6 (frE ts i) (behE ts (k + 1)) [] [] 0 [] 0 noTy noTy [] [a, b]) := by
  have hk := atl h
  have h1 := ha.2.2.1
  have h2 := hb.2.2.2.1
  have a1 := ha.1
  have b1 := hb.1
  have := pff ht (i := i) (m := i + 1) (by omega) (by omega)
  have := pbb ht (j := k) (m := k + 1) (by omega) (by omega) (by omega)
  exact gk2 ht hn ha hb (by omega) (by omega) (by omega) (by omega) (Int.le_refl _) (by omega) (by omega) (Int.le_refl _) (by simp) (by simp) (noTy_n ht hn) (noTy_n ht hn)
    (by simp [oneE, eTwo, shOf, k2, k4, k6, k8, k10, k12, k14, k16, Ex.kind, Ex.nm, Ex.arg, Ex.n, Ex.s, Ex.op, Ex.A, Ex.B, Ex.pats, Ex.kids, mNone, Ty.leaf, Ty.kind, Ty.num, Ty.kids])
theorem g_asc {i j k : Nat} {a : Ex} {t : Ty} (ha : GE N n ts (i + 1) j a) (hjk : j ≤ k) (hc : CL t) (hs : t.size ≤ n) (h : at? ts k 5 [41] = true) : GE N n ts i (k + 1) (.mk 15 (frE ts i) (behE ts (k + 1)) [] [] 0 [] 0 t noTy [] [a]) := by
  have hk := atl h
  have h1 := ha.2.2.1
  have h2 := ha.2.2.2.1
  have a1 := ha.1
  obtain ⟨c1, c2⟩ := hc.ann
  have := pff ht (i := i) (m := i + 1) (by omega) (by omega)
  have := pbb ht (j := j) (m := k + 1) (by omega) (by omega) (by omega)
  refine gk1 ht hn ha (by omega) (by omega) (by omega) (Int.le_refl _) (by omega) (by omega) (Int.le_refl _) (by simp) (by simp) hs (noTy_n ht hn) ?_
  have c3 : mNone noTy = true := by decide
  simp [oneE, eTwo, shOf, k2, k4, k6, k8, k10, k12, k14, k16, Ex.kind, Ex.nm, Ex.arg, Ex.n, Ex.s, Ex.op, Ex.A, Ex.B, Ex.pats, Ex.kids, c1, c2, c3]
theorem g_let {i0 i j k m : Nat} {a b : Ex} {s : List UInt8} {t : Ty} (ha : GE N n ts i j a) (hb : GE N n ts k m b) (hi : i0 ≤ i) (hjk : j ≤ k) (hs : mName s = true) (hA : AnnOK n t) : GE N n ts i0 m (.mk 11 (frE ts i0) b.to s [] 0 [] 0 t noTy [] [a, b]) := by
  have h1 := ha.2.2.1
  have a1 := ha.1
  have a2 := ha.2.1
  have := pff ht (i := i0) (m := i) hi (by omega)
  have := mName_len hs
  refine gk2 ht hn ha hb hjk hi (Nat.le_refl _) hb.2.1 (Int.le_refl _) (by omega) (Int.le_refl _) hb.2.2.2.1 (by omega) (by simp) hA.2 (noTy_n ht hn) ?_
  have c3 : mNone noTy = true := by decide
  rcases hA.1 with c1 | ⟨c1, c2⟩
  · simp [oneE, eTwo, shOf, k2, k4, k6, k8, k10, k12, k14, k16, Ex.kind, Ex.nm, Ex.arg, Ex.n, Ex.s, Ex.op, Ex.A, Ex.B, Ex.pats, Ex.kids, c1, c3, hs]
  · simp [oneE, eTwo, shOf, k2, k4, k6, k8, k10, k12, k14, k16, Ex.kind, Ex.nm, Ex.arg, Ex.n, Ex.s, Ex.op, Ex.A, Ex.B, Ex.pats, Ex.kids, c1, c2, c3, hs]
theorem g_rec {i0 i j k m : Nat} {a b : Ex} {s g : List UInt8} {t u : Ty} (ha : GE N n ts i j a) (hb : GE N n ts k m b) (hi : i0 ≤ i) (hjk : j ≤ k) (hs : mName s = true) (hg : mName g = true) (hA : AnnOK n t) (hB : AnnOK n u) : GE N n ts i0 m (.mk 12 (frE ts i0) b.to s g 0 [] 0 t u [] [a, b]) := by
  have h1 := ha.2.2.1
  have a1 := ha.1
  have a2 := ha.2.1
  have := pff ht (i := i0) (m := i) hi (by omega)
  have := mName_len hs
  have := mName_len hg
  refine gk2 ht hn ha hb hjk hi (Nat.le_refl _) hb.2.1 (Int.le_refl _) (by omega) (Int.le_refl _) hb.2.2.2.1 (by omega) (by omega) hA.2 hB.2 ?_
  rcases hA.1 with c1 | ⟨c1, c2⟩ <;> rcases hB.1 with d1 | ⟨d1, d2⟩ <;> simp [oneE, eTwo, shOf, k2, k4, k6, k8, k10, k12, k14, k16, Ex.kind, Ex.nm, Ex.arg, Ex.n, Ex.s, Ex.op, Ex.A, Ex.B, Ex.pats, Ex.kids, *]
theorem g_fun {i0 i m : Nat} {b : Ex} {s : List UInt8} {t : Ty} (hb : GE N n ts i m b) (hi : i0 ≤ i) (hs : mName s = true) (hA : AnnOK n t) : GE N n ts i0 m (.mk 9 (frE ts i0) b.to s [] 0 [] 0 t noTy [] [b]) := by
  have a1 := hb.1
  have a2 := hb.2.1
  have := pff ht (i := i0) (m := i) hi (by omega)
  have := mName_len hs
  refine gk1 ht hn hb hi (Nat.le_refl _) hb.2.1 (Int.le_refl _) (by omega) (Int.le_refl _) hb.2.2.2.1 (by omega) (by simp) hA.2 (noTy_n ht hn) ?_
  have c3 : mNone noTy = true := by decide
  rcases hA.1 with c1 | ⟨c1, c2⟩
  · simp [oneE, eTwo, shOf, k2, k4, k6, k8, k10, k12, k14, k16, Ex.kind, Ex.nm, Ex.arg, Ex.n, Ex.s, Ex.op, Ex.A, Ex.B, Ex.pats, Ex.kids, c1, c3, hs]
  · simp [oneE, eTwo, shOf, k2, k4, k6, k8, k10, k12, k14, k16, Ex.kind, Ex.nm, Ex.arg, Ex.n, Ex.s, Ex.op, Ex.A, Ex.B, Ex.pats, Ex.kids, c1, c2, c3, hs]
theorem g_if {i0 i j k l m o : Nat} {a b c : Ex} (ha : GE N n ts i j a) (hb : GE N n ts k l b) (hc : GE N n ts m o c) (hi : i0 ≤ i) (hjk : j ≤ k) (hlm : l ≤ m) : GE N n ts i0 o (.mk 13 (frE ts i0) c.to [] [] 0 [] 0 noTy noTy [] [a, b, c]) := by
  obtain ⟨a1, a2, a3, a4, a5, a6, a7⟩ := ha
  obtain ⟨b1, b2, b3, b4, b5, b6, b7⟩ := hb
  obtain ⟨e1, e2, e3, e4, e5, e6, e7⟩ := hc
  obtain ⟨c1, c2, c3⟩ := insE_facts a5
  obtain ⟨d1, d2, d3⟩ := insE_facts b5
  obtain ⟨f1, f2, f3⟩ := insE_facts e5
  have h5 := pf0 ht i0
  have := pff ht (i := i0) (m := i) hi (by omega)
  have h6 := pbf ht (j := j) (m := k) (by omega) hjk (by omega)
  have h7 := pbf ht (j := l) (m := m) (by omega) hlm (by omega)
  refine ⟨by omega, e2, Int.le_refl _, e4, ?_, ?_, ?_⟩
  · rw [insE, List.map_nil, insL_non1, insL_none, insL_none, insL_nil]
    simp [a5, b5, e5, h5, show frE ts i0 < c.to by omega, f3, show frE ts i0 ≤ a.fr by omega, show a.to ≤ c.to by omega, show a.to ≤ b.fr by omega, show b.to ≤ c.to by omega, show b.to ≤ c.fr by omega]
  · rw [check_mk]
    have c3 : mNone noTy = true := by decide
    simp [a6, b6, e6, oneE, eTwo, shOf, k2, k4, k6, k8, k10, k12, k14, k16, Ex.kind, Ex.nm, Ex.arg, Ex.n, Ex.s, Ex.op, Ex.A, Ex.B, Ex.pats, Ex.kids, c3]
  · exact .mk (by simp) (by simp) (by simp) (noTy_n ht hn) (noTy_n ht hn) (by simp) (by simp; omega) (fun _ h => by simp at h) (fun x h => by simp at h; rcases h with rfl | rfl | rfl <;> assumption)
end

/-! patterns -/
/-- what is read of a pattern; s, s': the names that were seen before and behind -/
def GP (n : Nat) (ts : List Tok) (i j : Nat) (s s' : List (List UInt8)) (p : Pa) : Prop :=
  i < j ∧ j ≤ ts.length ∧ frE ts i ≤ p.fr ∧ p.to ≤ behE ts j ∧ p.fr < p.to ∧ runL contP stepP s p.list = (true, s') ∧ PaK n p
section
variable {N : Int} {n : Nat} {ts : List Tok} (ht : TokG N ts) (hn : 300 ≤ n)
include ht hn
theorem p0 {i j : Nat} {k m : Int} {nm s : List UInt8} {sn : List (List UInt8)} (hij : i < j) (hj : j ≤ ts.length) (hk : k ≠ 2) (hnm : nm.length ≤ n) (hs : s.length ≤ n) (h1 : okPa (.mk k (frE ts i) (behE ts j) nm m s []) = true) :
    GP n ts i j sn sn (.mk k (frE ts i) (behE ts j) nm m s []) := by
  refine ⟨hij, hj, Int.le_refl _, Int.le_refl _, pfb ht hij hj, ?_, .mk hnm hs (by simp) (fun _ h => by simp at h)⟩
  have h2 : contP sn (.mk k (frE ts i) (behE ts j) nm m s []) = true := by
    unfold contP; rw [h1]; simp [Pa.kind, hk]
  have h3 : stepP sn (.mk k (frE ts i) (behE ts j) nm m s []) = sn := by
    unfold stepP; simp [Pa.kind, hk]
  rw [Pa.list, runL, h2]
  show runL contP stepP (stepP sn _) (pasList []) = _
  rw [h3, pasList, runL]
theorem p_name {i : Nat} {sn : List (List UInt8)} (h : of? ts i 1 = true) (hc : sn.contains (strE ts i) = false) : GP n ts i (i + 1) sn (sn ++ [strE ts i]) (qLeafP ts 2 i (strE ts i) 0 []) := by
  have h0 := name_of ht h
  have hl := mName_len h0
  have h1 : okPa (qLeafP ts 2 i (strE ts i) 0 []) = true := by simp [okPa, paSh, qLeafP, Pa.kind, Pa.nm, Pa.n, Pa.s, Pa.kids, h0]
  have h2 : contP sn (qLeafP ts 2 i (strE ts i) 0 []) = true := by
    unfold contP; rw [h1]; simp only [qLeafP, Pa.nm, hc]; simp
  have h3 : stepP sn (qLeafP ts 2 i (strE ts i) 0 []) = sn ++ [strE ts i] := by
    unfold stepP; rw [h2]; simp [qLeafP, Pa.kind, Pa.nm]
  refine ⟨by omega, ofl h, Int.le_refl _, Int.le_refl _, pfb ht (by omega) (ofl h), ?_, .mk (by omega) (by simp) (by simp) (fun _ h => by simp at h)⟩
  show runL contP stepP sn (Pa.mk 2 (frE ts i) (behE ts (i + 1)) (strE ts i) 0 [] []).list = _
  rw [Pa.list, runL]
  show (match contP sn (qLeafP ts 2 i (strE ts i) 0 []) with | true => runL contP stepP (stepP sn (qLeafP ts 2 i (strE ts i) 0 [])) (pasList []) | false => _) = _
  rw [h2, h3, pasList]
  rfl
theorem p_two {i0 i j i2 l m : Nat} {k fr tq : Int} {s0 s1 s2 : List (List UInt8)} {a b : Pa} (hk : k = 7 ∨ k = 9) (ha : GP n ts i j s0 s1 a) (hb : GP n ts i2 l s1 s2 b) (hj : j ≤ i2) (hi : i0 ≤ i) (hl : l ≤ m) (hm : m ≤ ts.length) (hfr : frE ts i0 ≤ fr) (hfr2 : fr ≤ a.fr) (hto : b.to ≤ tq) (hto2 : tq ≤ behE ts m) :
    GP n ts i0 m s0 s2 (.mk k fr tq [] 0 [] [a, b]) := by
  obtain ⟨a1, a2, a3, a4, a5, a6, a7⟩ := ha
  obtain ⟨b1, b2, b3, b4, b5, b6, b7⟩ := hb
  have h6 := pbf ht (j := j) (m := i2) (by omega) hj (by omega)
  have h1 : okPa (.mk k fr tq [] 0 [] [a, b]) = true := by rcases hk with rfl | rfl <;> simp [okPa, paSh, Pa.kind, Pa.nm, Pa.n, Pa.s, Pa.kids]
  have h2 : contP s0 (.mk k fr tq [] 0 [] [a, b]) = true := by
    unfold contP; rw [h1]; rcases hk with rfl | rfl <;> simp [Pa.kind]
  have h3 : stepP s0 (.mk k fr tq [] 0 [] [a, b]) = s0 := by
    unfold stepP; rcases hk with rfl | rfl <;> simp [Pa.kind]
  refine ⟨by omega, hm, hfr, hto2, (by show fr < tq; omega), ?_, .mk (by simp) (by simp) (by simp; omega) (fun x h => by simp at h; rcases h with rfl | rfl <;> assumption)⟩
  rw [Pa.list, runL, h2]
  show runL contP stepP (stepP s0 _) (pasList [a, b]) = _
  rw [h3, pasList, pasList, pasList, List.append_nil, runL_append, a6]
  exact b6
theorem p_up {i j : Nat} {s s' : List (List UInt8)} {a : Pa} (ha : GP n ts (i + 1) j s s' a) (h : at? ts j 5 [41] = true) : GP n ts i (j + 1) s s' a := by
  have hj := atl h
  obtain ⟨a1, a2, a3, a4, a5, a6, a7⟩ := ha
  have := pff ht (i := i) (m := i + 1) (by omega) (by omega)
  have := pbb ht (j := j) (m := j + 1) (by omega) (by omega) (by omega)
  exact ⟨by omega, by omega, by omega, by omega, a5, a6, a7⟩
theorem p_pair {i j k : Nat} {s0 s1 s2 : List (List UInt8)} {a b : Pa} (ha : GP n ts (i + 1) j s0 s1 a) (hb : GP n ts (j + 1) k s1 s2 b) (h : at? ts k 5 [41] = true) : GP n ts i (k + 1) s0 s2 (.mk 7 (frE ts i) (behE ts (k + 1)) [] 0 [] [a, b]) := by
  have hk := atl h
  have h1 := ha.2.2.1
  have h2 := hb.2.2.2.1
  have a1 := ha.1
  have b1 := hb.1
  have := pff ht (i := i) (m := i + 1) (by omega) (by omega)
  have := pbb ht (j := k) (m := k + 1) (by omega) (by omega) (by omega)
  exact p_two ht hn (.inl rfl) ha hb (by omega) (by omega) (by omega) (by omega) (Int.le_refl _) (by omega) (by omega) (Int.le_refl _)
theorem p_cons {i j k : Nat} {s0 s1 s2 : List (List UInt8)} {a b : Pa} (ha : GP n ts i j s0 s1 a) (hb : GP n ts (j + 1) k s1 s2 b) : GP n ts i k s0 s2 (.mk 9 a.fr b.to [] 0 [] [a, b]) :=
  p_two ht hn (.inr rfl) ha hb (by omega) (Nat.le_refl _) (Nat.le_refl _) hb.2.1 ha.2.2.1 (Int.le_refl _) (Int.le_refl _) hb.2.2.2.1
end

/-! the arms of a match -/
inductive Ch (N : Int) : Int → List (Pa × Ex) → Int → Prop
  | nil (x : Int) : Ch N x [] x
  | cons {x y : Int} {p : Pa} {k : Ex} {r : List (Pa × Ex)} : x ≤ p.fr → p.fr < p.to → p.to ≤ k.fr → insE N k = true → Ch N k.to r y → Ch N x ((p, k) :: r) y
theorem Ch.snoc {N x y : Int} {l : List (Pa × Ex)} (h : Ch N x l y) {p : Pa} {k : Ex} (h1 : y ≤ p.fr) (h2 : p.fr < p.to) (h3 : p.to ≤ k.fr) (h4 : insE N k = true) : Ch N x (l ++ [(p, k)]) k.to := by
  induction h with
  | nil x => exact .cons h1 h2 h3 h4 (.nil _)
  | cons a b c d _ ih => exact .cons a b c d (ih h1)
theorem Ch.le {N x y : Int} {l : List (Pa × Ex)} (h : Ch N x l y) : x ≤ y := by
  induction h with
  | nil x => exact Int.le_refl _
  | cons a b c d _ ih => have := insE_facts d; omega
theorem Ch.ins {N x y b : Int} {l : List (Pa × Ex)} (h : Ch N x l y) (hb : y ≤ b) : insL N b x (l.map fun q => some q.1) (l.map (·.2)) = true := by
  induction h with
  | nil x => rw [List.map_nil, List.map_nil, insL_nil]
  | cons h1 h2 h3 h4 h5 ih =>
    have := h5.le
    rw [List.map_cons, List.map_cons, insL_some]
    simp only [ih hb, h4]
    simp [h1, h2, h3, Int.le_trans this hb]

end Go.Proofs.Ytlagglkpbnbmeaa
