/- The plain law of NoteUnlike: texts of right types differ if the types do. No program in sight. -/
import Derived.Test.YtccdnmjijakofaaDoorPX
namespace Go.Proofs.YtccdnmjijakofaaDoor

mutual
theorem mSame_refl : ∀ t : Ty, mSame t t = true
  | .mk k n ks => by
    rw [mSame]
    show (decide (k = k) && decide (n = n) && mSames ks ks) = true
    rw [decide_eq_true rfl, decide_eq_true rfl, mSames_refl ks]; rfl
theorem mSames_refl : ∀ l : List Ty, mSames l l = true
  | [] => by rw [mSames]
  | t :: r => by rw [mSames, mSame_refl t, mSames_refl r]; rfl
end
mutual
theorem mSame_of : ∀ (a b : Ty), mSame a b = true → a = b
  | .mk k n ks, .mk k' n' ks' => by
    intro h
    rw [mSame, Bool.and_eq_true, Bool.and_eq_true, decide_eq_true_eq, decide_eq_true_eq] at h
    obtain ⟨⟨h1, h2⟩, h3⟩ := h
    have h1' : k = k' := h1
    have h2' : n = n' := h2
    have h4 := mSames_of ks ks' h3
    rw [h1', h2', h4]
theorem mSames_of : ∀ (a b : List Ty), mSames a b = true → a = b
  | [], [], _ => rfl
  | [], _ :: _, h => by rw [mSames] at h; cases h
  | _ :: _, [], h => by rw [mSames] at h; cases h
  | x :: r, y :: s, h => by
    rw [mSames, Bool.and_eq_true] at h
    rw [mSame_of x y h.1, mSames_of r s h.2]
end

def wordy (c : UInt8) : Bool := c != 32 && c != 40 && c != 41
def Stp1 (r : List UInt8) : Prop := r = [] ∨ ∃ c q, r = c :: q ∧ (c = 32 ∨ c = 41)
def Stp2 (r : List UInt8) : Prop := r = [] ∨ ∃ q, r = 41 :: q
theorem Stp2.one {r : List UInt8} (h : Stp2 r) : Stp1 r := by
  rcases h with h | ⟨q, h⟩
  · exact .inl h
  · exact .inr ⟨41, q, h, .inr rfl⟩
theorem Stp1.no {r : List UInt8} {c : UInt8} {q : List UInt8} (h : Stp1 r) (hr : r = c :: q) (hw : wordy c = true) : False := by
  rcases h with h | ⟨c', q', h, hc⟩
  · rw [h] at hr; cases hr
  · rw [h] at hr
    cases hr
    rcases hc with rfl | rfl <;> exact absurd hw (by decide)
theorem word_split : ∀ (u v r s : List UInt8), u.all wordy = true → v.all wordy = true → Stp1 r → Stp1 s → u ++ r = v ++ s → u = v ∧ r = s
  | [], [], r, s, _, _, _, _, h => ⟨rfl, h⟩
  | [], c :: v, r, s, _, hv, hr, _, h => by
    rw [List.all_cons, Bool.and_eq_true] at hv
    exact (hr.no h hv.1).elim
  | c :: u, [], r, s, hu, _, _, hs, h => by
    rw [List.all_cons, Bool.and_eq_true] at hu
    exact (hs.no h.symm hu.1).elim
  | c :: u, c' :: v, r, s, hu, hv, hr, hs, h => by
    rw [List.all_cons, Bool.and_eq_true] at hu hv
    rw [List.cons_append, List.cons_append, List.cons.injEq] at h
    obtain ⟨h1, h2⟩ := word_split u v r s hu.2 hv.2 hr hs h.2
    exact ⟨by rw [h.1, h1], h2⟩

/-- a type without kids -/
inductive LeafTy : Ty → Prop
  | int : LeafTy (.leaf 1)
  | bool : LeafTy (.leaf 2)
  | str : LeafTy (.leaf 3)
  | unit : LeafTy (.leaf 4)
  | dyn : LeafTy (.leaf 5)
  | var (n : Int) : 0 ≤ n → n ≤ 1048576 → LeafTy (.mk 6 n [])
/-- the text of one with kids: its first kid's, a space, and more -/
inductive CompTy : Ty → Ty → List UInt8 → Prop
  | pair (a b : Ty) : RightTy a → RightTy b → CompTy (.two 7 a b) a ([42, 32] ++ mKid b)
  | list (a : Ty) : RightTy a → CompTy (.one 8 a) a [108, 105, 115, 116]
  | func (a b : Ty) : RightTy a → RightTy b → CompTy (.two 9 a b) a ([45, 62, 32] ++ mKid b)
theorem right_split {t : Ty} (h : RightTy t) : LeafTy t ∨ ∃ x q, CompTy t x q := by
  cases h with
  | int => exact .inl .int
  | bool => exact .inl .bool
  | str => exact .inl .str
  | unit => exact .inl .unit
  | dyn => exact .inl .dyn
  | var n h1 h2 => exact .inl (.var n h1 h2)
  | pair a b ha hb => exact .inr ⟨_, _, .pair a b ha hb⟩
  | list a ha => exact .inr ⟨_, _, .list a ha⟩
  | func a b ha hb => exact .inr ⟨_, _, .func a b ha hb⟩
theorem CompTy.right {t x : Ty} {q : List UInt8} (h : CompTy t x q) : RightTy x := by cases h <;> assumption
theorem CompTy.txt {t x : Ty} {q : List UInt8} (h : CompTy t x q) : mTxt t = mKid x ++ 32 :: q := by
  cases h with
  | pair a b => rw [mTxt_pair]; simp
  | list a => rw [mTxt_list]
  | func a b => rw [mTxt_fun]; simp
theorem CompTy.kid {t x : Ty} {q : List UInt8} (h : CompTy t x q) : mKid t = 40 :: (mTxt t ++ [41]) := by
  rw [mKid_eq]
  cases h <;> rfl
theorem LeafTy.kid {t : Ty} (h : LeafTy t) : mKid t = mTxt t := by
  rw [mKid_eq]
  cases h <;> rfl
theorem dig_wordy {l : List UInt8} (h : l.all isDig = true) : l.all wordy = true := by
  rw [List.all_eq_true] at h ⊢
  intro c hc
  have := h c hc
  unfold isDig at this
  simp only [Bool.and_eq_true, decide_eq_true_eq] at this
  unfold wordy
  have n32 : c ≠ 32 := by rintro rfl; revert this; decide
  have n40 : c ≠ 40 := by rintro rfl; revert this; decide
  have n41 : c ≠ 41 := by rintro rfl; revert this; decide
  simp [n32, n40, n41]
theorem mNum_pos {n : Int} (h : 0 ≤ n) : mNum n = mDigits n.natAbs := by rw [mNum, if_neg (by omega)]
theorem LeafTy.wordy {t : Ty} (h : LeafTy t) : (mTxt t).all Go.Proofs.YtccdnmjijakofaaDoor.wordy = true ∧ mTxt t ≠ [] := by
  cases h with
  | int => rw [mTxt_1]; decide
  | bool => rw [mTxt_2]; decide
  | str => rw [mTxt_3]; decide
  | unit => rw [mTxt_4]; decide
  | dyn => rw [mTxt_5]; decide
  | var n h1 h2 =>
    rw [mTxt_var, List.all_cons, mNum_pos h1, dig_wordy (mDigits_dig _)]
    exact ⟨by decide, by simp⟩
theorem LeafTy.inj {a b : Ty} (ha : LeafTy a) (hb : LeafTy b) (h : mTxt a = mTxt b) : a = b := by
  cases ha with
  | var n h1 h2 =>
    cases hb with
    | var m h3 h4 =>
      rw [mTxt_var, mTxt_var, mNum_pos h1, mNum_pos h3, List.cons.injEq] at h
      have e1 := mDigits_val (u := n.natAbs) (by rw [pow20]; omega)
      have e2 := mDigits_val (u := m.natAbs) (by rw [pow20]; omega)
      rw [h.2, e2] at e1
      have : n = m := by omega
      rw [this]
    | _ => simp [mTxt_var, mTxt_1, mTxt_2, mTxt_3, mTxt_4, mTxt_5, tkInt, tkBool, tkString, tkUnit] at h
  | _ =>
    cases hb <;> first | rfl | (simp [mTxt_var, mTxt_1, mTxt_2, mTxt_3, mTxt_4, mTxt_5, tkInt, tkBool, tkString, tkUnit] at h)
theorem leaf_comp {a x : Ty} {r q : List UInt8} (ha : LeafTy a) (hx : RightTy x) (hr : Stp2 r) (h : mTxt a ++ r = mKid x ++ 32 :: q) : False := by
  obtain ⟨h1, h2⟩ := ha.wordy
  rcases right_split hx with hl | ⟨y, p, hc⟩
  · rw [hl.kid] at h
    obtain ⟨_, e⟩ := word_split _ _ _ _ h1 hl.wordy.1 hr.one (.inr ⟨32, q, rfl, .inl rfl⟩) h
    rcases hr with e2 | ⟨p, e2⟩ <;> rw [e2] at e <;> cases e
  · rw [hc.kid] at h
    cases hm : mTxt a with
    | nil => exact h2 hm
    | cons c u =>
      rw [hm, List.all_cons, Bool.and_eq_true] at h1
      rw [hm] at h
      simp only [List.cons_append, List.cons.injEq] at h
      rw [h.1] at h1
      exact absurd h1.1 (by decide)
def InjT (a : Ty) : Prop := ∀ b, RightTy b → ∀ r s, Stp2 r → Stp2 s → mTxt a ++ r = mTxt b ++ s → a = b ∧ r = s
theorem kid_inj {a b : Ty} (ha : RightTy a) (hb : RightTy b) (hq : InjT a) {r s : List UInt8} (hr : Stp1 r) (hs : Stp1 s) (h : mKid a ++ r = mKid b ++ s) : a = b ∧ r = s := by
  have mix : ∀ {a b x : Ty} {p r s : List UInt8}, LeafTy a → CompTy b x p → mKid a ++ r = mKid b ++ s → False := by
    intro a b x p r s ha hb h
    obtain ⟨h1, h2⟩ := ha.wordy
    rw [ha.kid, hb.kid] at h
    cases hm : mTxt a with
    | nil => exact h2 hm
    | cons c u =>
      rw [hm, List.all_cons, Bool.and_eq_true] at h1
      rw [hm] at h
      simp only [List.cons_append, List.cons.injEq] at h
      rw [h.1] at h1
      exact absurd h1.1 (by decide)
  rcases right_split ha with la | ⟨x, p, ca⟩
  · rcases right_split hb with lb | ⟨y, p2, cb⟩
    · rw [la.kid, lb.kid] at h
      obtain ⟨e1, e2⟩ := word_split _ _ _ _ la.wordy.1 lb.wordy.1 hr hs h
      exact ⟨la.inj lb e1, e2⟩
    · exact (mix la cb h).elim
  · rcases right_split hb with lb | ⟨y, p2, cb⟩
    · exact (mix lb ca h.symm).elim
    · rw [ca.kid, cb.kid] at h
      simp only [List.cons_append, List.append_assoc, List.cons.injEq, true_and] at h
      obtain ⟨e1, e2⟩ := hq b hb (41 :: r) (41 :: s) (.inr ⟨r, rfl⟩) (.inr ⟨s, rfl⟩) (by simpa using h)
      cases e2
      exact ⟨e1, rfl⟩
theorem txt_inj {a : Ty} (ha : RightTy a) : InjT a := by
  have hleaf : ∀ {a : Ty}, LeafTy a → InjT a := by
    intro a la b hb r s hr hs h
    rcases right_split hb with lb | ⟨y, p2, cb⟩
    · obtain ⟨e1, e2⟩ := word_split _ _ _ _ la.wordy.1 lb.wordy.1 hr.one hs.one h
      exact ⟨la.inj lb e1, e2⟩
    · rw [cb.txt] at h
      exact (leaf_comp la cb.right hr (by simpa using h)).elim
  have hcomp : ∀ {a x : Ty} {p : List UInt8}, CompTy a x p → InjT x → ∀ {b : Ty}, RightTy b → ∀ {r s : List UInt8}, Stp2 r → Stp2 s → mTxt a ++ r = mTxt b ++ s → ∃ p2, CompTy b x p2 ∧ p ++ r = p2 ++ s := by
    intro a x p ca hx b hb r s hr hs h
    rcases right_split hb with lb | ⟨y, p2, cb⟩
    · rw [ca.txt] at h
      exact (leaf_comp lb ca.right hs (by simpa using h.symm)).elim
    · rw [ca.txt, cb.txt] at h
      simp only [List.append_assoc, List.cons_append] at h
      obtain ⟨e1, e2⟩ := kid_inj ca.right cb.right hx (.inr ⟨32, _, rfl, .inl rfl⟩) (.inr ⟨32, _, rfl, .inl rfl⟩) h
      subst e1
      exact ⟨p2, cb, by simpa using e2⟩
  induction ha with
  | int => exact hleaf .int
  | bool => exact hleaf .bool
  | str => exact hleaf .str
  | unit => exact hleaf .unit
  | dyn => exact hleaf .dyn
  | var n h1 h2 => exact hleaf (.var n h1 h2)
  | pair a c ha hc iha ihc =>
    intro b hb r s hr hs h
    obtain ⟨p2, cb, e⟩ := hcomp (.pair a c ha hc) iha hb hr hs h
    cases cb with
    | pair _ d _ hd =>
      simp only [List.cons_append, List.nil_append, List.cons.injEq, true_and] at e
      obtain ⟨e1, e2⟩ := kid_inj hc hd ihc hr.one hs.one e
      rw [e1]; exact ⟨rfl, e2⟩
    | list => simp at e
    | func => simp at e
  | list a ha iha =>
    intro b hb r s hr hs h
    obtain ⟨p2, cb, e⟩ := hcomp (.list a ha) iha hb hr hs h
    cases cb with
    | pair => simp at e
    | list => simp only [List.cons_append, List.nil_append, List.cons.injEq, true_and] at e; exact ⟨rfl, e⟩
    | func => simp at e
  | func a c ha hc iha ihc =>
    intro b hb r s hr hs h
    obtain ⟨p2, cb, e⟩ := hcomp (.func a c ha hc) iha hb hr hs h
    cases cb with
    | pair => simp at e
    | list => simp at e
    | func _ d _ hd =>
      simp only [List.cons_append, List.nil_append, List.cons.injEq, true_and] at e
      obtain ⟨e1, e2⟩ := kid_inj hc hd ihc hr.one hs.one e
      rw [e1]; exact ⟨rfl, e2⟩

theorem note_unlike {a b : Ty} (ha : mRight a = true) (hb : mRight b = true) : (mTxt a == mTxt b) = mSame a b := by
  have ra := right_ty a.size a (Nat.le_refl _) ha
  have rb := right_ty b.size b (Nat.le_refl _) hb
  cases h : mSame a b with
  | true => rw [mSame_of a b h, beq_self_eq_true]
  | false =>
    refine Bool.eq_false_iff.2 fun e => ?_
    have := (txt_inj ra b rb [] [] (.inl rfl) (.inl rfl) (by rw [eq_of_beq e])).1
    rw [this, mSame_refl] at h
    cases h

end Go.Proofs.YtccdnmjijakofaaDoor
