/- Bundle of PU PR PR2. -/
import Derived.Test.YtlagglkpbnbmeaaGreatDoorPX
import Derived.Test.YtlagglkpbnbmeaaGreatDoorNQ

/- The plain law of NoteUnlike: texts of right types differ if the types do. No program in sight. -/
namespace Go.Proofs.YtlagglkpbnbmeaaGreatDoor

mutual
theorem mSame_refl : ∀ t : Ty, mSame t t = true
  | .mk k n ks => by
    rw [mSame]
    show (decide (k = k) && decide (n = n) && mSames ks ks) = true
    rw [decide_eq_true rfl, decide_eq_true rfl, mSames_refl ks]; rfl
theorem mSames_refl : ∀ l : List Ty, mSames l l = true
  | [] => by rw [mSames]
  | t :: r => by rw [mSames, mSame_refl t, mSames_refl r]; rfl
end
mutual
theorem mSame_of : ∀ (a b : Ty), mSame a b = true → a = b
  | .mk k n ks, .mk k' n' ks' => by
    intro h
    rw [mSame, Bool.and_eq_true, Bool.and_eq_true, decide_eq_true_eq, decide_eq_true_eq] at h
    obtain ⟨⟨h1, h2⟩, h3⟩ := h
    have h1' : k = k' := h1
    have h2' : n = n' := h2
    have h4 := mSames_of ks ks' h3
    rw [h1', h2', h4]
theorem mSames_of : ∀ (a b : List Ty), mSames a b = true → a = b
  | [], [], _ => rfl
  | [], _ :: _, h => by rw [mSames] at h; cases h
  | _ :: _, [], h => by rw [mSames] at h; cases h
  | x :: r, y :: s, h => by
    rw [mSames, Bool.and_eq_true] at h
    rw [mSame_of x y h.1, mSames_of r s h.2]
end

def wordy (c : UInt8) : Bool := c != 32 && c != 40 && c != 41
def Stp1 (r : List UInt8) : Prop := r = [] ∨ ∃ c q, r = c :: q ∧ (c = 32 ∨ c = 41)
def Stp2 (r : List UInt8) : Prop := r = [] ∨ ∃ q, r = 41 :: q
theorem Stp2.one {r : List UInt8} (h : Stp2 r) : Stp1 r := by
  rcases h with h | ⟨q, h⟩
  · exact .inl h
  · exact .inr ⟨41, q, h, .inr rfl⟩
theorem Stp1.no {r : List UInt8} {c : UInt8} {q : List UInt8} (h : Stp1 r) (hr : r = c :: q) (hw : wordy c = true) : False := by
  rcases h with h | ⟨c', q', h, hc⟩
  · rw [h] at hr; cases hr
  · rw [h] at hr
    cases hr
    rcases hc with rfl | rfl <;> exact absurd hw (by decide)
inductive LeafTy : Ty → Prop
  | int : LeafTy (.leaf 1)
  | bool : LeafTy (.leaf 2)
  | str : LeafTy (.leaf 3)
  | unit : LeafTy (.leaf 4)
  | dyn : LeafTy (.leaf 5)
  | var (n : Int) : 0 ≤ n → n ≤ 1048576 → LeafTy (.mk 6 n [])
inductive CompTy : Ty → Ty → List UInt8 → Prop
  | pair (a b : Ty) : RightTy a → RightTy b → CompTy (.two 7 a b) a ([42, 32] ++ mKid b)
  | list (a : Ty) : RightTy a → CompTy (.one 8 a) a [108, 105, 115, 116]
  | func (a b : Ty) : RightTy a → RightTy b → CompTy (.two 9 a b) a ([45, 62, 32] ++ mKid b)
theorem CompTy.right {t x : Ty} {q : List UInt8} (h : CompTy t x q) : RightTy x := by cases h <;> assumption
theorem CompTy.kid {t x : Ty} {q : List UInt8} (h : CompTy t x q) : mKid t = 40 :: (mTxt t ++ [41]) := by
  rw [mKid_eq]
  cases h <;> rfl
theorem LeafTy.kid {t : Ty} (h : LeafTy t) : mKid t = mTxt t := by
  rw [mKid_eq]
  cases h <;> rfl
theorem dig_wordy {l : List UInt8} (h : l.all isDig = true) : l.all wordy = true := by
  rw [List.all_eq_true] at h ⊢
  intro c hc
  have := h c hc
  unfold isDig at this
  simp only [Bool.and_eq_true, decide_eq_true_eq] at this
  unfold wordy
  have n32 : c ≠ 32 := by rintro rfl; revert this; decide
  have n40 : c ≠ 40 := by rintro rfl; revert this; decide
  have n41 : c ≠ 41 := by rintro rfl; revert this; decide
  simp [n32, n40, n41]
theorem mNum_pos {n : Int} (h : 0 ≤ n) : mNum n = mDigits n.natAbs := by rw [mNum, if_neg (by omega)]
theorem LeafTy.wordy {t : Ty} (h : LeafTy t) : (mTxt t).all Go.Proofs.YtlagglkpbnbmeaaGreatDoor.wordy = true ∧ mTxt t ≠ [] := by
  cases h with
  | int => rw [mTxt_1]; decide
  | bool => rw [mTxt_2]; decide
  | str => rw [mTxt_3]; decide
  | unit => rw [mTxt_4]; decide
  | dyn => rw [mTxt_5]; decide
  | var n h1 h2 =>
    rw [mTxt_var, List.all_cons, mNum_pos h1, dig_wordy (mDigits_dig _)]
    exact ⟨by decide, by simp⟩
theorem LeafTy.inj {a b : Ty} (ha : LeafTy a) (hb : LeafTy b) (h : mTxt a = mTxt b) : a = b := by
  cases ha with
  | var n h1 h2 =>
    cases hb with
    | var m h3 h4 =>
      rw [mTxt_var, mTxt_var, mNum_pos h1, mNum_pos h3, List.cons.injEq] at h
      have e1 := mDigits_val (u := n.natAbs) (by rw [pow20]; omega)
      have e2 := mDigits_val (u := m.natAbs) (by rw [pow20]; omega)
      rw [h.2, e2] at e1
      have : n = m := by omega
      rw [this]
    | _ => simp [mTxt_var, mTxt_1, mTxt_2, mTxt_3, mTxt_4, mTxt_5, tkInt, tkBool, tkString, tkUnit] at h
  | _ =>
    cases hb <;> first | rfl | (simp [mTxt_var, mTxt_1, mTxt_2, mTxt_3, mTxt_4, mTxt_5, tkInt, tkBool, tkString, tkUnit] at h)
end Go.Proofs.YtlagglkpbnbmeaaGreatDoor

/- The plain law of texts read back: the tokens of a closed type's text, and what is read out of them. No program in sight. -/
namespace Go.Proofs.YtlagglkpbnbmeaaGreatDoor

inductive ClosedTy : Ty → Prop
  | int : ClosedTy (.leaf 1)
  | bool : ClosedTy (.leaf 2)
  | str : ClosedTy (.leaf 3)
  | unit : ClosedTy (.leaf 4)
  | dyn : ClosedTy (.leaf 5)
  | pair (a b : Ty) : ClosedTy a → ClosedTy b → ClosedTy (.two 7 a b)
  | list (a : Ty) : ClosedTy a → ClosedTy (.one 8 a)
  | func (a b : Ty) : ClosedTy a → ClosedTy b → ClosedTy (.two 9 a b)
theorem closed_of {t : Ty} (h : RightTy t) : mWithout 6 t = true → ClosedTy t := by
  induction h with
  | int => exact fun _ => .int
  | bool => exact fun _ => .bool
  | str => exact fun _ => .str
  | unit => exact fun _ => .unit
  | dyn => exact fun _ => .dyn
  | var n => intro h; rw [mWithout] at h; cases h
  | pair a b _ _ ha hb =>
    intro h
    rw [mWithout, mWithouts, mWithouts, mWithouts, Bool.and_true, Bool.and_eq_true, Bool.and_eq_true] at h
    exact .pair a b (ha h.2.1) (hb h.2.2)
  | list a _ ha =>
    intro h
    rw [mWithout, mWithouts, mWithouts, Bool.and_true, Bool.and_eq_true] at h
    exact .list a (ha h.2)
  | func a b _ _ ha hb =>
    intro h
    rw [mWithout, mWithouts, mWithouts, mWithouts, Bool.and_true, Bool.and_eq_true, Bool.and_eq_true] at h
    exact .func a b (ha h.2.1) (hb h.2.2)
theorem ClosedTy.right {t : Ty} (h : ClosedTy t) : RightTy t := by
  induction h with
  | int => exact .int
  | bool => exact .bool
  | str => exact .str
  | unit => exact .unit
  | dyn => exact .dyn
  | pair a b _ _ ha hb => exact .pair a b ha hb
  | list a _ ha => exact .list a ha
  | func a b _ _ ha hb => exact .func a b ha hb

abbrev kwT (s : List UInt8) : BTok := ⟨2, s, 0⟩
abbrev sgT (s : List UInt8) : BTok := ⟨5, s, 0⟩
mutual
def bTxt : Ty → List BTok
  | .mk k _ ks =>
    if k = 1 then [kwT tkInt] else if k = 2 then [kwT tkBool] else if k = 3 then [kwT tkString] else if k = 4 then [kwT tkUnit] else if k = 5 then [sgT [63]]
    else if k = 8 then bKidAt 0 ks ++ [kwT tkList]
    else if k = 7 then bKidAt 0 ks ++ [sgT [42]] ++ bKidAt 1 ks
    else bKidAt 0 ks ++ [sgT [45, 62]] ++ bKidAt 1 ks
def bKidAt : Nat → List Ty → List BTok
  | _, [] => []
  | 0, t :: _ => bKid t
  | i + 1, _ :: r => bKidAt i r
def bKid : Ty → List BTok
  | .mk k n ks => if ks.isEmpty then bTxt (.mk k n ks) else [sgT [40]] ++ bTxt (.mk k n ks) ++ [sgT [41]]
end
end Go.Proofs.YtlagglkpbnbmeaaGreatDoor

/- The plain laws of texts read back, ready for the walks. No program in sight. -/
namespace Go.Proofs.YtlagglkpbnbmeaaGreatDoor

theorem mTxt_len7 {t : Ty} (h : ClosedTy t) : (mTxt t).length + 1 ≤ 7 * t.size := by
  have key : ∀ t : Ty, (mTxt t).length + 1 ≤ 7 * t.size → (mKid t).length ≤ 7 * t.size + 1 := by
    intro t h
    rw [mKid_eq]
    split
    · omega
    · simp only [List.length_append, List.length_cons, List.length_nil]; omega
  induction h with
  | pair a b _ _ ha hb =>
    have h1 := key a ha
    have h2 := key b hb
    rw [mTxt_pair]
    simp only [List.length_append, List.length_cons, List.length_nil, Ty.size, Ty.sizes]; omega
  | list a _ ha =>
    have h1 := key a ha
    rw [mTxt_list]
    simp only [List.length_append, List.length_cons, List.length_nil, Ty.size, Ty.sizes]; omega
  | func a b _ _ ha hb =>
    have h1 := key a ha
    have h2 := key b hb
    rw [mTxt_fun]
    simp only [List.length_append, List.length_cons, List.length_nil, Ty.size, Ty.sizes]; omega
  | _ => simp [mTxt, Ty.size, Ty.sizes, tkInt, tkBool, tkString, tkUnit]
theorem closed_right {t : Ty} (hr : mRight t = true) (hw : mWithout 6 t = true) : ClosedTy t := closed_of (right_ty t.size t (Nat.le_refl _) hr) hw
end Go.Proofs.YtlagglkpbnbmeaaGreatDoor

