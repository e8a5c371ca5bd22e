/- Bundle of PU PR PR2. -/
import Derived.Test.YtlagglkpbnbmeaaGreatDoorPX
import Derived.Test.YtlagglkpbnbmeaaGreatDoorNQ

/- The plain law of NoteUnlike: texts of right types differ if the types do. No program in sight. -/
namespace Go.Proofs.YtlagglkpbnbmeaaGreatDoor

mutual
theorem mSame_refl : ∀ t : Ty, mSame t t = true
  | .mk k n ks => by
    rw [mSame]
    show (decide (k = k) && decide (n = n) && mSames ks ks) = true
    rw [decide_eq_true rfl, decide_eq_true rfl, mSames_refl ks]; rfl
theorem mSames_refl : ∀ l : List Ty, mSames l l = true
  | [] => by rw [mSames]
  | t :: r => by rw [mSames, mSame_refl t, mSames_refl r]; rfl
end
mutual
theorem mSame_of : ∀ (a b : Ty), mSame a b = true → a = b
  | .mk k n ks, .mk k' n' ks' => by
    intro h
    rw [mSame, Bool.and_eq_true, Bool.and_eq_true, decide_eq_true_eq, decide_eq_true_eq] at h
    obtain ⟨⟨h1, h2⟩, h3⟩ := h
    have h1' : k = k' := h1
    have h2' : n = n' := h2
    have h4 := mSames_of ks ks' h3
    rw [h1', h2', h4]
theorem mSames_of : ∀ (a b : List Ty), mSames a b = true → a = b
  | [], [], _ => rfl
  | [], _ :: _, h => by rw [mSames] at h; cases h
  | _ :: _, [], h => by rw [mSames] at h; cases h
  | x :: r, y :: s, h => by
    rw [mSames, Bool.and_eq_true] at h
    rw [mSame_of x y h.1, mSames_of r s h.2]
end

def wordy (c : UInt8) : Bool := c != 32 && c != 40 && c != 41
def Stp1 (r : List UInt8) : Prop := r = [] ∨ ∃ c q, r = c :: q ∧ (c = 32 ∨ c = 41)
def Stp2 (r : List UInt8) : Prop := r = [] ∨ ∃ q, r = 41 :: q
theorem Stp2.one {r : List UInt8} (h : Stp2 r) : Stp1 r := by
  rcases h with h | ⟨q, h⟩
  · exact .inl h
  · exact .inr ⟨41, q, h, .inr rfl⟩
theorem Stp1.no {r : List UInt8} {c : UInt8} {q : List UInt8} (h : Stp1 r) (hr : r = c :: q) (hw : wordy c = true) : False := by
  rcases h with h | ⟨c', q', h, hc⟩
  · rw [h] at hr; cases hr
  · rw [h] at hr
    cases hr
    rcases hc with rfl | rfl <;> exact absurd hw (by decide)
inductive LeafTy : Ty → Prop
  | int : LeafTy (.leaf 1)
  | bool : LeafTy (.leaf 2)
  | str : LeafTy (.leaf 3)
  | unit : LeafTy (.leaf 4)
  | dyn : LeafTy (.leaf 5)
  | var (n : Int) : 0 ≤ n → n ≤ 1048576 → LeafTy (.mk 6 n [])
inductive CompTy : Ty → Ty → List UInt8 → Prop
  | pair (a b : Ty) : RightTy a → RightTy b → CompTy (.two 7 a b) a ([42, 32] ++ mKid b)
  | list (a : Ty) : RightTy a → CompTy (.one 8 a) a [108, 105, 115, 116]
  | func (a b : Ty) : RightTy a → RightTy b → CompTy (.two 9 a b) a ([45, 62, 32] ++ mKid b)
theorem right_split {t : Ty} (h : RightTy t) : LeafTy t ∨ ∃ x q, CompTy t x q := by
  cases h with
  | int => exact .inl .int
  | bool => exact .inl .bool
  | str => exact .inl .str
  | unit => exact .inl .unit
  | dyn => exact .inl .dyn
  | var n h1 h2 => exact .inl (.var n h1 h2)
  | pair a b ha hb => exact .inr ⟨_, _, .pair a b ha hb⟩
  | list a ha => exact .inr ⟨_, _, .list a ha⟩
  | func a b ha hb => exact .inr ⟨_, _, .func a b ha hb⟩
theorem CompTy.right {t x : Ty} {q : List UInt8} (h : CompTy t x q) : RightTy x := by cases h <;> assumption
theorem CompTy.kid {t x : Ty} {q : List UInt8} (h : CompTy t x q) : mKid t = 40 :: (mTxt t ++ [41]) := by
  rw [mKid_eq]
  cases h <;> rfl
theorem LeafTy.kid {t : Ty} (h : LeafTy t) : mKid t = mTxt t := by
  rw [mKid_eq]
  cases h <;> rfl
theorem dig_wordy {l : List UInt8} (h : l.all isDig = true) : l.all wordy = true := by
  rw [List.all_eq_true] at h ⊢
  intro c hc
  have := h c hc
  unfold isDig at this
  simp only [Bool.and_eq_true, decide_eq_true_eq] at this
  unfold wordy
  have n32 : c ≠ 32 := by rintro rfl; revert this; decide
  have n40 : c ≠ 40 := by rintro rfl; revert this; decide
  have n41 : c ≠ 41 := by rintro rfl; revert this; decide
  simp [n32, n40, n41]
theorem mNum_pos {n : Int} (h : 0 ≤ n) : mNum n = mDigits n.natAbs := by rw [mNum, if_neg (by omega)]
theorem LeafTy.wordy {t : Ty} (h : LeafTy t) : (mTxt t).all Go.Proofs.YtlagglkpbnbmeaaGreatDoor.wordy = true ∧ mTxt t ≠ [] := by
  cases h with
  | int => rw [mTxt_1]; decide
  | bool => rw [mTxt_2]; decide
  | str => rw [mTxt_3]; decide
  | unit => rw [mTxt_4]; decide
  | dyn => rw [mTxt_5]; decide
  | var n h1 h2 =>
    rw [mTxt_var, List.all_cons, mNum_pos h1, dig_wordy (mDigits_dig _)]
    exact ⟨by decide, by simp⟩
theorem LeafTy.inj {a b : Ty} (ha : LeafTy a) (hb : LeafTy b) (h : mTxt a = mTxt b) : a = b := by
  cases ha with
  | var n h1 h2 =>
    cases hb with
    | var m h3 h4 =>
      rw [mTxt_var, mTxt_var, mNum_pos h1, mNum_pos h3, List.cons.injEq] at h
      have e1 := mDigits_val (u := n.natAbs) (by rw [pow20]; omega)
      have e2 := mDigits_val (u := m.natAbs) (by rw [pow20]; omega)
      rw [h.2, e2] at e1
      have : n = m := by omega
      rw [this]
    | _ => simp [mTxt_var, mTxt_1, mTxt_2, mTxt_3, mTxt_4, mTxt_5, tkInt, tkBool, tkString, tkUnit] at h
  | _ =>
    cases hb <;> first | rfl | (simp [mTxt_var, mTxt_1, mTxt_2, mTxt_3, mTxt_4, mTxt_5, tkInt, tkBool, tkString, tkUnit] at h)
end Go.Proofs.YtlagglkpbnbmeaaGreatDoor

/- The plain law of texts read back: the tokens of a closed type's text, and what is read out of them. No program in sight. -/
namespace Go.Proofs.YtlagglkpbnbmeaaGreatDoor

inductive ClosedTy : Ty → Prop
  | int : ClosedTy (.leaf 1)
  | bool : ClosedTy (.leaf 2)
  | str : ClosedTy (.leaf 3)
  | unit : ClosedTy (.leaf 4)
  | dyn : ClosedTy (.leaf 5)
  | pair (a b : Ty) : ClosedTy a → ClosedTy b → ClosedTy (.two 7 a b)
  | list (a : Ty) : ClosedTy a → ClosedTy (.one 8 a)
  | func (a b : Ty) : ClosedTy a → ClosedTy b → ClosedTy (.two 9 a b)
theorem closed_of {t : Ty} (h : RightTy t) : mWithout 6 t = true → ClosedTy t := by
  induction h with
  | int => exact fun _ => .int
  | bool => exact fun _ => .bool
  | str => exact fun _ => .str
  | unit => exact fun _ => .unit
  | dyn => exact fun _ => .dyn
  | var n => intro h; rw [mWithout] at h; cases h
  | pair a b _ _ ha hb =>
    intro h
    rw [mWithout, mWithouts, mWithouts, mWithouts, Bool.and_true, Bool.and_eq_true, Bool.and_eq_true] at h
    exact .pair a b (ha h.2.1) (hb h.2.2)
  | list a _ ha =>
    intro h
    rw [mWithout, mWithouts, mWithouts, Bool.and_true, Bool.and_eq_true] at h
    exact .list a (ha h.2)
  | func a b _ _ ha hb =>
    intro h
    rw [mWithout, mWithouts, mWithouts, mWithouts, Bool.and_true, Bool.and_eq_true, Bool.and_eq_true] at h
    exact .func a b (ha h.2.1) (hb h.2.2)
theorem ClosedTy.right {t : Ty} (h : ClosedTy t) : RightTy t := by
  induction h with
  | int => exact .int
  | bool => exact .bool
  | str => exact .str
  | unit => exact .unit
  | dyn => exact .dyn
  | pair a b _ _ ha hb => exact .pair a b ha hb
  | list a _ ha => exact .list a ha
  | func a b _ _ ha hb => exact .func a b ha hb

abbrev kwT (s : List UInt8) : BTok := ⟨2, s, 0⟩
abbrev sgT (s : List UInt8) : BTok := ⟨5, s, 0⟩
mutual
def bTxt : Ty → List BTok
  | .mk k _ ks =>
    if k = 1 then [kwT tkInt] else if k = 2 then [kwT tkBool] else if k = 3 then [kwT tkString] else if k = 4 then [kwT tkUnit] else if k = 5 then [sgT [63]]
    else if k = 8 then bKidAt 0 ks ++ [kwT tkList]
    else if k = 7 then bKidAt 0 ks ++ [sgT [42]] ++ bKidAt 1 ks
    else bKidAt 0 ks ++ [sgT [45, 62]] ++ bKidAt 1 ks
def bKidAt : Nat → List Ty → List BTok
  | _, [] => []
  | 0, t :: _ => bKid t
  | i + 1, _ :: r => bKidAt i r
def bKid : Ty → List BTok
  | .mk k n ks => if ks.isEmpty then bTxt (.mk k n ks) else [sgT [40]] ++ bTxt (.mk k n ks) ++ [sgT [41]]
end
theorem bTxt_1 : bTxt (.leaf 1) = [kwT tkInt] := by rw [bTxt]; rfl
theorem bTxt_2 : bTxt (.leaf 2) = [kwT tkBool] := by rw [bTxt]; rfl
theorem bTxt_3 : bTxt (.leaf 3) = [kwT tkString] := by rw [bTxt]; rfl
theorem bTxt_4 : bTxt (.leaf 4) = [kwT tkUnit] := by rw [bTxt]; rfl
theorem bTxt_5 : bTxt (.leaf 5) = [sgT [63]] := by rw [bTxt]; rfl
theorem bTxt_pair (a b : Ty) : bTxt (.two 7 a b) = bKid a ++ [sgT [42]] ++ bKid b := by rw [bTxt]; simp [bKidAt]
theorem bTxt_list (a : Ty) : bTxt (.one 8 a) = bKid a ++ [kwT tkList] := by rw [bTxt]; simp [bKidAt]
theorem bTxt_fun (a b : Ty) : bTxt (.two 9 a b) = bKid a ++ [sgT [45, 62]] ++ bKid b := by rw [bTxt]; simp [bKidAt]
theorem bKid_eq (t : Ty) : bKid t = if t.kids.isEmpty then bTxt t else [sgT [40]] ++ bTxt t ++ [sgT [41]] := by cases t; rw [bKid]; rfl

def Sc (l : List UInt8) (bs : List BTok) : Prop := ∀ off, ∃ ts, Scans off l ts none ∧ ts.map Tok.bare = bs
theorem sc_nil : Sc [] [] := fun off => ⟨[], .done off [] (by simp [mSkip]), rfl⟩
theorem sc_tok {l : List UInt8} {bs : List BTok} {t : BTok} {n : Nat} (hs : mSkip false l = l) (hm : mTok l = some (t, n)) (hr : Sc (l.drop n) bs) : Sc l (t :: bs) := by
  intro off
  obtain ⟨ts, h1, h2⟩ := hr (off + skLen false l + n)
  exact ⟨_, .step off l t n ts none (by rw [hs]; exact hm) (by rw [hs]; exact h1), by rw [List.map_cons, h2]; rfl⟩
theorem sc_blank {l : List UInt8} {bs : List BTok} (h : Sc l bs) : Sc (32 :: l) bs := by
  intro off
  obtain ⟨ts, h1, h2⟩ := h (off + 1)
  have hs : mSkip false (32 :: l) = mSkip false l := by rw [mSkip]; rfl
  have hle := mSkip_le false l
  refine ⟨ts, scans_same hs ?_ h1, h2⟩
  unfold skLen
  rw [hs, List.length_cons]
  omega
def Bound (r : List UInt8) : Prop := ∀ c q, r = c :: q → isPart c = false
theorem bound_cons {c : UInt8} {q : List UInt8} (h : isPart c = false) : Bound (c :: q) := fun _ _ e => by cases e; exact h
theorem take_bound {w r : List UInt8} (hw : w.all isPart = true) (hr : Bound r) : (w ++ r).takeWhile isPart = w := by
  induction w with
  | nil =>
    cases r with
    | nil => rfl
    | cons c q => rw [List.nil_append, List.takeWhile_cons, hr c q rfl]; rfl
  | cons c w ih =>
    rw [List.all_cons, Bool.and_eq_true] at hw
    rw [List.cons_append, List.takeWhile_cons, hw.1, ih hw.2]; rfl
theorem sc_word {w r : List UInt8} {bs : List BTok} (hk : mKey w = true) (hb : Bound r) (h : Sc r bs) : Sc (w ++ r) (kwT w :: bs) := by
  obtain ⟨h1, h2, _⟩ := mKey_form hk
  cases w with
  | nil => exact absurd rfl h2
  | cons c w =>
    rw [List.all_cons, Bool.and_eq_true] at h1
    obtain ⟨s1, s2⟩ := small_stay h1.1
    refine sc_tok (n := (c :: w).length) (skip_stay s1 s2) ?_ ?_
    · rw [List.cons_append, mTok, if_pos h1.1, take_bound (all_part h1.2) hb, mWord, if_pos hk]
    · rw [List.drop_left]; exact h
theorem sc_sign {c : UInt8} {r : List UInt8} {bs : List BTok} (hc : c = 40 ∨ c = 41 ∨ c = 42 ∨ c = 63) (h : Sc r bs) : Sc (c :: r) (sgT [c] :: bs) := by
  have key : ∀ c : UInt8, isBlank c = false → c.toNat ≠ 35 → isSmall c = false → (isDig c || c.toNat == 126) = false → c.toNat ≠ 34 → (∀ d, twoSign c d = false) → oneSign c = true → Sc (c :: r) (sgT [c] :: bs) := by
    intro c h1 h2 h3 h4 h5 h6 h7
    refine sc_tok (n := 1) (skip_stay h1 h2) ?_ h
    have hl : signLen (c :: r) = 1 := by
      cases r with
      | nil => rw [signLen]; simp [h7]
      | cons d q => rw [signLen]; simp [h6, h7]
    rw [mTok, if_neg (by rw [h3]; decide), if_neg (by rw [h4]; decide), if_neg h5, mSign, hl]
    rfl
  rcases hc with rfl | rfl | rfl | rfl <;> exact key _ (by decide) (by decide) (by decide) (by decide) (by decide) (fun d => by simp [twoSign]) (by decide)
theorem sc_arrow {r : List UInt8} {bs : List BTok} (h : Sc r bs) : Sc (45 :: 62 :: r) (sgT [45, 62] :: bs) := by
  refine sc_tok (n := 2) (skip_stay (by decide) (by decide)) ?_ h
  have hl : signLen (45 :: 62 :: r) = 2 := by rw [signLen]; simp [twoSign]
  rw [mTok, if_neg (by decide), if_neg (by decide), if_neg (by decide), mSign, hl]
  rfl
theorem isEmpty_leaf {t : Ty} (h : LeafTy t) : t.kids.isEmpty = true := by cases h <;> rfl
theorem isEmpty_comp {t x : Ty} {q : List UInt8} (h : CompTy t x q) : t.kids.isEmpty = false := by cases h <;> rfl
def ScT (t : Ty) : Prop := ∀ r bs, Bound r → Sc r bs → Sc (mTxt t ++ r) (bTxt t ++ bs)
theorem sc_kid {t : Ty} (h : RightTy t) (hs : ScT t) {r : List UInt8} {bs : List BTok} (hb : Bound r) (hr : Sc r bs) : Sc (mKid t ++ r) (bKid t ++ bs) := by
  rw [mKid_eq, bKid_eq]
  rcases right_split h with hl | ⟨x, q, hc⟩
  · rw [isEmpty_leaf hl]
    exact hs r bs hb hr
  · rw [isEmpty_comp hc]
    have h1 := sc_sign (c := 40) (.inl rfl) (hs (41 :: r) (sgT [41] :: bs) (bound_cons (by decide)) (sc_sign (.inr (.inl rfl)) hr))
    simpa using h1
theorem sc_txt {t : Ty} (h : ClosedTy t) : ScT t := by
  induction h with
  | int => intro r bs hb hr; rw [mTxt_1, bTxt_1]; exact sc_word (by decide) hb hr
  | bool => intro r bs hb hr; rw [mTxt_2, bTxt_2]; exact sc_word (by decide) hb hr
  | str => intro r bs hb hr; rw [mTxt_3, bTxt_3]; exact sc_word (by decide) hb hr
  | unit => intro r bs hb hr; rw [mTxt_4, bTxt_4]; exact sc_word (by decide) hb hr
  | dyn => intro r bs hb hr; rw [mTxt_5, bTxt_5]; exact sc_sign (.inr (.inr (.inr rfl))) hr
  | pair a b ha hb iha ihb =>
    intro r bs hbd hr
    have h1 := sc_kid ha.right iha (r := 32 :: 42 :: 32 :: (mKid b ++ r)) (bound_cons (by decide)) (sc_blank (sc_sign (.inr (.inr (.inl rfl))) (sc_blank (sc_kid hb.right ihb hbd hr))))
    rw [mTxt_pair, bTxt_pair]
    simpa using h1
  | list a ha iha =>
    intro r bs hbd hr
    have h1 := sc_kid ha.right iha (r := 32 :: (tkList ++ r)) (bound_cons (by decide)) (sc_blank (sc_word (by decide) hbd hr))
    rw [mTxt_list, bTxt_list]
    simpa [tkList] using h1
  | func a b ha hb iha ihb =>
    intro r bs hbd hr
    have h1 := sc_kid ha.right iha (r := 32 :: 45 :: 62 :: 32 :: (mKid b ++ r)) (bound_cons (by decide)) (sc_blank (sc_arrow (sc_blank (sc_kid hb.right ihb hbd hr))))
    rw [mTxt_fun, bTxt_fun]
    simpa using h1

theorem hit_bare {k : Nat} {s : List UInt8} {l : List Tok} {b : BTok} {r : List BTok} (h : l.map Tok.bare = b :: r) : hit k s l = (b.k == k && b.s == s) := by
  cases l with
  | nil => cases h
  | cons t l =>
    rw [List.map_cons, List.cons.injEq] at h
    rw [← h.1]; rfl
def NoGo (rb : List BTok) : Prop := ∀ b r, rb = b :: r → (b.k == 2 && b.s == tkList) = false ∧ (b.k == 5 && b.s == [42]) = false ∧ (b.k == 5 && b.s == [45, 62]) = false
theorem nogo_hit {l : List Tok} {rb : List BTok} (h : l.map Tok.bare = rb) (hn : NoGo rb) : hit 2 tkList l = false ∧ hit 5 [42] l = false ∧ hit 5 [45, 62] l = false := by
  cases rb with
  | nil =>
    have : l = [] := by simpa using h
    subst this
    exact ⟨rfl, rfl, rfl⟩
  | cons b r => rw [hit_bare h, hit_bare h, hit_bare h]; exact hn b r rfl
theorem map_drop {l : List Tok} {p rb : List BTok} (h : l.map Tok.bare = p ++ rb) : (l.drop p.length).map Tok.bare = rb := by
  rw [List.map_drop, h, List.drop_left]
theorem tail_bare {l : List Tok} {b : BTok} {rb : List BTok} (h : l.map Tok.bare = b :: rb) : l.tail.map Tok.bare = rb := by
  cases l with
  | nil => cases h
  | cons t l => rw [List.map_cons, List.cons.injEq] at h; exact h.2
theorem drop_app {l : List Tok} {n m : Nat} : (l.drop n).drop m = l.drop (n + m) := by rw [List.drop_drop]
theorem tail_drop1 (l : List Tok) : l.tail = l.drop 1 := by simp
theorem post_of {typ : List Tok → PR Ty} {l r : List Tok} {a : Ty} (h : mAtom typ l = .ok (a, r)) (hr : hit 2 tkList r = false) : mPost typ l = .ok (a, r) := by
  unfold mPost
  rw [h]
  show Except.ok (mLists a r) = _
  rw [mLists_miss hr]
theorem prod_of {typ : List Tok → PR Ty} {l r : List Tok} {a : Ty} (h : mPost typ l = .ok (a, r)) (hr : hit 5 [42] r = false) : mProd typ l = .ok (a, r) := by
  unfold mProd
  rw [h]
  simp only [hr, Bool.false_eq_true, if_false]
theorem typ_of {f : Nat} {l r : List Tok} {a : Ty} (h : mProd (mTypF f) l = .ok (a, r)) (hr : hit 5 [45, 62] r = false) : mTypF (f + 1) l = .ok (a, r) := by
  rw [mTypF, h]
  simp only [hr, Bool.false_eq_true, if_false]
theorem prod_two {typ : List Tok → PR Ty} {l r r' : List Tok} {a b : Ty} (h : mPost typ l = .ok (a, r)) (hr : hit 5 [42] r = true) (h2 : mPost typ r.tail = .ok (b, r')) : mProd typ l = .ok (.two 7 a b, r') := by
  unfold mProd
  rw [h]
  simp only [hr, if_true, h2]
theorem typ_two {f : Nat} {l r r' : List Tok} {a b : Ty} (h : mProd (mTypF f) l = .ok (a, r)) (hr : hit 5 [45, 62] r = true) (h2 : mTypF f r.tail = .ok (b, r')) : mTypF (f + 1) l = .ok (.two 9 a b, r') := by
  rw [mTypF, h]
  simp only [hr, if_true, h2]
theorem atom_paren {f : Nat} {l r : List Tok} {a : Ty} (h : hit 5 [40] l = true) (h2 : mTypF f l.tail = .ok (a, r)) (h3 : hit 5 [41] r = true) : mAtom (mTypF f) l = .ok (a, r.tail) := by
  obtain ⟨t, ht⟩ := hit_cons h
  have hk : t.k = 5 := by
    rw [ht] at h
    simp only [hit, Bool.and_eq_true, beq_iff_eq] at h
    exact h.1
  have no : ∀ s, hit 2 s l = false := fun s => by rw [ht]; simp [hit, hk]
  have h63 : hit 5 [63] l = false := by
    rw [ht] at h ⊢
    simp only [hit, Bool.and_eq_true, beq_iff_eq] at h
    simp [hit, h.2]
  unfold mAtom
  rw [no, no, no, no, h63, h]
  simp only [Bool.false_eq_true, if_false, if_true, h2, h3]
def ReadT (t : Ty) : Prop := ∀ (f : Nat) (l : List Tok) (rb : List BTok), l.map Tok.bare = bTxt t ++ rb → NoGo rb → (bTxt t).length ≤ f → mTypF f l = .ok (t, l.drop (bTxt t).length)
theorem nogo_close (rb : List BTok) : NoGo (sgT [41] :: rb) := fun b r h => by cases h; exact ⟨by decide, by decide, by decide⟩
theorem leaf_atom {t : Ty} (h : LeafTy t) (hc : ClosedTy t) {typ : List Tok → PR Ty} {l : List Tok} {rb : List BTok} (hl : l.map Tok.bare = bTxt t ++ rb) : mAtom typ l = .ok (t, l.drop (bTxt t).length) := by
  cases hc with
  | int =>
    rw [bTxt_1] at hl ⊢
    unfold mAtom
    rw [hit_bare hl, if_pos (by decide), tail_drop1]; rfl
  | bool =>
    rw [bTxt_2] at hl ⊢
    unfold mAtom
    rw [hit_bare hl, if_neg (by decide), hit_bare hl, if_pos (by decide), tail_drop1]; rfl
  | str =>
    rw [bTxt_3] at hl ⊢
    unfold mAtom
    rw [hit_bare hl, if_neg (by decide), hit_bare hl, if_neg (by decide), hit_bare hl, if_pos (by decide), tail_drop1]; rfl
  | unit =>
    rw [bTxt_4] at hl ⊢
    unfold mAtom
    rw [hit_bare hl, if_neg (by decide), hit_bare hl, if_neg (by decide), hit_bare hl, if_neg (by decide), hit_bare hl, if_pos (by decide), tail_drop1]; rfl
  | dyn =>
    rw [bTxt_5] at hl ⊢
    unfold mAtom
    rw [hit_bare hl, if_neg (by decide), hit_bare hl, if_neg (by decide), hit_bare hl, if_neg (by decide), hit_bare hl, if_neg (by decide), hit_bare hl, if_pos (by decide), tail_drop1]; rfl
  | pair a b => cases h
  | list a => cases h
  | func a b => cases h
theorem paren_atom {t : Ty} (hr : ReadT t) {f : Nat} {l : List Tok} {rb : List BTok} (hl : l.map Tok.bare = [sgT [40]] ++ bTxt t ++ [sgT [41]] ++ rb) (hf : (bTxt t).length ≤ f) : mAtom (mTypF f) l = .ok (t, l.drop ([sgT [40]] ++ bTxt t ++ [sgT [41]]).length) := by
  have hl' : l.map Tok.bare = sgT [40] :: (bTxt t ++ sgT [41] :: rb) := by rw [hl]; simp
  have h1 := tail_bare hl'
  have h2 := hr f l.tail _ h1 (nogo_close rb) hf
  have h3 := map_drop h1
  have h4 := atom_paren (by rw [hit_bare hl']; decide) h2 (by rw [hit_bare h3]; decide)
  rw [h4]
  congr 2
  rw [tail_drop1, tail_drop1, drop_app, drop_app]
  congr 1
  simp only [List.length_append, List.length_cons, List.length_nil]
  omega
theorem kid_atom {t : Ty} (h : ClosedTy t) (hr : ReadT t) {f : Nat} {l : List Tok} {rb : List BTok} (hl : l.map Tok.bare = bKid t ++ rb) (hf : (bKid t).length ≤ f + 1) : mAtom (mTypF f) l = .ok (t, l.drop (bKid t).length) := by
  rw [bKid_eq] at hl hf ⊢
  rcases right_split h.right with hlf | ⟨x, q, hc⟩
  · rw [isEmpty_leaf hlf] at hl hf ⊢
    exact leaf_atom hlf h hl
  · rw [isEmpty_comp hc] at hl hf ⊢
    simp only [Bool.false_eq_true, if_false] at hl hf ⊢
    refine paren_atom hr hl ?_
    simp only [List.length_append, List.length_cons, List.length_nil] at hf
    omega
theorem bKid_pos {t : Ty} (h : ClosedTy t) : 1 ≤ (bKid t).length := by
  rw [bKid_eq]
  rcases right_split h.right with hlf | ⟨x, q, hc⟩
  · rw [isEmpty_leaf hlf]
    cases h with
    | int => rw [bTxt_1]; decide
    | bool => rw [bTxt_2]; decide
    | str => rw [bTxt_3]; decide
    | unit => rw [bTxt_4]; decide
    | dyn => rw [bTxt_5]; decide
    | pair => cases hlf
    | list => cases hlf
    | func => cases hlf
  · rw [isEmpty_comp hc]
    simp only [Bool.false_eq_true, if_false, List.length_append, List.length_cons, List.length_nil]
    omega
theorem typ_atom {f : Nat} {l r : List Tok} {a : Ty} {rb : List BTok} (h : mAtom (mTypF f) l = .ok (a, r)) (hr : r.map Tok.bare = rb) (hn : NoGo rb) : mTypF (f + 1) l = .ok (a, r) := by
  obtain ⟨h1, h2, h3⟩ := nogo_hit hr hn
  exact typ_of (prod_of (post_of h h1) h2) h3
theorem rd_txt {t : Ty} (h : ClosedTy t) : ReadT t := by
  have leaf : ∀ {t : Ty}, LeafTy t → ClosedTy t → 1 ≤ (bTxt t).length → ReadT t := by
    intro t hl hc hp f l rb h1 hn hf
    obtain ⟨g, rfl⟩ : ∃ g, f = g + 1 := ⟨f - 1, by omega⟩
    exact typ_atom (leaf_atom hl hc h1) (map_drop h1) hn
  induction h with
  | int => exact leaf .int .int (by rw [bTxt_1]; decide)
  | bool => exact leaf .bool .bool (by rw [bTxt_2]; decide)
  | str => exact leaf .str .str (by rw [bTxt_3]; decide)
  | unit => exact leaf .unit .unit (by rw [bTxt_4]; decide)
  | dyn => exact leaf .dyn .dyn (by rw [bTxt_5]; decide)
  | pair a b ha hb iha ihb =>
    intro f l rb h1 hn hf
    rw [bTxt_pair] at h1 hf ⊢
    have pa := bKid_pos ha
    have pb := bKid_pos hb
    simp only [List.length_append, List.length_cons, List.length_nil] at hf
    obtain ⟨g, rfl⟩ : ∃ g, f = g + 1 := ⟨f - 1, by omega⟩
    have h1' : l.map Tok.bare = bKid a ++ (sgT [42] :: (bKid b ++ rb)) := by rw [h1]; simp
    have e1 := kid_atom ha iha h1' (f := g) (by omega)
    have m1 := map_drop h1'
    have e2 := post_of e1 (by rw [hit_bare m1]; decide)
    have m2 := tail_bare m1
    have e3 := kid_atom hb ihb m2 (f := g) (by omega)
    have m3 := map_drop m2
    obtain ⟨n1, n2, n3⟩ := nogo_hit m3 hn
    rw [typ_of (prod_two e2 (by rw [hit_bare m1]; decide) (post_of e3 n1)) n3]
    congr 2
    rw [tail_drop1, drop_app, drop_app]
    congr 1
    simp only [List.length_append, List.length_cons, List.length_nil]
    omega
  | list a ha iha =>
    intro f l rb h1 hn hf
    rw [bTxt_list] at h1 hf ⊢
    have pa := bKid_pos ha
    simp only [List.length_append, List.length_cons, List.length_nil] at hf
    obtain ⟨g, rfl⟩ : ∃ g, f = g + 1 := ⟨f - 1, by omega⟩
    have h1' : l.map Tok.bare = bKid a ++ (kwT tkList :: rb) := by rw [h1]; simp
    have e1 := kid_atom ha iha h1' (f := g) (by omega)
    have m1 := map_drop h1'
    have m2 := tail_bare m1
    obtain ⟨n1, n2, n3⟩ := nogo_hit m2 hn
    have e2 : mPost (mTypF g) l = .ok (.one 8 a, (l.drop (bKid a).length).tail) := by
      unfold mPost
      rw [e1]
      show Except.ok (mLists a _) = _
      rw [mLists_hit (by rw [hit_bare m1]; decide), mLists_miss n1]
    rw [typ_of (prod_of e2 n2) n3]
    congr 2
    rw [tail_drop1, drop_app]
    congr 1
    simp only [List.length_append, List.length_cons, List.length_nil]
  | func a b ha hb iha ihb =>
    intro f l rb h1 hn hf
    rw [bTxt_fun] at h1 hf ⊢
    have pa := bKid_pos ha
    have pb := bKid_pos hb
    simp only [List.length_append, List.length_cons, List.length_nil] at hf
    obtain ⟨g, rfl⟩ : ∃ g, f = g + 1 + 1 := ⟨f - 2, by omega⟩
    have h1' : l.map Tok.bare = bKid a ++ (sgT [45, 62] :: (bKid b ++ rb)) := by rw [h1]; simp
    have e1 := kid_atom ha iha h1' (f := g + 1) (by omega)
    have m1 := map_drop h1'
    have e2 := prod_of (post_of e1 (by rw [hit_bare m1]; decide)) (by rw [hit_bare m1]; decide)
    have m2 := tail_bare m1
    have e3 := kid_atom hb ihb m2 (f := g) (by omega)
    have m3 := map_drop m2
    rw [typ_two e2 (by rw [hit_bare m1]; decide) (typ_atom e3 m3 hn)]
    congr 2
    rw [tail_drop1, drop_app, drop_app]
    congr 1
    simp only [List.length_append, List.length_cons, List.length_nil]
    omega

end Go.Proofs.YtlagglkpbnbmeaaGreatDoor

/- The plain laws of texts read back, ready for the walks. No program in sight. -/
namespace Go.Proofs.YtlagglkpbnbmeaaGreatDoor

theorem mTxt_len7 {t : Ty} (h : ClosedTy t) : (mTxt t).length + 1 ≤ 7 * t.size := by
  have key : ∀ t : Ty, (mTxt t).length + 1 ≤ 7 * t.size → (mKid t).length ≤ 7 * t.size + 1 := by
    intro t h
    rw [mKid_eq]
    split
    · omega
    · simp only [List.length_append, List.length_cons, List.length_nil]; omega
  induction h with
  | pair a b _ _ ha hb =>
    have h1 := key a ha
    have h2 := key b hb
    rw [mTxt_pair]
    simp only [List.length_append, List.length_cons, List.length_nil, Ty.size, Ty.sizes]; omega
  | list a _ ha =>
    have h1 := key a ha
    rw [mTxt_list]
    simp only [List.length_append, List.length_cons, List.length_nil, Ty.size, Ty.sizes]; omega
  | func a b _ _ ha hb =>
    have h1 := key a ha
    have h2 := key b hb
    rw [mTxt_fun]
    simp only [List.length_append, List.length_cons, List.length_nil, Ty.size, Ty.sizes]; omega
  | _ => simp [mTxt, Ty.size, Ty.sizes, tkInt, tkBool, tkString, tkUnit]
theorem sc_scan {l : List UInt8} {bs : List BTok} (h : Sc l bs) (hl : l.length ≤ 16384) : ∃ ts, mScan l = .ok ts ∧ ts.map Tok.bare = bs := by
  obtain ⟨ts, h1, h2⟩ := h 0
  exact ⟨ts, by rw [mScan_small hl, scans_det h1]; rfl, h2⟩
theorem closed_right {t : Ty} (hr : mRight t = true) (hw : mWithout 6 t = true) : ClosedTy t := closed_of (right_ty t.size t (Nat.le_refl _) hr) hw
theorem read_at {t : Ty} (h : ClosedTy t) (a ts : List Tok) {rb : List BTok} (hm : ts.map Tok.bare = bTxt t ++ rb) (hn : NoGo rb) : mRead (a ++ ts) (a.length : Int) = (t, ((a.length + (bTxt t).length : Nat) : Int), 0) := by
  have hl : (bTxt t).length ≤ ts.length := by
    have := congrArg List.length hm
    simp only [List.length_map, List.length_append] at this
    omega
  rw [mRead, if_neg (by simp only [List.length_append]; omega), Int.toNat_natCast, List.drop_left, mTyp, rd_txt h (ts.length + 1) ts rb hm hn (by omega)]
  show (t, (((a ++ ts).length - (ts.drop (bTxt t).length).length : Nat) : Int), (0 : Int)) = _
  rw [List.length_drop, List.length_append, show a.length + ts.length - (ts.length - (bTxt t).length) = a.length + (bTxt t).length by omega]
end Go.Proofs.YtlagglkpbnbmeaaGreatDoor

