/- Told values: trees, their text; no two have one text. -/
import Derived.Test.YtccdnmjijakofaaGreatDoorVm
namespace Go.Proofs.YtccdnmjijakofaaGreatDoor
open Go Go.RowKit
set_option linter.unusedVariables false

inductive Tl where
  | int (n : Int) | bool (b : Bool) | str (s : List UInt8) | unit | func | pair (a b : Tl) | nil | cons (a r : Tl)
namespace Tl
def isL : Tl → Bool
  | nil => true
  | cons _ _ => true
  | _ => false
/-- as it may be -/
def ok : Tl → Prop
  | int n => I64 n
  | str s => s.length ≤ 200
  | pair a b => a.ok ∧ b.ok
  | cons a r => a.ok ∧ r.ok ∧ r.isL = true
  | _ => True
def va : Tl → Va
  | int n => .mk 1 n [] noCo []
  | bool b => .mk 2 (if b then 1 else 0) [] noCo []
  | str s => .mk 3 0 s noCo []
  | unit => .mk 4 0 [] noCo []
  | pair a b => .mk 5 0 [] noCo [a.va, b.va]
  | nil => .mk 6 0 [] noCo []
  | cons a r => .mk 7 0 [] noCo [a.va, r.va]
  | func => .mk 8 0 [] noCo []
/-- the text; true: of the rest of a list -/
def tx : Tl → Bool → List UInt8
  | int n, _ => mNum n
  | bool b, _ => if b then [116, 114, 117, 101] else [102, 97, 108, 115, 101]
  | str s, _ => mLong s
  | unit, _ => [40, 41]
  | func, _ => [102, 117, 110]
  | pair a b, _ => 40 :: (a.tx false ++ ([44, 32] ++ (b.tx false ++ [41])))
  | nil, m => if m then [] else [91, 93]
  | cons a r, m => if m then [44, 32] ++ (a.tx false ++ r.tx true) else 91 :: (a.tx false ++ (r.tx true ++ [93]))
end Tl

theorem mNum_shape (a : Int) : ∃ x r, mNum a = x :: r ∧ ((a < 0 ∧ x.toNat = 126) ∨ (0 ≤ a ∧ isDig x = true)) ∧ r.all isDig = true := by
  have hd := mDigits_dig a.natAbs
  unfold mNum
  split
  · exact ⟨126, _, rfl, .inl ⟨‹_›, rfl⟩, hd⟩
  · cases h : mDigits a.natAbs with
    | nil => exact absurd h (mDigits_ne _)
    | cons c r =>
      rw [h] at hd
      simp only [List.all_cons, Bool.and_eq_true] at hd
      exact ⟨c, r, rfl, .inr ⟨by omega, hd.1⟩, hd.2⟩
theorem mNum_inj {a b : Int} (h1 : I64 a) (h2 : I64 b) (h : mNum a = mNum b) : a = b := by
  have e1 := parse_num h1.1 (by have := h1.2; omega)
  have e2 := parse_num h2.1 (by have := h2.2; omega)
  rw [h, e2] at e1
  exact (Option.some.inj e1).symm
theorem mNum_20 (a : Int) : (mNum a).length ≤ 21 := by
  unfold mNum
  have := digF_len 20 a.natAbs
  split
  · rw [List.length_cons]; unfold mDigits; omega
  · unfold mDigits; omega
theorem esc_no34v (c : UInt8) : ∀ x ∈ esc c, x.toNat ≠ 34 := by
  have hx : ∀ n, n < 16 → (hexD n).toNat ≠ 34 := by decide
  intro x hx1
  unfold esc at hx1
  split at hx1
  · rename_i hp
    simp only [List.mem_singleton] at hx1
    subst hx1
    exact ((isPlain_iff' x).1 hp).2.2.1
  · have hc := c.toNat_lt
    simp only [List.mem_cons, List.not_mem_nil, or_false] at hx1
    rcases hx1 with rfl | rfl | rfl
    · decide
    · exact hx _ (by omega)
    · exact hx _ (by omega)
theorem long_lenV (t : List UInt8) : (mLong t).length ≤ 3 * t.length + 2 := by
  have h : (t.flatMap esc).length ≤ 3 * t.length := by
    induction t with
    | nil => simp
    | cons c r ih =>
      have hc : (esc c).length ≤ 3 := by unfold esc; split <;> simp
      rw [List.flatMap_cons, List.length_append, List.length_cons]
      omega
  simp only [mLong, List.length_cons, List.length_append, List.length_nil]
  omega

/-- two rows that go on behind their runs -/
theorem run_split {p : UInt8 → Bool} : ∀ {a b r s : List UInt8}, a.all p = true → b.all p = true → (∀ x t, r = x :: t → p x = false) → (∀ x t, s = x :: t → p x = false) → a ++ r = b ++ s → a = b ∧ r = s
  | [], [], r, s, _, _, _, _, h => ⟨rfl, h⟩
  | x :: a, y :: b, r, s, ha, hb, hr, hs, h => by
    simp only [List.cons_append, List.cons.injEq] at h
    simp only [List.all_cons, Bool.and_eq_true] at ha hb
    have := run_split ha.2 hb.2 hr hs h.2
    exact ⟨by rw [h.1, this.1], this.2⟩
  | [], y :: b, r, s, _, hb, hr, _, h => by
    simp only [List.all_cons, Bool.and_eq_true] at hb
    have := hr y (b ++ s) h
    rw [hb.1] at this; cases this
  | x :: a, [], r, s, ha, _, _, hs, h => by
    simp only [List.all_cons, Bool.and_eq_true] at ha
    have := hs x (a ++ r) h.symm
    rw [ha.1] at this; cases this
/-- what may stand behind a value's text -/
def Dl (r : List UInt8) : Prop := ∀ x t, r = x :: t → x = 44 ∨ x = 93 ∨ x = 41
def numCh (x : UInt8) : Bool := isDig x || x == 126
theorem mNum_all (n : Int) : (mNum n).all numCh = true := by
  obtain ⟨x, r, h, h1, h2⟩ := mNum_shape n
  rw [h, List.all_cons, Bool.and_eq_true]
  refine ⟨?_, ?_⟩
  · rcases h1 with ⟨_, h1⟩ | ⟨_, h1⟩
    · have : x = 126 := UInt8.toNat_inj.1 h1
      subst this; decide
    · unfold numCh; rw [h1]; rfl
  · rw [List.all_eq_true] at h2 ⊢
    intro y hy
    unfold numCh; rw [h2 y hy]; rfl
theorem num_split {a b : Int} {r s : List UInt8} (ha : I64 a) (hb : I64 b) (hr : Dl r) (hs : Dl s) (h : mNum a ++ r = mNum b ++ s) : a = b ∧ r = s := by
  have hd : ∀ {q : List UInt8}, Dl q → ∀ x t, q = x :: t → numCh x = false := by
    intro q hq x t e
    rcases hq x t e with rfl | rfl | rfl <;> decide
  have := run_split (mNum_all a) (mNum_all b) (hd hr) (hd hs) h
  exact ⟨mNum_inj ha hb this.1, this.2⟩
theorem long_split {a b : List UInt8} {r s : List UInt8} (ha : a.length ≤ 200) (hb : b.length ≤ 200) (h : mLong a ++ r = mLong b ++ s) : a = b ∧ r = s := by
  unfold mLong at h
  simp only [List.cons_append, List.cons.injEq, true_and, List.append_assoc] at h
  have hp : ∀ t : List UInt8, (t.flatMap esc).all (fun x => x != 34) = true := fun t => by
    rw [List.all_eq_true]
    intro x hx
    obtain ⟨c, _, hc⟩ := List.mem_flatMap.1 hx
    have := esc_no34v c x hc
    simp only [bne_iff_ne, ne_eq]
    rintro rfl
    exact this rfl
  have hq : ∀ {q : List UInt8}, ∀ x t, ([34] ++ q : List UInt8) = x :: t → (x != 34) = false := by
    intro q x t e
    simp only [List.cons_append, List.nil_append, List.cons.injEq] at e
    rw [← e.1]; rfl
  have := run_split (hp a) (hp b) (fun x t e => hq x t e) (fun x t e => hq x t e) h
  have h1 : mLong a = mLong b := by unfold mLong; rw [this.1]
  have e1 := mUnquote_long a ha
  have e2 := mUnquote_long b hb
  rw [h1, e2] at e1
  exact ⟨(Option.some.inj e1).symm, by simpa using this.2⟩
namespace Tl
/-- how a text begins -/
def tag : Tl → Nat
  | int _ => 1
  | bool true => 2
  | bool false => 5
  | func => 5
  | str _ => 3
  | unit => 6
  | pair _ _ => 6
  | nil => 7
  | cons _ _ => 7
def tagC (c : UInt8) : Nat := if numCh c then 1 else if c = 116 then 2 else if c = 102 then 5 else if c = 34 then 3 else if c = 40 then 6 else if c = 91 then 7 else 0
theorem tx_head (t : Tl) : ∃ c l, t.tx false = c :: l ∧ tagC c = t.tag := by
  cases t with
  | int n =>
    obtain ⟨x, r, h, _⟩ := mNum_shape n
    have := mNum_all n
    rw [h, List.all_cons, Bool.and_eq_true] at this
    exact ⟨x, r, h, by unfold tagC; rw [if_pos this.1]; rfl⟩
  | bool b => cases b <;> exact ⟨_, _, rfl, by decide⟩
  | str s => exact ⟨_, _, rfl, by first | decide | (show tagC _ = 3; decide) | (show tagC _ = 5; decide) | (show tagC _ = 6; decide) | (show tagC _ = 7; decide)⟩
  | _ => exact ⟨_, _, rfl, by first | decide | (show tagC _ = 3; decide) | (show tagC _ = 5; decide) | (show tagC _ = 6; decide) | (show tagC _ = 7; decide)⟩
theorem tag_pos (t : Tl) : t.tag ≠ 0 := by
  cases t with
  | bool b => cases b <;> decide
  | _ => simp [tag]
theorem tx_ne (t : Tl) {c : UInt8} (hc : tagC c = 0) (l r : List UInt8) : t.tx false ++ r ≠ c :: l := by
  obtain ⟨x, q, h, h1⟩ := t.tx_head
  rw [h]
  intro e
  simp only [List.cons_append, List.cons.injEq] at e
  rw [e.1, hc] at h1
  exact t.tag_pos h1.symm
theorem tag_of {t u : Tl} {r s : List UInt8} (h : t.tx false ++ r = u.tx false ++ s) : t.tag = u.tag := by
  obtain ⟨x, q, h1, h2⟩ := t.tx_head
  obtain ⟨y, q', h3, h4⟩ := u.tx_head
  rw [h1, h3] at h
  simp only [List.cons_append, List.cons.injEq] at h
  rw [← h2, ← h4, h.1]
theorem Dl_c (r : List UInt8) : Dl ([44, 32] ++ r) := by intro x t e; cases e; exact .inl rfl
theorem Dl_b (r : List UInt8) : Dl ([93] ++ r) := by intro x t e; cases e; exact .inr (.inl rfl)
theorem Dl_p (r : List UInt8) : Dl ([41] ++ r) := by intro x t e; cases e; exact .inr (.inr rfl)
theorem Dl_rest {t : Tl} (h : t.isL = true) (r : List UInt8) : Dl (t.tx true ++ ([93] ++ r)) := by
  cases t with
  | nil => exact Dl_b r
  | cons a b => intro x t e; cases e; exact .inl rfl
  | _ => cases h
/-- no text is the beginning of another one's, where what follows is told -/
theorem tx_inj : ∀ (t u : Tl), t.ok → u.ok → (∀ r s, Dl r → Dl s → t.tx false ++ r = u.tx false ++ s → t = u ∧ r = s) ∧
    (t.isL = true → u.isL = true → ∀ r s, t.tx true ++ ([93] ++ r) = u.tx true ++ ([93] ++ s) → t = u ∧ r = s) := by
  intro t
  induction t with
  | int n =>
    intro u h1 h2
    refine ⟨fun r s hr hs e => ?_, fun h => by cases h⟩
    have ht := tag_of e
    cases u with
    | int m =>
      have := num_split h1 h2 hr hs e
      exact ⟨by rw [this.1], this.2⟩
    | bool b => cases b <;> cases ht
    | _ => cases ht
  | bool b =>
    intro u h1 h2
    refine ⟨fun r s hr hs e => ?_, fun h => by cases h⟩
    have ht := tag_of e
    cases u with
    | bool c => cases b <;> cases c <;> first | (cases ht; done) | (simp [tx] at e; exact ⟨rfl, e⟩)
    | func => cases b <;> first | (cases ht; done) | (simp [tx] at e)
    | _ => cases b <;> cases ht
  | str a =>
    intro u h1 h2
    refine ⟨fun r s hr hs e => ?_, fun h => by cases h⟩
    have ht := tag_of e
    cases u with
    | str b =>
      have := long_split h1 h2 e
      exact ⟨by rw [this.1], this.2⟩
    | bool b => cases b <;> cases ht
    | _ => cases ht
  | unit =>
    intro u h1 h2
    refine ⟨fun r s hr hs e => ?_, fun h => by cases h⟩
    have ht := tag_of e
    cases u with
    | unit => simp [tx] at e; exact ⟨rfl, e⟩
    | pair a b =>
      simp only [tx, List.cons_append, List.nil_append, List.cons.injEq, true_and, List.append_assoc] at e
      exact absurd e.symm (a.tx_ne (by decide) _ _)
    | bool b => cases b <;> cases ht
    | _ => cases ht
  | func =>
    intro u h1 h2
    refine ⟨fun r s hr hs e => ?_, fun h => by cases h⟩
    have ht := tag_of e
    cases u with
    | func => simp [tx] at e; exact ⟨rfl, e⟩
    | bool b => cases b <;> first | (cases ht; done) | (simp [tx] at e)
    | _ => cases ht
  | pair a b iha ihb =>
    intro u h1 h2
    refine ⟨fun r s hr hs e => ?_, fun h => by cases h⟩
    have ht := tag_of e
    cases u with
    | pair a' b' =>
      simp only [tx, List.cons_append, List.cons.injEq, true_and, List.append_assoc] at e
      have q1 := (iha a' h1.1 h2.1).1 _ _ (Dl_c _) (Dl_c _) e
      have e2 := List.append_cancel_left q1.2
      have q2 := (ihb b' h1.2 h2.2).1 _ _ (Dl_p _) (Dl_p _) e2
      have e3 := List.append_cancel_left q2.2
      exact ⟨by rw [q1.1, q2.1], e3⟩
    | unit =>
      simp only [tx, List.cons_append, List.nil_append, List.cons.injEq, true_and, List.append_assoc] at e
      exact absurd e (a.tx_ne (by decide) _ _)
    | bool b => cases b <;> cases ht
    | _ => cases ht
  | nil =>
    intro u h1 h2
    refine ⟨fun r s hr hs e => ?_, fun _ hu r s e => ?_⟩
    · have ht := tag_of e
      cases u with
      | nil => simp [tx] at e; exact ⟨rfl, e⟩
      | cons a b =>
        simp only [tx, Bool.false_eq_true, if_false, List.cons_append, List.nil_append, List.cons.injEq, true_and, List.append_assoc] at e
        exact absurd e.symm (a.tx_ne (by decide) _ _)
      | bool b => cases b <;> cases ht
      | _ => cases ht
    · cases u with
      | nil => simp [tx] at e; exact ⟨rfl, e⟩
      | cons a b => simp [tx] at e
      | _ => cases hu
  | cons a b iha ihb =>
    intro u h1 h2
    refine ⟨fun r s hr hs e => ?_, fun _ hu r s e => ?_⟩
    · have ht := tag_of e
      cases u with
      | cons a' b' =>
        simp only [tx, Bool.false_eq_true, if_false, List.cons_append, List.cons.injEq, true_and, List.append_assoc] at e
        have q1 := (iha a' h1.1 h2.1).1 _ _ (Dl_rest h1.2.2 _) (Dl_rest h2.2.2 _) e
        have q2 := (ihb b' h1.2.1 h2.2.1).2 h1.2.2 h2.2.2 _ _ q1.2
        exact ⟨by rw [q1.1, q2.1], q2.2⟩
      | nil =>
        simp only [tx, Bool.false_eq_true, if_false, List.cons_append, List.nil_append, List.cons.injEq, true_and, List.append_assoc] at e
        exact absurd e (a.tx_ne (by decide) _ _)
      | bool b => cases b <;> cases ht
      | _ => cases ht
    · cases u with
      | cons a' b' =>
        simp only [tx, if_true, List.cons_append, List.nil_append, List.cons.injEq, true_and, List.append_assoc] at e
        have q1 := (iha a' h1.1 h2.1).1 _ _ (Dl_rest h1.2.2 _) (Dl_rest h2.2.2 _) e
        have q2 := (ihb b' h1.2.1 h2.2.1).2 h1.2.2 h2.2.2 _ _ q1.2
        exact ⟨by rw [q1.1, q2.1], q2.2⟩
      | nil => simp [tx] at e
      | _ => cases hu
theorem text_inj {t u : Tl} (h1 : t.ok) (h2 : u.ok) (h : t.tx false = u.tx false) : t = u :=
  ((tx_inj t u h1 h2).1 [] [] (fun _ _ e => by cases e) (fun _ _ e => by cases e) (by rw [h])).1
theorem tx_len : ∀ (t : Tl) (m : Bool), t.ok → (t.tx m).length ≤ 604 * t.va.size
  | int n, _, _ => by have := mNum_20 n; rw [tx, va, Va.size, Va.sizes]; omega
  | bool b, _, _ => by cases b <;> simp [tx, va, Va.size, Va.sizes]
  | str s, _, h => by have := long_lenV s; have h' : s.length ≤ 200 := h; rw [tx, va, Va.size, Va.sizes]; omega
  | unit, _, _ => by simp [tx, va, Va.size, Va.sizes]
  | func, _, _ => by simp [tx, va, Va.size, Va.sizes]
  | nil, m, _ => by cases m <;> simp [tx, va, Va.size, Va.sizes]
  | pair a b, _, h => by
    have h1 := tx_len a false h.1
    have h2 := tx_len b false h.2
    simp only [tx, va, Va.size, Va.sizes, List.length_cons, List.length_append, List.length_nil]
    omega
  | cons a b, m, h => by
    have h1 := tx_len a false h.1
    have h2 := tx_len b true h.2.1
    cases m <;> simp only [tx, va, Va.size, Va.sizes, List.length_cons, List.length_append, List.length_nil, Bool.false_eq_true, if_false, if_true] <;> omega
theorem va_inj : ∀ {t u : Tl}, t.va = u.va → t = u := by
  intro t
  induction t with
  | int n => intro u h; cases u <;> simp [va] at h; rw [h]
  | bool b => intro u h; cases u <;> cases b <;> simp [va] at h <;> (rename_i c; cases c <;> simp at h <;> rfl)
  | str n => intro u h; cases u <;> simp [va] at h; rw [h]
  | unit => intro u h; cases u <;> simp [va] at h; rfl
  | func => intro u h; cases u <;> simp [va] at h; rfl
  | nil => intro u h; cases u <;> simp [va] at h; rfl
  | pair a b ia ib => intro u h; cases u <;> simp [va] at h; rw [ia h.1, ib h.2]
  | cons a b ia ib => intro u h; cases u <;> simp [va] at h; rw [ia h.1, ib h.2]
end Tl
end Go.Proofs.YtccdnmjijakofaaGreatDoor
