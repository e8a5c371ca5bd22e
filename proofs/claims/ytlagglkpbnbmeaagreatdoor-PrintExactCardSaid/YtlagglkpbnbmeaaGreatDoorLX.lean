/- Bundle of Base LexM LexW1 LexW2 LexW3. -/
import Derived.Test.YtlagglkpbnbmeaaGreatDoorRows
import Derived.WalkKit
import Derived.WalkSpells
import Derived.WalkLawsBesides
import Derived.Handy
import Derived.Deep.QuietTactic
import Derived.BigQuiet

/- Small words for memory and lists that all the walks of this seat use. -/
namespace Go.Proofs.YtlagglkpbnbmeaaGreatDoor
open Go Go.RowKit

theorem hide {p : Prop} (h : p) : Hid p := h

abbrev str (l : List UInt8) : Value := .string ⟨l.toArray⟩

theorem byte_get (l : List UInt8) (i : Nat) (h : i < (⟨l.toArray⟩ : ByteArray).size) : (⟨l.toArray⟩ : ByteArray)[i]'h = l[i]'(by simpa [ByteArray.size] using h) := by
  show (l.toArray)[i]'_ = _
  simp
attribute [go_sem] byte_get ByteArray.extract_mk ByteArray.mk_append_mk

def RdB (w : World) (A : Option Addr) (bs : List UInt8) : Prop :=
  ∀ j (h : j < bs.length), ∃ ad, A = some ad ∧ w.cell? (ad.add j) = some (.int .u8 (bs[j].toNat : Int))

theorem block_of_add (a : Addr) (n : Nat) : (a.add n).block = a.block := by unfold Addr.add; split <;> rfl
theorem add_of_add (a : Addr) (i j : Nat) : (a.add i).add j = a.add (i + j) := by
  unfold Addr.add
  by_cases hi : i = 0 <;> by_cases hj : j = 0 <;> simp [hi, hj, Nat.add_assoc]

theorem RdB.keep {w w' : World} {A : Option Addr} {bs : List UInt8} (h : RdB w A bs) {B : Nat} (hB : w.heap.size ≤ B) (hb : Below B w w') : RdB w' A bs := by
  intro j hj
  obtain ⟨ad, hA, hc⟩ := h j hj
  refine ⟨ad, hA, ?_⟩
  have hlt := World.block_lt_of_cell? w _ hc
  rw [hb.cell (by omega)]
  exact hc
theorem RdB.below {w w' : World} {A : Option Addr} {bs : List UInt8} (h : RdB w A bs) (hb : Below w.heap.size w w') : RdB w' A bs := h.keep (Nat.le_refl _) hb
theorem RdB.at {w : World} {A : Option Addr} {bs : List UInt8} (h : RdB w A bs) {k : Nat} (hk : k < bs.length) :
    ∃ ad x, A = some ad ∧ w.cell? (ad.add k) = some (.int .u8 (x.toNat : Int)) ∧ bs.drop k = x :: bs.drop (k + 1) := by
  obtain ⟨ad, hA, hc⟩ := h k hk
  exact ⟨ad, bs[k], hA, hc, List.drop_eq_getElem_cons hk⟩
theorem RdB.nil (w : World) (A : Option Addr) : RdB w A [] := fun j h => absurd h (by simp)

theorem ret_int {k : IntKind} {a b : Int} (h : a = b) : Ending.returned (.int k a) = .returned (.int k b) := by rw [h]
theorem ret_bool {a b : Bool} (h : a = b) : Ending.returned (.bool a) = .returned (.bool b) := by rw [h]
theorem ret_str {a b : List UInt8} (h : a = b) : Ending.returned (str a) = .returned (str b) := by rw [h]

theorem bool_ext {a b : Bool} (h : a = true ↔ b = true) : a = b := Bool.eq_iff_iff.2 h

end Go.Proofs.YtlagglkpbnbmeaaGreatDoor

/- The plain models of layers 1 and 2: bytes, names, numbers, texts, tokens. No program in sight. -/
namespace Go.Proofs.YtlagglkpbnbmeaaGreatDoor

def isSmall (c : UInt8) : Bool := decide (97 ≤ c.toNat) && decide (c.toNat ≤ 122)
def isBig (c : UInt8) : Bool := decide (65 ≤ c.toNat) && decide (c.toNat ≤ 90)
def isDig (c : UInt8) : Bool := decide (48 ≤ c.toNat) && decide (c.toNat ≤ 57)
def isPart (c : UInt8) : Bool := isSmall c || isBig c || isDig c || c.toNat == 95 || c.toNat == 39
def isBlank (c : UInt8) : Bool := c.toNat == 9 || c.toNat == 10 || c.toNat == 13 || c.toNat == 32
def isPlain (c : UInt8) : Bool := decide (32 ≤ c.toNat) && decide (c.toNat ≤ 126) && c.toNat != 34 && c.toNat != 92
def hexV (c : UInt8) : Option Nat := if isDig c then some (c.toNat - 48) else if 97 ≤ c.toNat ∧ c.toNat ≤ 102 then some (c.toNat - 87) else none
def hexD (n : Nat) : UInt8 := if n < 10 then UInt8.ofNat (48 + n) else UInt8.ofNat (87 + n)

def kws : List (List UInt8) := [[108, 101, 116], [114, 101, 99], [105, 110], [102, 117, 110], [105, 102], [116, 104, 101, 110], [101, 108, 115, 101], [109, 97, 116, 99, 104], [119, 105, 116, 104], [101, 110, 100], [116, 114, 117, 101], [102, 97, 108, 115, 101], [105, 110, 116], [98, 111, 111, 108], [115, 116, 114, 105, 110, 103], [117, 110, 105, 116], [108, 105, 115, 116]]
def mKey (s : List UInt8) : Bool := kws.contains s
def mName (s : List UInt8) : Bool :=
  match s with
  | [] => false
  | c :: r => decide (s.length ≤ 32) && isSmall c && r.all isPart && !mKey s

def valD (u : Nat) (d : List UInt8) : Nat := d.foldl (fun u c => u * 10 + (c.toNat - 48)) u
def digF : Nat → Nat → List UInt8
  | 0, _ => []
  | f + 1, u => if u < 10 then [UInt8.ofNat (48 + u)] else digF f (u / 10) ++ [UInt8.ofNat (48 + u % 10)]
def mDigits (u : Nat) : List UInt8 := digF 20 u
def mNum (n : Int) : List UInt8 := if n < 0 then 126 :: mDigits n.natAbs else mDigits n.natAbs
def mNeg (s : List UInt8) : Bool := s.head? == some 126
def mMag (s : List UInt8) : List UInt8 := if mNeg s then s.tail else s
def numShape (neg : Bool) (d : List UInt8) : Bool := decide (1 ≤ d.length) && decide (d.length ≤ 19) && !(d.head? == some 48 && (neg || decide (1 < d.length)))
def numRange (neg : Bool) (u : Nat) : Option Int :=
  if neg then (if u ≤ 9223372036854775808 then some (-(u : Int)) else none) else if u < 9223372036854775808 then some (u : Int) else none
def mParseNum (s : List UInt8) : Option Int :=
  if numShape (mNeg s) (mMag s) && (mMag s).all isDig then numRange (mNeg s) (valD 0 (mMag s)) else none

def esc (c : UInt8) : List UInt8 := if isPlain c then [c] else [92, hexD (c.toNat / 16), hexD (c.toNat % 16)]
def mLong (s : List UInt8) : List UInt8 := 34 :: (s.flatMap esc ++ [34])
def mQuote (s : List UInt8) : Option (List UInt8) := if s.length ≤ 200 then some (mLong s) else none
def mUnq : List UInt8 → Option (List UInt8)
  | [] => some []
  | c :: r =>
    if isPlain c then (mUnq r).map (c :: ·)
    else if c.toNat = 92 then
      match r with
      | h :: l :: r' =>
        match hexV h, hexV l with
        | some a, some b => if isPlain (UInt8.ofNat (16 * a + b)) then none else (mUnq r').map (UInt8.ofNat (16 * a + b) :: ·)
        | _, _ => none
      | _ => none
    else none
def mUnquote (s : List UInt8) : Option (List UInt8) :=
  if 2 ≤ s.length ∧ s.head? = some 34 ∧ s.getLast? = some 34 then
    match mUnq s.tail.dropLast with
    | some t => if t.length ≤ 200 then some t else none
    | none => none
  else none

def mSkip : Bool → List UInt8 → List UInt8
  | _, [] => []
  | true, c :: r => if c.toNat = 10 then mSkip false r else mSkip true r
  | false, c :: r => if isBlank c then mSkip false r else if c.toNat = 35 then mSkip true r else c :: r

structure BTok where
  k : Nat
  s : List UInt8
  n : Int
  deriving DecidableEq
structure Tok where
  k : Nat
  a : Nat
  b : Nat
  s : List UInt8
  n : Int
  deriving DecidableEq
def BTok.at (t : BTok) (i j : Nat) : Tok := ⟨t.k, i, j, t.s, t.n⟩
def Tok.bare (t : Tok) : BTok := ⟨t.k, t.s, t.n⟩
def oneSign (c : UInt8) : Bool := [40, 41, 91, 93, 44, 58, 61, 124, 43, 45, 42, 47, 60, 63, 95].contains c
def twoSign (c d : UInt8) : Bool := (c == 45 && d == 62) || (c == 58 && d == 58) || (c == 61 && d == 61)
def signLen : List UInt8 → Nat
  | [] => 0
  | c :: r => if (match r with | d :: _ => twoSign c d | [] => false) then 2 else if oneSign c then 1 else 0
def mWord (s : List UInt8) : Option (BTok × Nat) := if mKey s then some (⟨2, s, 0⟩, s.length) else if mName s then some (⟨1, s, 0⟩, s.length) else none
def mNumber (s : List UInt8) : Option (BTok × Nat) := match mParseNum s with | some n => some (⟨3, [], n⟩, s.length) | none => none
def mText (r : List UInt8) : Option (BTok × Nat) :=
  if (r.takeWhile (fun x => x.toNat != 34)).length < r.length then
    match mUnquote (34 :: (r.takeWhile (fun x => x.toNat != 34) ++ [34])) with
    | some t => some (⟨4, t, 0⟩, (r.takeWhile (fun x => x.toNat != 34)).length + 2)
    | none => none
  else none
def mSign (l : List UInt8) : Option (BTok × Nat) := if signLen l = 0 then none else some (⟨5, l.take (signLen l), 0⟩, signLen l)
def mTok : List UInt8 → Option (BTok × Nat)
  | [] => none
  | c :: r =>
    if isSmall c then mWord (c :: r.takeWhile isPart)
    else if isDig c || c.toNat == 126 then mNumber (c :: r.takeWhile isDig)
    else if c.toNat = 34 then mText r
    else mSign (c :: r)
def mScanF : Nat → Nat → List UInt8 → Except Nat (List Tok)
  | 0, _, _ => .ok []
  | f + 1, off, l =>
    if mSkip false l = [] then .ok []
    else match mTok (mSkip false l) with
      | none => .error (off + (l.length - (mSkip false l).length))
      | some (t, n) =>
        match mScanF f (off + (l.length - (mSkip false l).length) + n) ((mSkip false l).drop n) with
        | .ok ts => .ok (t.at (off + (l.length - (mSkip false l).length)) (off + (l.length - (mSkip false l).length) + n) :: ts)
        | .error e => .error e
def mScanR (off : Nat) (l : List UInt8) : Except Nat (List Tok) := mScanF (l.length + 1) off l
def mScan (l : List UInt8) : Except Nat (List Tok) := if 16384 < l.length then .error 16384 else mScanR 0 l

end Go.Proofs.YtlagglkpbnbmeaaGreatDoor

/- Walks: the byte tests and the skipping of blanks, of the program's lexer and of the reference's. -/
namespace Go.Proofs.YtlagglkpbnbmeaaGreatDoor
open Go Go.RowKit

set_option maxHeartbeats 400000

theorem lexDigit_any (c : UInt8) (w : World) :
    Calls Tryz.prog 75 #[.int .u8 c.toNat] w fun e w' => e = .returned (.bool (isDig c)) ∧ w = w' := by
  have hc := c.toNat_lt
  go_enter Tryz.func75, Tryz.ntmps75
  go_wp2
  all_goals (go_ret; exact ⟨ret_bool (bool_ext (by simp [isDig] <;> omega)), rfl⟩)

theorem lexSmall_any (c : UInt8) (w : World) :
    Calls Tryz.prog 73 #[.int .u8 c.toNat] w fun e w' => e = .returned (.bool (isSmall c)) ∧ w = w' := by
  have hc := c.toNat_lt
  go_enter Tryz.func73, Tryz.ntmps73
  go_wp2
  all_goals (go_ret; exact ⟨ret_bool (bool_ext (by simp [isSmall] <;> omega)), rfl⟩)

theorem lexBelongs_any (c : UInt8) (w : World) :
    Calls Tryz.prog 109 #[.int .u8 c.toNat] w fun e w' => e = .returned (.bool (isPart c)) ∧ w = w' := by
  have hc := c.toNat_lt
  go_enter Tryz.func109, Tryz.ntmps109
  go_wp2
  all_goals (go_ret; exact ⟨ret_bool (bool_ext (by simp [isSmall, isDig, isBig, isPart, *] <;> omega)), rfl⟩)

theorem refLower_any (c : UInt8) (w : World) :
    Calls Tryz.prog 90 #[.int .u8 c.toNat] w fun e w' => e = .returned (.bool (isSmall c)) ∧ w = w' := by
  have hc := c.toNat_lt
  go_enter Tryz.func90, Tryz.ntmps90
  go_wp2
  all_goals (go_ret; exact ⟨ret_bool (bool_ext (by simp [isSmall] <;> omega)), rfl⟩)

theorem refPart_any (c : UInt8) (w : World) :
    Calls Tryz.prog 91 #[.int .u8 c.toNat] w fun e w' => e = .returned (.bool (isPart c)) ∧ w = w' := by
  have hc := c.toNat_lt
  go_enter Tryz.func91, Tryz.ntmps91
  go_wp2
  all_goals (go_ret; exact ⟨ret_bool (bool_ext (by simp [isSmall, isDig, isBig, isPart, *] <;> omega)), rfl⟩)

theorem wordInner_any (c : UInt8) (w : World) :
    Calls Tryz.prog 126 #[.int .u8 c.toNat] w fun e w' => e = .returned (.bool (isPart c)) ∧ w = w' := by
  have hc := c.toNat_lt
  go_enter Tryz.func126, Tryz.ntmps126
  go_wp2
  all_goals (go_ret; exact ⟨ret_bool (bool_ext (by simp [isSmall, isDig, isBig, isPart, *] <;> omega)), rfl⟩)

theorem wordPlain_any (c : UInt8) (w : World) :
    Calls Tryz.prog 131 #[.int .u8 c.toNat] w fun e w' => e = .returned (.bool (isPlain c)) ∧ w = w' := by
  have hc := c.toNat_lt
  go_enter Tryz.func131, Tryz.ntmps131
  go_wp2
  all_goals (go_ret; exact ⟨ret_bool (bool_ext (by simp [isPlain, *] <;> omega)), rfl⟩)

theorem hexV_cases (c : UInt8) : (48 ≤ c.toNat ∧ c.toNat ≤ 57 ∧ hexV c = some (c.toNat - 48)) ∨ (97 ≤ c.toNat ∧ c.toNat ≤ 102 ∧ hexV c = some (c.toNat - 87)) ∨
    ((c.toNat < 48 ∨ 57 < c.toNat) ∧ (c.toNat < 97 ∨ 102 < c.toNat) ∧ hexV c = none) := by
  unfold hexV isDig
  by_cases h1 : 48 ≤ c.toNat ∧ c.toNat ≤ 57
  · exact .inl ⟨h1.1, h1.2, by simp [h1]⟩
  · by_cases h2 : 97 ≤ c.toNat ∧ c.toNat ≤ 102
    · refine .inr (.inl ⟨h2.1, h2.2, ?_⟩)
      rw [if_neg (by simp; omega), if_pos h2]
    · refine .inr (.inr ⟨by omega, by omega, ?_⟩)
      rw [if_neg (by simp; omega), if_neg h2]

theorem wordDigit_any (c : UInt8) (w : World) :
    Calls Tryz.prog 135 #[.int .u8 c.toNat] w fun e w' => e = .returned (.tuple #[.int .u8 (((hexV c).getD 0 : Nat) : Int), .bool (hexV c).isSome]) ∧ w = w' := by
  have hc := c.toNat_lt
  rcases hexV_cases c with ⟨h1, h2, h⟩ | ⟨h1, h2, h⟩ | ⟨h1, h2, h⟩
  all_goals
    have H := hide h; clear h
    go_enter Tryz.func135, Tryz.ntmps135
    go_wp2
    all_goals (go_ret2; rw [H.out]; refine ⟨?_, rfl⟩; simp <;> omega)

def hexB : List UInt8 := [48, 49, 50, 51, 52, 53, 54, 55, 56, 57, 97, 98, 99, 100, 101, 102]
theorem lexSkip_any (A : Option Addr) (c i : Nat) (bs : List UInt8) (w : World) (hb : RdB w A bs) (hi : i ≤ bs.length) (hmax : bs.length ≤ 140737488351232) :
    Calls Tryz.prog 72 #[.slice A bs.length c, .int .i64 i] w fun e w' => e = .returned (.int .i64 ((bs.length - (mSkip false (bs.drop i)).length : Nat) : Int)) ∧ w = w' := by
  go_enter Tryz.func72, Tryz.ntmps72
  go_wp2
  go_loop [1] (fun i' => ∃ k : Nat, k ≤ bs.length ∧ i' = .int .i64 k ∧ mSkip false (bs.drop k) = mSkip false (bs.drop i)) (fun i' => bs.length - (intOf i').toNat)
  case atStart => exact ⟨i, hi, rfl, rfl⟩
  case round =>
    obtain ⟨k, hk, rfl, he⟩ := hrel
    have he' := hide he; clear he
    by_cases hlt : k < bs.length
    · obtain ⟨ad, x, rfl, hc, hd⟩ := hb.at hlt
      have hd' := hide hd; clear hd
      go_wp2
      all_goals simp only [beq_iff_eq, beq_eq_false_iff_ne, ne_eq] at *
      all_goals try
        go_round
        case rel => exact ⟨k + 1, by omega, by go_num, by rw [← he'.out, hd'.out, mSkip, if_pos (by simp only [isBlank, Bool.or_eq_true, beq_iff_eq]; omega)]⟩
        case measure => simp [intOf]; omega
      · go_loop [1] (fun i' => ∃ k' : Nat, k ≤ k' ∧ k' ≤ bs.length ∧ i' = .int .i64 k' ∧ mSkip true (bs.drop k') = mSkip false (bs.drop i)) (fun i' => bs.length - (intOf i').toNat)
        case atStart =>
          refine ⟨k, Nat.le_refl _, hk, rfl, ?_⟩
          rw [← he'.out, hd'.out, mSkip, mSkip, if_neg (by omega), if_neg (by simp only [isBlank, Bool.or_eq_true, beq_iff_eq]; omega), if_pos (by omega)]
        case round =>
          obtain ⟨k', hk1, hk2, rfl, h2⟩ := hrel
          have h2' := hide h2; clear h2
          by_cases hlt2 : k' < bs.length
          · obtain ⟨ad', y, hA2, hc2, hd2⟩ := hb.at hlt2
            cases hA2
            have hd2' := hide hd2; clear hd2
            go_wp2
            all_goals simp only [bne_iff_ne, bne_eq_false_iff_eq, ne_eq] at *
            · go_round
              case rel => exact ⟨k' + 1, by omega, by omega, by go_num, by rw [← h2'.out, hd2'.out, mSkip, if_neg (by omega)]⟩
              case measure => simp [intOf]; omega
            · go_round
              case rel => exact ⟨k', by omega, by go_num, by rw [← h2'.out, hd2'.out, mSkip, mSkip, if_pos (by simp only [isBlank, Bool.or_eq_true, beq_iff_eq]; omega), if_pos (by omega)]⟩
              case measure =>
                have hne : k ≠ k' := by
                  rintro rfl
                  have e := hd'.out.symm.trans hd2'.out
                  injection e with e
                  subst e
                  omega
                simp [intOf]; omega
          · go_wp2
            go_round
            case rel => exact ⟨k', by omega, by go_num, by rw [← h2'.out, List.drop_eq_nil_of_le (by omega)]; rfl⟩
            case measure => simp [intOf]; omega
      · go_ret
        refine ⟨ret_int ?_, rfl⟩
        rw [← he'.out, hd'.out, mSkip, if_neg (by simp only [isBlank, Bool.or_eq_true, beq_iff_eq]; omega), if_neg (by omega), ← hd'.out, List.length_drop]
        omega
    · go_wp2
      go_ret
      have : k = bs.length := by omega
      subst this
      refine ⟨ret_int ?_, rfl⟩
      rw [← he'.out, List.drop_eq_nil_of_le (Nat.le_refl _)]
      simp [mSkip]

end Go.Proofs.YtlagglkpbnbmeaaGreatDoor

/- Walks: key words and names, of the program and of the reference. -/
namespace Go.Proofs.YtlagglkpbnbmeaaGreatDoor
open Go Go.RowKit

set_option maxHeartbeats 1000000

theorem mKey_cases (s : List UInt8) : (mKey s = true ∧ s ∈ kws) ∨ (mKey s = false ∧ ∀ k ∈ kws, (s == k) = false) := by
  unfold mKey
  by_cases h : s ∈ kws
  · exact .inl ⟨List.contains_iff_mem.2 h, h⟩
  · refine .inr ⟨by simpa using h, fun k hk => ?_⟩
    rw [beq_eq_false_iff_ne]
    rintro rfl
    exact h hk

theorem wordKey_any (l : List UInt8) (w : World) :
    Calls Tryz.prog 110 #[str l] w fun e w' => e = .returned (.bool (mKey l)) ∧ w = w' := by
  rcases mKey_cases l with ⟨h1, h2⟩ | ⟨h1, h2⟩
  · have H := hide h1; clear h1
    simp only [kws, List.mem_cons, List.not_mem_nil, or_false] at h2
    rcases h2 with rfl | rfl | rfl | rfl | rfl | rfl | rfl | rfl | rfl | rfl | rfl | rfl | rfl | rfl | rfl | rfl | rfl
    all_goals
      go_enter Tryz.func110, Tryz.ntmps110
      go_wp2
      go_ret
      exact ⟨ret_bool H.out.symm, rfl⟩
  · have H := hide h1; clear h1
    simp only [kws, List.forall_mem_cons] at h2
    obtain ⟨h1, h2, h3, h4, h5, h6, h7, h8, h9, h10, h11, h12, h13, h14, h15, h16, h17⟩ := h2
    go_enter Tryz.func110, Tryz.ntmps110
    go_wp2
    go_ret
    exact ⟨ret_bool H.out.symm, rfl⟩

theorem mName_at (l : List UInt8) (h : 0 < l.length) : mName l = (decide (l.length ≤ 32) && isSmall (l[0]'h) && (l.drop 1).all isPart && !mKey l) := by
  cases l with
  | nil => simp at h
  | cons c r => rfl

theorem str_at (l : List UInt8) {k : Nat} (hk : k < l.length) : ∃ x, l[k]'hk = x ∧ l.drop k = x :: l.drop (k + 1) := ⟨l[k], rfl, List.drop_eq_getElem_cons hk⟩

theorem wordName_any (l : List UInt8) (w : World) (hmax : l.length ≤ 140737488351232) :
    Calls Tryz.prog 96 #[str l] w fun e w' => e = .returned (.bool (mName l)) ∧ w = w' := by
  by_cases h1 : l.length < 1
  · go_enter Tryz.func96, Tryz.ntmps96
    go_wp2_with fail
    go_ret
    have : l = [] := List.eq_nil_of_length_eq_zero (by omega)
    subst this
    exact ⟨rfl, rfl⟩
  · obtain ⟨x, hx, hd⟩ := str_at l (k := 0) (by omega)
    have hN := mName_at l (by omega)
    rw [hx] at hN
    have hN' := hide hN; clear hN hd
    by_cases h2 : 32 < l.length
    · go_enter Tryz.func96, Tryz.ntmps96
      go_wp2_with fail
      go_ret
      refine ⟨ret_bool ?_, rfl⟩
      rw [hN'.out]
      simp; omega
    · by_cases h3 : 97 ≤ x.toNat ∧ x.toNat ≤ 122
      · obtain ⟨h3, h4⟩ := h3
        have hsm : isSmall x = true := by simp [isSmall, h3, h4]
        have hsm' := hide hsm; clear hsm
        cases hkey : mKey l
        · have hkey' := hide hkey; clear hkey
          go_enter Tryz.func96, Tryz.ntmps96
          go_wp2_with (go_at_call 110; refine (wordKey_any l _).mono ?_; rintro e w' ⟨rfl, rfl⟩; rw [hkey'.out])
          go_loop [3] (fun i => ∃ k : Nat, 1 ≤ k ∧ k ≤ l.length ∧ i = .int .i64 k ∧ (l.drop 1).all isPart = (l.drop k).all isPart) (fun i => l.length - (intOf i).toNat)
          case atStart => exact ⟨1, by omega, by omega, rfl, rfl⟩
          case round =>
            obtain ⟨k, hk1, hk2, rfl, he⟩ := hrel
            have he' := hide he; clear he
            by_cases hlt : k < l.length
            · obtain ⟨y, hy, hdy⟩ := str_at l hlt
              have hdy' := hide hdy; clear hdy
              cases hp : isPart y
              · have hp' := hide hp; clear hp
                go_wp2_with (go_at_call 126; refine (wordInner_any y _).mono ?_; rintro e w' ⟨rfl, rfl⟩; rw [hp'.out])
                go_ret
                refine ⟨ret_bool ?_, rfl⟩
                rw [hN'.out, he'.out, hdy'.out]
                simp [hp'.out]
              · have hp' := hide hp; clear hp
                go_wp2_with (go_at_call 126; refine (wordInner_any y _).mono ?_; rintro e w' ⟨rfl, rfl⟩; rw [hp'.out])
                go_round
                case rel => exact ⟨k + 1, by omega, by omega, by go_num, by rw [he'.out, hdy'.out]; simp [hp'.out]⟩
                case measure => simp [intOf]; omega
            · go_wp2_with fail
              go_ret
              refine ⟨ret_bool ?_, rfl⟩
              rw [hN'.out, he'.out, List.drop_eq_nil_of_le (by omega), hkey'.out, hsm'.out]
              simp; omega
        · have hkey' := hide hkey; clear hkey
          go_enter Tryz.func96, Tryz.ntmps96
          go_wp2_with (go_at_call 110; refine (wordKey_any l _).mono ?_; rintro e w' ⟨rfl, rfl⟩; rw [hkey'.out])
          go_ret
          refine ⟨ret_bool ?_, rfl⟩
          rw [hN'.out, hkey'.out]
          simp
      · have hsm : isSmall x = false := by simp [isSmall]; omega
        have hsm' := hide hsm; clear hsm
        go_enter Tryz.func96, Tryz.ntmps96
        go_wp2_with fail
        all_goals
          go_ret
          refine ⟨ret_bool ?_, rfl⟩
          rw [hN'.out, hsm'.out]
          simp

def wordsB : List UInt8 := [32, 108, 101, 116, 32, 114, 101, 99, 32, 105, 110, 32, 102, 117, 110, 32, 105, 102, 32, 116, 104, 101, 110, 32, 101, 108, 115, 101, 32, 109, 97, 116, 99, 104, 32, 119, 105, 116, 104, 32, 101, 110, 100, 32, 116, 114, 117, 101, 32, 102, 97, 108, 115, 101, 32, 105, 110, 116, 32, 98, 111, 111, 108, 32, 115, 116, 114, 105, 110, 103, 32, 117, 110, 105, 116, 32, 108, 105, 115, 116, 32]
theorem wordsB_len : wordsB.length = 81 := rfl
theorem kws_at : ∀ s ∈ kws, ∃ k, k + (s.length + 2) ≤ 81 ∧ (wordsB.drop k).take (s.length + 2) = 32 :: (s ++ [32]) := by
  intro s hs
  have h : ∀ s ∈ kws, ∃ k : Fin 81, k.val + (s.length + 2) ≤ 81 ∧ (wordsB.drop k.val).take (s.length + 2) = 32 :: (s ++ [32]) := by decide +kernel
  obtain ⟨k, h1, h2⟩ := h s hs
  exact ⟨k.val, h1, h2⟩
theorem kws_small : ∀ s ∈ kws, s.all isSmall = true := by decide +kernel
theorem kws_of_at (s : List UInt8) (k : Nat) (hs : s.all isSmall = true) (h0 : 0 < s.length) (h : (wordsB.drop k).take (s.length + 2) = 32 :: (s ++ [32])) : s ∈ kws := by
  have hk : k < 81 := by
    rcases Nat.lt_or_ge k 81 with h1 | h1
    · exact h1
    · rw [List.drop_eq_nil_of_le (by rw [wordsB_len]; exact h1)] at h
      simp at h
  have key : ∀ k : Fin 81, ((wordsB.drop (k.val + 1)).takeWhile isSmall) ∈ kws ∨ ((wordsB.drop (k.val + 1)).takeWhile isSmall) = [] ∨ wordsB[k.val]? ≠ some 32 := by decide +kernel
  have htw : (wordsB.drop (k + 1)).takeWhile isSmall = s := by
    have e : wordsB.drop (k + 1) = s ++ 32 :: (wordsB.drop k).drop (s.length + 2) := by
      have e1 : wordsB.drop k = (32 :: (s ++ [32])) ++ (wordsB.drop k).drop (s.length + 2) := by rw [← h, List.take_append_drop]
      have e2 : wordsB.drop (k + 1) = (wordsB.drop k).drop 1 := by rw [List.drop_drop]
      rw [e2]
      conv => lhs; rw [e1]
      simp
    rw [e, List.takeWhile_append_of_pos (by simpa using hs)]
    have : isSmall 32 = false := by decide
    simp [this]
  rcases key ⟨k, hk⟩ with h1 | h1 | h1
  · rwa [htw] at h1
  · rw [htw] at h1
    subst h1
    simp at h0
  · exfalso
    apply h1
    have : ((wordsB.drop k).take (s.length + 2))[0]? = some 32 := by rw [h]; rfl
    simpa [List.getElem?_take, List.getElem?_drop] using this

theorem refKey_any (l : List UInt8) (w : World) (hmax : l.length ≤ 140737488351232) :
    Calls Tryz.prog 92 #[str l] w fun e w' => e = .returned (.bool (mKey l)) ∧ w = w' := by
  go_enter Tryz.func92, Tryz.ntmps92
  go_wp2_with fail
  go_loop [3] (fun i => ∃ k : Nat, k ≤ l.length ∧ i = .int .i64 k ∧ l.all isSmall = (l.drop k).all isSmall) (fun i => l.length - (intOf i).toNat)
  case atStart => exact ⟨0, by omega, rfl, rfl⟩
  case round =>
    obtain ⟨k, hk, rfl, he⟩ := hrel
    have he' := hide he; clear he
    by_cases hlt : k < l.length
    · obtain ⟨y, hy, hdy⟩ := str_at l hlt
      have hdy' := hide hdy; clear hdy
      cases hp : isSmall y
      · have hp' := hide hp; clear hp
        go_wp2_with (go_at_call 90; refine (refLower_any y _).mono ?_; rintro e w' ⟨rfl, rfl⟩; rw [hp'.out])
        go_ret
        refine ⟨ret_bool ?_, rfl⟩
        cases hm : mKey l
        · rfl
        · exfalso
          have h2 := kws_small l (List.contains_iff_mem.1 hm)
          rw [he'.out, hdy'.out] at h2
          simp [hp'.out] at h2
      · have hp' := hide hp; clear hp
        go_wp2_with (go_at_call 90; refine (refLower_any y _).mono ?_; rintro e w' ⟨rfl, rfl⟩; rw [hp'.out])
        go_round
        case rel => exact ⟨k + 1, by omega, by go_num, by rw [he'.out, hdy'.out]; simp [hp'.out]⟩
        case measure => simp [intOf]; omega
    · have hall : l.all isSmall = true := by rw [he'.out, List.drop_eq_nil_of_le (by omega)]; rfl
      have hall' := hide hall; clear hall
      go_wp2_with fail
      go_loop [5] (fun i => ∃ k : Nat, i = .int .i64 k ∧ k ≤ 81 ∧ ∀ j, j < k → ¬ (0 < l.length ∧ (wordsB.drop j).take (l.length + 2) = 32 :: (l ++ [32]))) (fun i => 82 - (intOf i).toNat)
      case atStart => exact ⟨0, rfl, by omega, fun j h => by omega⟩
      case round =>
        obtain ⟨k, rfl, hk81, hall2⟩ := hrel
        have hno := hide hall2; clear hall2
        go_wp2_with fail
        · have h1 : 0 < l.length := by assumption
          have hh : (List.take (l.length + 1 + 1) (List.drop k wordsB) == 32 :: (l ++ [32])) = true := by unfold wordsB; assumption
          go_ret
          refine ⟨ret_bool ?_, rfl⟩
          exact (List.contains_iff_mem.2 (kws_of_at l k hall'.out h1 (beq_iff_eq.1 hh))).symm
        · have hh : (List.take (l.length + 1 + 1) (List.drop k wordsB) == 32 :: (l ++ [32])) = false := by unfold wordsB; assumption
          go_round
          case rel =>
            refine ⟨k + 1, by go_num, by omega, fun j hj => ?_⟩
            rcases Nat.lt_or_ge j k with h1 | h1
            · exact hno.out j h1
            · have : j = k := by omega
              subst this
              exact fun h2 => beq_eq_false_iff_ne.1 hh h2.2
          case measure => simp [intOf]; omega
        · go_round
          case rel => exact ⟨k + 1, by go_num, by omega, fun j hj h2 => absurd h2.1 (by assumption)⟩
          case measure => simp [intOf]; omega
        · go_ret
          refine ⟨ret_bool ?_, rfl⟩
          cases hm : mKey l
          · rfl
          · exfalso
            have hmem := List.contains_iff_mem.1 hm
            obtain ⟨j, h1, h2⟩ := kws_at l hmem
            have h0 : 0 < l.length := by
              rcases Nat.eq_zero_or_pos l.length with h0 | h0
              · rw [List.eq_nil_of_length_eq_zero h0] at hmem
                exact absurd hmem (by decide)
              · exact h0
            exact hno.out j (by omega) ⟨h0, h2⟩

theorem refName_any (l : List UInt8) (w : World) (hmax : l.length ≤ 140737488351232) :
    Calls Tryz.prog 53 #[str l] w fun e w' => e = .returned (.bool (mName l)) ∧ w = w' := by
  by_cases h1 : l.length < 1
  · go_enter Tryz.func53, Tryz.ntmps53
    go_wp2_with fail
    go_ret
    have : l = [] := List.eq_nil_of_length_eq_zero (by omega)
    subst this
    exact ⟨rfl, rfl⟩
  · obtain ⟨x, hx, hd⟩ := str_at l (k := 0) (by omega)
    have hN := mName_at l (by omega)
    rw [hx] at hN
    have hN' := hide hN; clear hN
    have hd' := hide hd; clear hd
    by_cases h2 : 32 < l.length
    · go_enter Tryz.func53, Tryz.ntmps53
      go_wp2_with fail
      go_ret
      refine ⟨ret_bool ?_, rfl⟩
      rw [hN'.out]
      simp; omega
    · cases hsm : isSmall x
      · have hsm' := hide hsm; clear hsm
        go_enter Tryz.func53, Tryz.ntmps53
        go_wp2_with (go_at_call 90; refine (refLower_any x _).mono ?_; rintro e w' ⟨rfl, rfl⟩; rw [hsm'.out])
        go_ret
        refine ⟨ret_bool ?_, rfl⟩
        rw [hN'.out, hsm'.out]
        simp
      · have hsm' := hide hsm; clear hsm
        have hpx : isPart x = true := by simp [isPart, hsm'.out]
        have hpx' := hide hpx; clear hpx
        go_enter Tryz.func53, Tryz.ntmps53
        go_wp2_with (go_at_call 90; refine (refLower_any x _).mono ?_; rintro e w' ⟨rfl, rfl⟩; rw [hsm'.out])
        go_loop [3] (fun i => ∃ k : Nat, k ≤ l.length ∧ i = .int .i64 k ∧ (l.drop 0).all isPart = (l.drop k).all isPart) (fun i => l.length - (intOf i).toNat)
        case atStart => exact ⟨0, by omega, rfl, rfl⟩
        case round =>
          obtain ⟨k, hk2, rfl, he⟩ := hrel
          have he' := hide he; clear he
          by_cases hlt : k < l.length
          · obtain ⟨y, hy, hdy⟩ := str_at l hlt
            have hdy' := hide hdy; clear hdy
            cases hp : isPart y
            · have hp' := hide hp; clear hp
              go_wp2_with (go_at_call 91; refine (refPart_any y _).mono ?_; rintro e w' ⟨rfl, rfl⟩; rw [hp'.out])
              go_ret
              refine ⟨ret_bool ?_, rfl⟩
              have h3 := he'.out
              rw [hd'.out, hdy'.out] at h3
              simp only [List.all_cons, hpx'.out, hp'.out, Bool.true_and, Bool.false_and, Nat.zero_add] at h3
              rw [hN'.out, h3]
              simp
            · have hp' := hide hp; clear hp
              go_wp2_with (go_at_call 91; refine (refPart_any y _).mono ?_; rintro e w' ⟨rfl, rfl⟩; rw [hp'.out])
              go_round
              case rel => exact ⟨k + 1, by omega, by go_num, by rw [he'.out, hdy'.out]; simp [hp'.out]⟩
              case measure => simp [intOf]; omega
          · have h3 := he'.out
            rw [hd'.out, List.drop_eq_nil_of_le (show l.length ≤ k by omega)] at h3
            simp only [List.all_cons, hpx'.out, Bool.true_and, List.all_nil, Nat.zero_add] at h3
            have h3' := hide h3; clear h3
            go_wp2_with (go_at_call 92; refine (refKey_any l _ (by omega)).mono ?_; rintro e w' ⟨rfl, rfl⟩)
            go_ret
            refine ⟨ret_bool ?_, rfl⟩
            rw [hN'.out, h3'.out, hsm'.out]
            simp; omega

end Go.Proofs.YtlagglkpbnbmeaaGreatDoor

/- Walks: the reading of numbers, of the program and of the reference. -/
namespace Go.Proofs.YtlagglkpbnbmeaaGreatDoor
open Go Go.RowKit

set_option maxHeartbeats 1000000
set_option maxRecDepth 100000

theorem isDig_iff (c : UInt8) : isDig c = true ↔ 48 ≤ c.toNat ∧ c.toNat ≤ 57 := by simp [isDig]
theorem pow_le_18 (k : Nat) (h : k ≤ 18) : 10 ^ k ≤ 1000000000000000000 := by
  have := Nat.pow_le_pow_right (n := 10) (by omega) h
  simpa using this
def numV (s : List UInt8) : Int := (mParseNum s).getD 0
def numE (s : List UInt8) : Int := if (mParseNum s).isSome then 0 else 3
theorem numVE_some {s : List UInt8} {v : Int} (h : mParseNum s = some v) : numV s = v ∧ numE s = 0 := by simp [numV, numE, h]
theorem numVE_none {s : List UInt8} (h : mParseNum s = none) : numV s = 0 ∧ numE s = 3 := by simp [numV, numE, h]
theorem mNeg_cons (c : UInt8) (d : List UInt8) : mNeg (c :: d) = decide (c.toNat = 126) := by
  have : (c = 126) ↔ (c.toNat = 126) := by rw [← UInt8.toNat_inj]; rfl
  simp only [mNeg, List.head?_cons]
  by_cases h : c = 126
  · simp [h]
  · rw [Bool.eq_iff_iff]; simp [h, ← this]
theorem wrap_neg_u64 (v : Nat) (h : v ≤ 9223372036854775808) : wrap64 (IntKind.u64.wrap (-(v : Int))) = -(v : Int) := by
  simp only [wrap64, IntKind.wrap_u64]
  omega
theorem parse_neg (d : List UInt8) : mParseNum (126 :: d) = if numShape true d && d.all isDig then numRange true (valD 0 d) else none := rfl
theorem parse_pos (c : UInt8) (r : List UInt8) (h : c.toNat ≠ 126) : mParseNum (c :: r) = if numShape false (c :: r) && (c :: r).all isDig then numRange false (valD 0 (c :: r)) else none := by
  have e : mNeg (c :: r) = false := by rw [mNeg_cons]; simp [h]
  unfold mParseNum mMag
  rw [e]
  rfl

theorem wordParseNum_neg (d : List UInt8) (w : World) (hmax : d.length ≤ 140737488351231) :
    Calls Tryz.prog 111 #[str (126 :: d)] w fun e w' => e = .returned (.tuple #[.int .i64 (numV (126 :: d)), .int .i64 (numE (126 :: d))]) ∧ w = w' := by
  have hp' := hide (parse_neg d)
  by_cases h1 : numShape true d = true
  · have h1' := hide h1
    simp only [numShape, Bool.and_eq_true, decide_eq_true_eq, Bool.true_or, Bool.and_true, Bool.not_eq_true', beq_eq_false_iff_ne, ne_eq] at h1
    obtain ⟨⟨hs1, hs2⟩, h48⟩ := h1
    obtain ⟨x, hx, hdx⟩ := str_at d (k := 0) (by omega)
    have h48' : ((x.toNat : Int) == 48) = false := by
      rw [beq_eq_false_iff_ne]
      intro e
      apply h48
      have : x = 48 := UInt8.toNat_inj.1 (by show x.toNat = 48; omega)
      rw [show d.head? = (d.drop 0).head? from rfl, hdx, this]
      rfl
    have hs1' : 1 ≤ (d.length : Int) := by omega
    have hdx' := hide hdx
    clear hdx h48
    go_enter Tryz.func111, Tryz.ntmps111
    go_wp2_with fail
    go_loop [6, 7] (fun u i => ∃ k v : Nat, k ≤ d.length ∧ i = .int .i64 k ∧ u = .int .u64 v ∧ v + 1 ≤ 10 ^ k ∧ valD v (d.drop k) = valD 0 d ∧ (d.drop k).all isDig = d.all isDig) (fun _ i => d.length - (intOf i).toNat)
    case atStart => exact ⟨0, 0, by omega, rfl, rfl, by omega, rfl, rfl⟩
    case round =>
      obtain ⟨k, v, hk, rfl, rfl, hv, he, ha⟩ := hrel
      have he' := hide he; clear he
      have ha' := hide ha; clear ha
      have hv' := hide hv; clear hv
      by_cases hlt : k < d.length
      · have hv18 : v ≤ 999999999999999999 := by
          have := pow_le_18 k (by omega)
          have := hv'.out
          omega
        obtain ⟨y, hy, hdy⟩ := str_at d hlt
        have hdy' := hide hdy; clear hdy
        by_cases hp : 48 ≤ y.toNat ∧ y.toNat ≤ 57
        · have hpd := hide ((isDig_iff y).2 hp)
          obtain ⟨hp1, hp2⟩ := hp
          go_wp2_with fail
          go_round
          case rel =>
            refine ⟨k + 1, v * 10 + (y.toNat - 48), by omega, by go_num, by go_num, ?_, ?_, ?_⟩
            · have := hv'.out
              rw [Nat.pow_succ]
              omega
            · rw [← he'.out, hdy'.out]
              rfl
            · rw [← ha'.out, hdy'.out]
              simp [hpd.out]
          case measure => simp [intOf]; omega
        · have hpd : Hid (isDig y = false) := by
            refine hide ?_
            rw [← Bool.not_eq_true, isDig_iff]
            exact hp
          go_wp2_with fail
          all_goals
            go_ret2
            have hnone : mParseNum (126 :: d) = none := by
              rw [hp'.out, ← ha'.out, hdy'.out]
              simp [hpd.out]
            rw [(numVE_none hnone).1, (numVE_none hnone).2]
            exact ⟨rfl, rfl⟩
      · have hkd : k = d.length := by omega
        subst hkd
        have hvv : v = valD 0 d := by
          have := he'.out
          rw [List.drop_eq_nil_of_le (Nat.le_refl _)] at this
          exact this
        have hall : d.all isDig = true := by
          have := ha'.out
          rw [List.drop_eq_nil_of_le (Nat.le_refl _)] at this
          exact this.symm
        have hp2 : mParseNum (126 :: d) = numRange true v := by
          rw [hp'.out, hall, hvv]
          simp only [h1'.out, Bool.and_true, if_true]
        have hp2' := hide hp2; clear hp2
        clear hvv hall
        by_cases hr : (v : Int) ≤ 9223372036854775808
        · have hsome : Hid (mParseNum (126 :: d) = some (-(v : Int))) := by
            refine hide ?_
            rw [hp2'.out, numRange]
            rw [if_pos rfl, if_pos (by omega)]
          go_wp2_with fail
          go_ret2
          rw [(numVE_some hsome.out).1, (numVE_some hsome.out).2]
          exact ⟨congrArg (fun x => Ending.returned (.tuple #[.int .i64 x, .int .i64 0])) (wrap_neg_u64 v (by omega)), rfl⟩
        · have hnone : Hid (mParseNum (126 :: d) = none) := by
            refine hide ?_
            rw [hp2'.out, numRange]
            rw [if_pos rfl, if_neg (by omega)]
          go_wp2_with fail
          go_ret2
          rw [(numVE_none hnone.out).1, (numVE_none hnone.out).2]
          exact ⟨rfl, rfl⟩
  · have h1' : numShape true d = false := by simpa using h1
    have hsh := h1'
    simp only [numShape, Bool.true_or, Bool.and_true] at hsh
    have h1'' := hide h1'; clear h1' h1
    by_cases ha : d.length < 1
    · have : d = [] := List.eq_nil_of_length_eq_zero (by omega)
      subst this
      go_enter Tryz.func111, Tryz.ntmps111
      go_wp2_with fail
      go_ret2
      exact ⟨rfl, rfl⟩
    · by_cases hb : 19 < d.length
      · clear hsh
        go_enter Tryz.func111, Tryz.ntmps111
        go_wp2_with fail
        go_ret2
        have hnone : mParseNum (126 :: d) = none := by rw [hp'.out, h1''.out]; rfl
        rw [(numVE_none hnone).1, (numVE_none hnone).2]
        exact ⟨rfl, rfl⟩
      · obtain ⟨x, hx, hdx⟩ := str_at d (k := 0) (by omega)
        have hx48 : x = 48 := by
          have hh : d.head? = some x := by rw [show d.head? = (d.drop 0).head? from rfl, hdx]; rfl
          rw [hh] at hsh
          simpa [show 1 ≤ d.length by omega, show d.length ≤ 19 by omega] using hsh
        clear hsh
        have h48' : ((x.toNat : Int) == 48) = true := by subst hx48; rfl
        clear hdx hx48
        have hs1' : 1 ≤ (d.length : Int) := by omega
        go_enter Tryz.func111, Tryz.ntmps111
        go_wp2_with fail
        all_goals
          go_ret2
          have hnone : mParseNum (126 :: d) = none := by rw [hp'.out, h1''.out]; rfl
          rw [(numVE_none hnone).1, (numVE_none hnone).2]
          exact ⟨rfl, rfl⟩

theorem wordParseNum_pos (d : List UInt8) (c : UInt8) (r : List UInt8) (hd : d = c :: r) (hc : c.toNat ≠ 126) (w : World) (hmax : d.length ≤ 140737488351232) :
    Calls Tryz.prog 111 #[str d] w fun e w' => e = .returned (.tuple #[.int .i64 (numV d), .int .i64 (numE d)]) ∧ w = w' := by
  have hlen : 1 ≤ d.length := by rw [hd]; simp
  have hp' : Hid (mParseNum d = if numShape false d && d.all isDig then numRange false (valD 0 d) else none) := hide (by rw [hd]; exact parse_pos c r hc)
  have hd0 : d[0]'hlen = c := by subst hd; rfl
  have hhd : d.head? = some c := by rw [hd]; rfl
  have hhd' := hide hhd; clear hhd
  clear hd
  have h126 : ((c.toNat : Int) == 126) = false := by rw [beq_eq_false_iff_ne]; omega
  have hs1' : 1 ≤ (d.length : Int) := by omega
  by_cases h1 : numShape false d = true
  · have h1' := hide h1
    simp only [numShape, Bool.and_eq_true, decide_eq_true_eq, Bool.false_or, Bool.not_eq_true', Bool.and_eq_false_iff, beq_eq_false_iff_ne, ne_eq, decide_eq_false_iff_not, hhd'.out] at h1
    obtain ⟨⟨_, hs2⟩, h48⟩ := h1
    have hcase : (((c.toNat : Int) == 48) = false) ∨ (((c.toNat : Int) == 48) = true ∧ d.length ≤ 1) := by
      by_cases e : c.toNat = 48
      · refine .inr ⟨by simp [e], ?_⟩
        rcases h48 with h48 | h48
        · exact absurd (by rw [show c = 48 from UInt8.toNat_inj.1 e]) h48
        · omega
      · exact .inl (by rw [beq_eq_false_iff_ne]; omega)
    clear h48
    rcases hcase with h48 | ⟨h48, hs3⟩
    all_goals
      go_enter Tryz.func111, Tryz.ntmps111
      go_wp2_with fail
      go_loop [6, 7] (fun u i => ∃ k v : Nat, k ≤ d.length ∧ i = .int .i64 k ∧ u = .int .u64 v ∧ v + 1 ≤ 10 ^ k ∧ valD v (d.drop k) = valD 0 d ∧ (d.drop k).all isDig = d.all isDig) (fun _ i => d.length - (intOf i).toNat)
      case atStart => exact ⟨0, 0, by omega, rfl, rfl, by omega, rfl, rfl⟩
      case round =>
        obtain ⟨k, v, hk, rfl, rfl, hv, he, ha⟩ := hrel
        have he' := hide he; clear he
        have ha' := hide ha; clear ha
        have hv' := hide hv; clear hv
        by_cases hlt : k < d.length
        · have hv18 : v ≤ 999999999999999999 := by
            have := pow_le_18 k (by omega)
            have := hv'.out
            omega
          obtain ⟨y, hy, hdy⟩ := str_at d hlt
          have hdy' := hide hdy; clear hdy
          by_cases hp : 48 ≤ y.toNat ∧ y.toNat ≤ 57
          · have hpd := hide ((isDig_iff y).2 hp)
            obtain ⟨hp1, hp2⟩ := hp
            go_wp2_with fail
            go_round
            case rel =>
              refine ⟨k + 1, v * 10 + (y.toNat - 48), by omega, by go_num, by go_num, ?_, ?_, ?_⟩
              · have := hv'.out
                rw [Nat.pow_succ]
                omega
              · rw [← he'.out, hdy'.out]
                rfl
              · rw [← ha'.out, hdy'.out]
                simp [hpd.out]
            case measure => simp [intOf]; omega
          · have hpd : Hid (isDig y = false) := by
              refine hide ?_
              rw [← Bool.not_eq_true, isDig_iff]
              exact hp
            go_wp2_with fail
            all_goals
              go_ret2
              have hnone : mParseNum d = none := by
                rw [hp'.out, ← ha'.out, hdy'.out]
                simp [hpd.out]
              rw [(numVE_none hnone).1, (numVE_none hnone).2]
              exact ⟨rfl, rfl⟩
        · have hkd : k = d.length := by omega
          subst hkd
          have hvv : v = valD 0 d := by
            have := he'.out
            rw [List.drop_eq_nil_of_le (Nat.le_refl _)] at this
            exact this
          have hall : d.all isDig = true := by
            have := ha'.out
            rw [List.drop_eq_nil_of_le (Nat.le_refl _)] at this
            exact this.symm
          have hp2 : mParseNum d = numRange false v := by
            rw [hp'.out, hall, hvv]
            simp only [h1'.out, Bool.and_true, if_true]
          have hp2' := hide hp2; clear hp2
          clear hvv hall
          by_cases hr : (v : Int) < 9223372036854775808
          · have hsome : Hid (mParseNum d = some ((v : Int))) := by
              refine hide ?_
              rw [hp2'.out, numRange]
              rw [if_neg (by decide), if_pos (by omega)]
            go_wp2_with fail
            go_ret2
            rw [(numVE_some hsome.out).1, (numVE_some hsome.out).2]
            exact ⟨rfl, rfl⟩
          · have hnone : Hid (mParseNum d = none) := by
              refine hide ?_
              rw [hp2'.out, numRange]
              rw [if_neg (by decide), if_neg (by omega)]
            go_wp2_with fail
            go_ret2
            rw [(numVE_none hnone.out).1, (numVE_none hnone.out).2]
            exact ⟨rfl, rfl⟩
  · have h1' : numShape false d = false := by simpa using h1
    have hsh := h1'
    simp only [numShape, Bool.false_or, hhd'.out] at hsh
    have h1'' := hide h1'; clear h1' h1
    have hcase : 19 < d.length ∨ (((c.toNat : Int) == 48) = true ∧ 1 < d.length ∧ d.length ≤ 19) := by
      by_cases hb : 19 < d.length
      · exact .inl hb
      · refine .inr ?_
        have h2 : c = 48 ∧ 1 < d.length := by simpa [hlen, show d.length ≤ 19 by omega] using hsh
        refine ⟨by rw [h2.1]; rfl, h2.2, by omega⟩
    clear hsh
    rcases hcase with hb | ⟨h48, hb, hb2⟩
    all_goals
      go_enter Tryz.func111, Tryz.ntmps111
      go_wp2_with fail
      go_ret2
      have hnone : mParseNum d = none := by rw [hp'.out, h1''.out]; rfl
      rw [(numVE_none hnone).1, (numVE_none hnone).2]
      exact ⟨rfl, rfl⟩

theorem wordParseNum_any (l : List UInt8) (w : World) (hmax : l.length ≤ 140737488351232) :
    Calls Tryz.prog 111 #[str l] w fun e w' => e = .returned (.tuple #[.int .i64 (numV l), .int .i64 (numE l)]) ∧ w = w' := by
  cases l with
  | nil =>
    go_enter Tryz.func111, Tryz.ntmps111
    go_wp2_with fail
    go_ret2
    exact ⟨rfl, rfl⟩
  | cons c r =>
    by_cases h : c.toNat = 126
    · have : c = 126 := UInt8.toNat_inj.1 h
      subst this
      exact wordParseNum_neg r w (by simp at hmax; omega)
    · exact wordParseNum_pos _ c r rfl h w hmax

end Go.Proofs.YtlagglkpbnbmeaaGreatDoor

