/- The plain models of layers 1 and 2: bytes, names, numbers, texts, tokens. No program in sight. -/
import Derived.Test.YtoadmjnaakbljaaDoorBase
namespace Go.Proofs.YtoadmjnaakbljaaDoor

/-! bytes -/
def isSmall (c : UInt8) : Bool := decide (97 ≤ c.toNat) && decide (c.toNat ≤ 122)
def isBig (c : UInt8) : Bool := decide (65 ≤ c.toNat) && decide (c.toNat ≤ 90)
def isDig (c : UInt8) : Bool := decide (48 ≤ c.toNat) && decide (c.toNat ≤ 57)
def isPart (c : UInt8) : Bool := isSmall c || isBig c || isDig c || c.toNat == 95 || c.toNat == 39
def isBlank (c : UInt8) : Bool := c.toNat == 9 || c.toNat == 10 || c.toNat == 13 || c.toNat == 32
def isPlain (c : UInt8) : Bool := decide (32 ≤ c.toNat) && decide (c.toNat ≤ 126) && c.toNat != 34 && c.toNat != 92
/-- what a hexadecimal digit stands for -/
def hexV (c : UInt8) : Option Nat := if isDig c then some (c.toNat - 48) else if 97 ≤ c.toNat ∧ c.toNat ≤ 102 then some (c.toNat - 87) else none
def hexD (n : Nat) : UInt8 := if n < 10 then UInt8.ofNat (48 + n) else UInt8.ofNat (87 + n)

/-! key words and names -/
def kws : List (List UInt8) := [[108, 101, 116], [114, 101, 99], [105, 110], [102, 117, 110], [105, 102], [116, 104, 101, 110], [101, 108, 115, 101], [109, 97, 116, 99, 104], [119, 105, 116, 104], [101, 110, 100], [116, 114, 117, 101], [102, 97, 108, 115, 101], [105, 110, 116], [98, 111, 111, 108], [115, 116, 114, 105, 110, 103], [117, 110, 105, 116], [108, 105, 115, 116]]
def mKey (s : List UInt8) : Bool := kws.contains s
def mName (s : List UInt8) : Bool :=
  match s with
  | [] => false
  | c :: r => decide (s.length ≤ 32) && isSmall c && r.all isPart && !mKey s

/-! numbers -/
def valD (u : Nat) (d : List UInt8) : Nat := d.foldl (fun u c => u * 10 + (c.toNat - 48)) u
def digF : Nat → Nat → List UInt8
  | 0, _ => []
  | f + 1, u => if u < 10 then [UInt8.ofNat (48 + u)] else digF f (u / 10) ++ [UInt8.ofNat (48 + u % 10)]
def mDigits (u : Nat) : List UInt8 := digF 20 u
def mNum (n : Int) : List UInt8 := if n < 0 then 126 :: mDigits n.natAbs else mDigits n.natAbs
def mNeg (s : List UInt8) : Bool := s.head? == some 126
def mMag (s : List UInt8) : List UInt8 := if mNeg s then s.tail else s
/-- the digits of a number's text, as far as their shape goes -/
def numShape (neg : Bool) (d : List UInt8) : Bool := decide (1 ≤ d.length) && decide (d.length ≤ 19) && !(d.head? == some 48 && (neg || decide (1 < d.length)))
def numRange (neg : Bool) (u : Nat) : Option Int :=
  if neg then (if u ≤ 9223372036854775808 then some (-(u : Int)) else none) else if u < 9223372036854775808 then some (u : Int) else none
def mParseNum (s : List UInt8) : Option Int :=
  if numShape (mNeg s) (mMag s) && (mMag s).all isDig then numRange (mNeg s) (valD 0 (mMag s)) else none

/-! texts -/
def esc (c : UInt8) : List UInt8 := if isPlain c then [c] else [92, hexD (c.toNat / 16), hexD (c.toNat % 16)]
def mLong (s : List UInt8) : List UInt8 := 34 :: (s.flatMap esc ++ [34])
def mQuote (s : List UInt8) : Option (List UInt8) := if s.length ≤ 200 then some (mLong s) else none
def mUnq : List UInt8 → Option (List UInt8)
  | [] => some []
  | c :: r =>
    if isPlain c then (mUnq r).map (c :: ·)
    else if c.toNat = 92 then
      match r with
      | h :: l :: r' =>
        match hexV h, hexV l with
        | some a, some b => if isPlain (UInt8.ofNat (16 * a + b)) then none else (mUnq r').map (UInt8.ofNat (16 * a + b) :: ·)
        | _, _ => none
      | _ => none
    else none
def mUnquote (s : List UInt8) : Option (List UInt8) :=
  if 2 ≤ s.length ∧ s.head? = some 34 ∧ s.getLast? = some 34 then
    match mUnq s.tail.dropLast with
    | some t => if t.length ≤ 200 then some t else none
    | none => none
  else none

/-! skipping; the flag tells whether a remark is open -/
def mSkip : Bool → List UInt8 → List UInt8
  | _, [] => []
  | true, c :: r => if c.toNat = 10 then mSkip false r else mSkip true r
  | false, c :: r => if isBlank c then mSkip false r else if c.toNat = 35 then mSkip true r else c :: r

/-! tokens -/
/-- a token without its place -/
structure BTok where
  k : Nat
  s : List UInt8
  n : Int
  deriving DecidableEq
structure Tok where
  k : Nat
  a : Nat
  b : Nat
  s : List UInt8
  n : Int
  deriving DecidableEq
def BTok.at (t : BTok) (i j : Nat) : Tok := ⟨t.k, i, j, t.s, t.n⟩
def Tok.bare (t : Tok) : BTok := ⟨t.k, t.s, t.n⟩
def oneSign (c : UInt8) : Bool := [40, 41, 91, 93, 44, 58, 61, 124, 43, 45, 42, 47, 60, 63, 95].contains c
def twoSign (c d : UInt8) : Bool := (c == 45 && d == 62) || (c == 58 && d == 58) || (c == 61 && d == 61)
def signLen : List UInt8 → Nat
  | [] => 0
  | c :: r => if (match r with | d :: _ => twoSign c d | [] => false) then 2 else if oneSign c then 1 else 0
def mWord (s : List UInt8) : Option (BTok × Nat) := if mKey s then some (⟨2, s, 0⟩, s.length) else if mName s then some (⟨1, s, 0⟩, s.length) else none
def mNumber (s : List UInt8) : Option (BTok × Nat) := match mParseNum s with | some n => some (⟨3, [], n⟩, s.length) | none => none
def mText (r : List UInt8) : Option (BTok × Nat) :=
  if (r.takeWhile (fun x => x.toNat != 34)).length < r.length then
    match mUnquote (34 :: (r.takeWhile (fun x => x.toNat != 34) ++ [34])) with
    | some t => some (⟨4, t, 0⟩, (r.takeWhile (fun x => x.toNat != 34)).length + 2)
    | none => none
  else none
def mSign (l : List UInt8) : Option (BTok × Nat) := if signLen l = 0 then none else some (⟨5, l.take (signLen l), 0⟩, signLen l)
def mTok : List UInt8 → Option (BTok × Nat)
  | [] => none
  | c :: r =>
    if isSmall c then mWord (c :: r.takeWhile isPart)
    else if isDig c || c.toNat == 126 then mNumber (c :: r.takeWhile isDig)
    else if c.toNat = 34 then mText r
    else mSign (c :: r)
/-- all tokens, or the place of the error -/
def mScanF : Nat → Nat → List UInt8 → Except Nat (List Tok)
  | 0, _, _ => .ok []
  | f + 1, off, l =>
    if mSkip false l = [] then .ok []
    else match mTok (mSkip false l) with
      | none => .error (off + (l.length - (mSkip false l).length))
      | some (t, n) =>
        match mScanF f (off + (l.length - (mSkip false l).length) + n) ((mSkip false l).drop n) with
        | .ok ts => .ok (t.at (off + (l.length - (mSkip false l).length)) (off + (l.length - (mSkip false l).length) + n) :: ts)
        | .error e => .error e
def mScanR (off : Nat) (l : List UInt8) : Except Nat (List Tok) := mScanF (l.length + 1) off l
def mScan (l : List UInt8) : Except Nat (List Tok) := if 16384 < l.length then .error 16384 else mScanR 0 l

end Go.Proofs.YtoadmjnaakbljaaDoor
