/- The plain model of layer 6: expressions and patterns with their places, read among tokens by place. No program in sight. -/
import Derived.Test.YtlagglkpbnbmeaaGreatDoorPX
namespace Go.Proofs.YtlagglkpbnbmeaaGreatDoor

inductive Pa where
  | mk (k a b : Int) (nm : List UInt8) (n : Int) (s : List UInt8) (kids : List Pa)
inductive Ex where
  | mk (k a b : Int) (nm arg : List UInt8) (n : Int) (s : List UInt8) (op : Int) (A B : Ty) (pats : List Pa) (kids : List Ex)
def Pa.fr : Pa → Int | .mk _ a _ _ _ _ _ => a
def Pa.to : Pa → Int | .mk _ _ b _ _ _ _ => b
def Ex.fr : Ex → Int | .mk _ a _ _ _ _ _ _ _ _ _ _ => a
def Ex.to : Ex → Int | .mk _ _ b _ _ _ _ _ _ _ _ _ => b
abbrev noTy : Ty := .leaf 0
abbrev QR (α : Type) := Except (Nat × Nat) (α × Nat)

section
variable (ts : List Tok)
def at? (i k : Nat) (s : List UInt8) : Bool := hit k s (ts.drop i)
def of? (i k : Nat) : Bool := match ts[i]? with | some t => t.k == k | none => false
def frE (i : Nat) : Int := match ts[i]? with | some t => (t.a : Int) | none => 0
def behE (i : Nat) : Int := match ts[i - 1]? with | some t => (t.b : Int) | none => 0
def strE (i : Nat) : List UInt8 := match ts[i]? with | some t => t.s | none => []
def nbrE (i : Nat) : Int := match ts[i]? with | some t => t.n | none => 0
def qName (i : Nat) : QR (List UInt8) := if of? ts i 1 then .ok (strE ts i, i + 1) else .error (i, i)
def qTyp (i : Nat) : QR Ty := if (mRead ts i).2.2 = 0 then .ok ((mRead ts i).1, (mRead ts i).2.1.toNat) else .error ((mRead ts i).2.1.toNat, i)
def qMaybe (i : Nat) : QR Ty := if at? ts i 5 [58] then qTyp ts (i + 1) else .ok (noTy, i)
def qParam (i : Nat) : QR (List UInt8 × Ty) :=
  if at? ts i 5 [40] then
    match qName ts (i + 1) with
    | .error e => .error e
    | .ok (s, j) =>
      if at? ts j 5 [58] then
        match qTyp ts (j + 1) with
        | .error e => .error e
        | .ok (t, k) => if at? ts k 5 [41] then .ok ((s, t), k + 1) else .error (k, k)
      else .error (j, j)
  else match qName ts i with
    | .error e => .error e
    | .ok (s, j) => .ok ((s, noTy), j)

def qLeafP (k : Int) (i : Nat) (nm : List UInt8) (n : Int) (s : List UInt8) : Pa := .mk k (frE ts i) (behE ts (i + 1)) nm n s []
def qRing (pat : List (List UInt8) → Nat → QR (Pa × List (List UInt8))) (seen : List (List UInt8)) (i : Nat) : QR (Pa × List (List UInt8)) :=
  if at? ts (i + 1) 5 [41] then .ok ((.mk 6 (frE ts i) (behE ts (i + 1 + 1)) [] 0 [] [], seen), i + 1 + 1)
  else match pat seen (i + 1) with
    | .error e => .error e
    | .ok ((a, seen), j) =>
      if at? ts j 5 [41] then .ok ((a, seen), j + 1)
      else if at? ts j 5 [44] then
        match pat seen (j + 1) with
        | .error e => .error e
        | .ok ((b, seen), k) => if at? ts k 5 [41] then .ok ((.mk 7 (frE ts i) (behE ts (k + 1)) [] 0 [] [a, b], seen), k + 1) else .error (k, k)
      else .error (j, j)
def qRound (pat : List (List UInt8) → Nat → QR (Pa × List (List UInt8))) (seen : List (List UInt8)) (i : Nat) : QR (Pa × List (List UInt8)) :=
  if at? ts i 5 [91] then (if at? ts (i + 1) 5 [93] then .ok ((.mk 8 (frE ts i) (behE ts (i + 1 + 1)) [] 0 [] [], seen), i + 1 + 1) else .error (i + 1, i + 1))
  else qRing ts pat seen i
def qPop (pat : List (List UInt8) → Nat → QR (Pa × List (List UInt8))) (seen : List (List UInt8)) (i : Nat) : QR (Pa × List (List UInt8)) :=
  if at? ts i 5 [95] then .ok ((qLeafP ts 1 i [] 0 [], seen), i + 1)
  else if of? ts i 1 then (if seen.contains (strE ts i) then .error (i, i + 1) else .ok ((qLeafP ts 2 i (strE ts i) 0 [], seen ++ [strE ts i]), i + 1))
  else if of? ts i 3 then .ok ((qLeafP ts 3 i [] (nbrE ts i) [], seen), i + 1)
  else if of? ts i 4 then .ok ((qLeafP ts 5 i [] 0 (strE ts i), seen), i + 1)
  else if at? ts i 2 [116, 114, 117, 101] then .ok ((qLeafP ts 4 i [] 1 [], seen), i + 1)
  else if at? ts i 2 [102, 97, 108, 115, 101] then .ok ((qLeafP ts 4 i [] 0 [], seen), i + 1)
  else if at? ts i 5 [91] || at? ts i 5 [40] then qRound ts pat seen i
  else .error (i, i)
def qPatF : Nat → List (List UInt8) → Nat → QR (Pa × List (List UInt8))
  | 0, _, i => .error (i, i)
  | f + 1, seen, i =>
    match qPop ts (qPatF f) seen i with
    | .error e => .error e
    | .ok ((a, seen), j) =>
      if at? ts j 5 [58, 58] then
        match qPatF f seen (j + 1) with
        | .error e => .error e
        | .ok ((b, seen), k) => .ok ((.mk 9 a.fr b.to [] 0 [] [a, b], seen), k)
      else .ok ((a, seen), j)

def eTwo (k op : Int) (a b : Ex) : Ex := .mk k a.fr b.to [] [] 0 [] op noTy noTy [] [a, b]
def eLeaf (k : Int) (i : Nat) (nm : List UInt8) (n : Int) (s : List UInt8) : Ex := .mk k (frE ts i) (behE ts (i + 1)) nm [] n s 0 noTy noTy [] []
def qLeaf (i : Nat) : QR Ex :=
  if of? ts i 1 then .ok (eLeaf ts 1 i (strE ts i) 0 [], i + 1)
  else if of? ts i 3 then .ok (eLeaf ts 2 i [] (nbrE ts i) [], i + 1)
  else if of? ts i 4 then .ok (eLeaf ts 4 i [] 0 (strE ts i), i + 1)
  else if at? ts i 2 [116, 114, 117, 101] then .ok (eLeaf ts 3 i [] 1 [], i + 1)
  else if at? ts i 2 [102, 97, 108, 115, 101] then .ok (eLeaf ts 3 i [] 0 [], i + 1)
  else .error (i, i)
def qParen (ex : Nat → QR Ex) (i : Nat) : QR Ex := match ex (i + 1) with
  | .error e => .error e
  | .ok (a, j) =>
    if at? ts j 5 [41] then .ok (a, j + 1)
    else if at? ts j 5 [44] then
      match ex (j + 1) with
      | .error e => .error e
      | .ok (b, k) => if at? ts k 5 [41] then .ok (.mk 6 (frE ts i) (behE ts (k + 1)) [] [] 0 [] 0 noTy noTy [] [a, b], k + 1) else .error (k, k)
    else if at? ts j 5 [58] then
      match qTyp ts (j + 1) with
      | .error e => .error e
      | .ok (t, k) => if at? ts k 5 [41] then .ok (.mk 15 (frE ts i) (behE ts (k + 1)) [] [] 0 [] 0 t noTy [] [a], k + 1) else .error (k, k)
    else .error (j, j)
def qRnd (ex : Nat → QR Ex) (i : Nat) : QR Ex := if at? ts (i + 1) 5 [41] then .ok (.mk 5 (frE ts i) (behE ts (i + 1 + 1)) [] [] 0 [] 0 noTy noTy [] [], i + 1 + 1) else qParen ts ex i
def qAtom (ex : Nat → QR Ex) (i : Nat) : QR Ex := match qLeaf ts i with
  | .ok p => .ok p
  | .error _ =>
    if at? ts i 5 [91] then (if at? ts (i + 1) 5 [93] then .ok (.mk 7 (frE ts i) (behE ts (i + 1 + 1)) [] [] 0 [] 0 noTy noTy [] [], i + 1 + 1) else .error (i + 1, i + 1))
    else if at? ts i 5 [40] then
      qRnd ts ex i
    else .error (i, i)
def eBegins (i : Nat) : Bool := of? ts i 1 || of? ts i 3 || of? ts i 4 || at? ts i 2 [116, 114, 117, 101] || at? ts i 2 [102, 97, 108, 115, 101] || at? ts i 5 [40] || at? ts i 5 [91]
def qAppL (ex : Nat → QR Ex) : Nat → Ex → Nat → QR Ex
  | 0, _, i => .error (i, i)
  | f + 1, a, i => if eBegins ts i then (match qAtom ts ex i with
    | .error e => .error e
    | .ok (b, j) => qAppL ex f (eTwo 10 0 a b) j) else .ok (a, i)
def qApp (ex : Nat → QR Ex) (i : Nat) : QR Ex := match qAtom ts ex i with
  | .error e => .error e
  | .ok (a, j) => qAppL ts ex (ts.length + 1) a j
def qProdL (ex : Nat → QR Ex) : Nat → Ex → Nat → QR Ex
  | 0, _, i => .error (i, i)
  | f + 1, a, i =>
    if at? ts i 5 [42] then (match qApp ts ex (i + 1) with
      | .error e => .error e
      | .ok (b, j) => qProdL ex f (eTwo 16 3 a b) j)
    else if at? ts i 5 [47] then (match qApp ts ex (i + 1) with
      | .error e => .error e
      | .ok (b, j) => qProdL ex f (eTwo 16 4 a b) j)
    else .ok (a, i)
def qProd (ex : Nat → QR Ex) (i : Nat) : QR Ex := match qApp ts ex i with
  | .error e => .error e
  | .ok (a, j) => qProdL ts ex (ts.length + 1) a j
def qSumL (ex : Nat → QR Ex) : Nat → Ex → Nat → QR Ex
  | 0, _, i => .error (i, i)
  | f + 1, a, i =>
    if at? ts i 5 [43] then (match qProd ts ex (i + 1) with
      | .error e => .error e
      | .ok (b, j) => qSumL ex f (eTwo 16 1 a b) j)
    else if at? ts i 5 [45] then (match qProd ts ex (i + 1) with
      | .error e => .error e
      | .ok (b, j) => qSumL ex f (eTwo 16 2 a b) j)
    else .ok (a, i)
def qSum (ex : Nat → QR Ex) (i : Nat) : QR Ex := match qProd ts ex i with
  | .error e => .error e
  | .ok (a, j) => qSumL ts ex (ts.length + 1) a j
def qConsF (ex : Nat → QR Ex) : Nat → Nat → QR Ex
  | 0, i => .error (i, i)
  | f + 1, i => match qSum ts ex i with
    | .error e => .error e
    | .ok (a, j) => if at? ts j 5 [58, 58] then (match qConsF ex f (j + 1) with
      | .error e => .error e
      | .ok (b, k) => .ok (eTwo 8 0 a b, k)) else .ok (a, j)
def qCons (ex : Nat → QR Ex) (i : Nat) : QR Ex := qConsF ts ex (ts.length + 1) i
def qCmp (ex : Nat → QR Ex) (i : Nat) : QR Ex := match qCons ts ex i with
  | .error e => .error e
  | .ok (a, j) =>
    if at? ts j 5 [60] then (match qCons ts ex (j + 1) with
      | .error e => .error e
      | .ok (b, k) => .ok (eTwo 16 5 a b, k))
    else if at? ts j 5 [61] then (match qCons ts ex (j + 1) with
      | .error e => .error e
      | .ok (b, k) => .ok (eTwo 16 6 a b, k))
    else if at? ts j 5 [61, 61] then (match qCons ts ex (j + 1) with
      | .error e => .error e
      | .ok (b, k) => .ok (eTwo 16 7 a b, k))
    else .ok (a, j)
def qBody (ex : Nat → QR Ex) (i : Nat) : QR (Ex × Ex) :=
  if at? ts i 5 [61] then (match ex (i + 1) with
    | .error e => .error e
    | .ok (a, j) => if at? ts j 2 [105, 110] then (match ex (j + 1) with
      | .error e => .error e
      | .ok (b, k) => .ok ((a, b), k)) else .error (j, j)) else .error (i, i)
def qLet (ex : Nat → QR Ex) (fr : Int) (i : Nat) : QR Ex := match qName ts i with
  | .error e => .error e
  | .ok (s, j) => match qMaybe ts j with
    | .error e => .error e
    | .ok (t, k) => match qBody ts ex k with
      | .error e => .error e
      | .ok ((a, b), m) => .ok (.mk 11 fr b.to s [] 0 [] 0 t noTy [] [a, b], m)
def qRec (ex : Nat → QR Ex) (fr : Int) (i : Nat) : QR Ex := match qName ts i with
  | .error e => .error e
  | .ok (s, j) => match qParam ts j with
    | .error e => .error e
    | .ok ((g, t), k) => match qMaybe ts k with
      | .error e => .error e
      | .ok (u, m) => match qBody ts ex m with
        | .error e => .error e
        | .ok ((a, b), q) => .ok (.mk 12 fr b.to s g 0 [] 0 t u [] [a, b], q)
def qFun (ex : Nat → QR Ex) (fr : Int) (i : Nat) : QR Ex := match qParam ts i with
  | .error e => .error e
  | .ok ((s, t), j) => if at? ts j 5 [45, 62] then (match ex (j + 1) with
    | .error e => .error e
    | .ok (b, k) => .ok (.mk 9 fr b.to s [] 0 [] 0 t noTy [] [b], k)) else .error (j, j)
def qIfS (ex : Nat → QR Ex) (fr : Int) : List (List UInt8) → List Ex → Nat → QR Ex
  | [], es, i => .ok (.mk 13 fr (es.getLastD (.mk 0 0 0 [] [] 0 [] 0 noTy noTy [] [])).to [] [] 0 [] 0 noTy noTy [] es, i)
  | w :: ws, es, i => match ex i with
    | .error e => .error e
    | .ok (a, j) => if w = [] then qIfS ex fr ws (es ++ [a]) j else if at? ts j 2 w then qIfS ex fr ws (es ++ [a]) (j + 1) else .error (j, j)
def qIf (ex : Nat → QR Ex) (fr : Int) (i : Nat) : QR Ex := qIfS ts ex fr [[116, 104, 101, 110], [101, 108, 115, 101], []] [] i
def qEnd (fr : Int) (ps : List Pa) (es : List Ex) (k : Nat) : QR Ex :=
  if at? ts k 2 [101, 110, 100] then .ok (.mk 14 fr (behE ts (k + 1)) [] [] 0 [] 0 noTy noTy ps es, k + 1) else .error (k, k)
def qArms (ex : Nat → QR Ex) (fr : Int) : Nat → List Pa → List Ex → Nat → QR Ex
  | 0, _, _, i => .error (i, i)
  | f + 1, ps, es, i => match qPatF ts (ts.length + 1) [] i with
    | .error e => .error e
    | .ok ((p, _), j) => if at? ts j 5 [45, 62] then (match ex (j + 1) with
      | .error e => .error e
      | .ok (a, k) => if at? ts k 5 [124] then qArms ex fr f (ps ++ [p]) (es ++ [a]) (k + 1) else qEnd ts fr (ps ++ [p]) (es ++ [a]) k) else .error (j, j)
def qMatch (ex : Nat → QR Ex) (fr : Int) (i : Nat) : QR Ex := match ex i with
  | .error e => .error e
  | .ok (x, j) => if at? ts j 2 [119, 105, 116, 104] then qArms ts ex fr (ts.length + 1) [] [x] (j + 1) else .error (j, j)
def qLetR (ex : Nat → QR Ex) (fr : Int) (i : Nat) : QR Ex := if at? ts i 2 [114, 101, 99] then qRec ts ex fr (i + 1) else qLet ts ex fr i
def qExprF : Nat → Nat → QR Ex
  | 0, i => .error (i, i)
  | f + 1, i =>
    if at? ts i 2 [108, 101, 116] then qLetR ts (qExprF f) (frE ts i) (i + 1)
    else if at? ts i 2 [102, 117, 110] then qFun ts (qExprF f) (frE ts i) (i + 1)
    else if at? ts i 2 [105, 102] then qIf ts (qExprF f) (frE ts i) (i + 1)
    else if at? ts i 2 [109, 97, 116, 99, 104] then qMatch ts (qExprF f) (frE ts i) (i + 1)
    else qCmp ts (qExprF f) i
end

def mParse (bs : List UInt8) : Except (Int × Int) Ex := match mScan bs with
  | .error k => .error ((k : Int), 3)
  | .ok ts => match qExprF ts (ts.length + 1) 0 with
    | .ok (e, j) => if j = ts.length then .ok e else .error (frE ts j, 3)
    | .error (j, _) => if j = ts.length then .error ((bs.length : Int), 3) else .error (frE ts j, 3)

end Go.Proofs.YtlagglkpbnbmeaaGreatDoor
