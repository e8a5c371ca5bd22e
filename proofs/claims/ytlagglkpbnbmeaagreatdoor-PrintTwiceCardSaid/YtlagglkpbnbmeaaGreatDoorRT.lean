/- Bundle of Hv1 Rt1 Rt2 Rt3. -/
import Derived.Test.YtlagglkpbnbmeaaGreatDoorShC
import Derived.Test.YtlagglkpbnbmeaaGreatDoorShZ
import Derived.Test.YtlagglkpbnbmeaaGreatDoorRi1
import Derived.Test.YtlagglkpbnbmeaaGreatDoorPT
import Derived.Test.YtlagglkpbnbmeaaGreatDoorS2

/- Is an expression too great to be asked of? suretylaw05.Heavy, HeavyPat. -/
namespace Go.Proofs.YtlagglkpbnbmeaaGreatDoor
open Go Go.RowKit
set_option maxRecDepth 100000
set_option maxHeartbeats 4000000
set_option linter.unusedVariables false
set_option linter.unusedSimpArgs false

mutual
def hTy : Ty → Int → Int
  | .mk _ _ kids, n => hTys kids n
def hTys : List Ty → Int → Int
  | [], n => n
  | t :: r, n => if n ≤ 400 then hTys r (hTy t (n + 1)) else n
end
mutual
def hPa : Pa → Int → Int
  | .mk _ _ _ nm _ s kids, n => if 300 < (s.length : Int) ∨ 300 < (nm.length : Int) then 401 else hPas 1 kids n
def hPas : Int → List Pa → Int → Int
  | _, [], n => n
  | d, p :: r, n => if n ≤ 400 then hPas d r (hPa p (n + d)) else n
end
mutual
def hEx : Ex → Int → Int
  | .mk _ _ _ nm arg _ s _ A B pats kids, n => if 300 < (s.length : Int) ∨ 300 < (nm.length : Int) ∨ 300 < (arg.length : Int) then 401 else hExs kids (hPas 0 pats (hTy B (hTy A (n + 1))))
def hExs : List Ex → Int → Int
  | [], n => n
  | e :: r, n => if n ≤ 400 then hExs r (hEx e n) else n
end
def Ty.sz (t : Ty) : Nat := t.size
mutual
theorem hTy_b : ∀ (t : Ty) (n : Int), 0 ≤ n → n ≤ hTy t n ∧ (hTy t n ≤ 401 ∨ hTy t n = n)
  | .mk _ _ kids, n, h => by rw [hTy]; exact hTys_b kids n h
theorem hTys_b : ∀ (l : List Ty) (n : Int), 0 ≤ n → n ≤ hTys l n ∧ (hTys l n ≤ 401 ∨ hTys l n = n)
  | [], n, h => by rw [hTys]; omega
  | t :: r, n, h => by
    rw [hTys]
    split
    · have h1 := hTy_b t (n + 1) (by omega); have h2 := hTys_b r (hTy t (n + 1)) (by omega)
      omega
    omega
end
mutual
theorem hPa_b : ∀ (p : Pa) (n : Int), 0 ≤ n → 0 ≤ hPa p n ∧ (hPa p n ≤ 401 ∨ hPa p n = n) ∧ (n ≤ hPa p n ∨ hPa p n = 401)
  | .mk _ _ _ nm _ s kids, n, h => by
    rw [hPa]
    split
    · omega
    exact hPas_b 1 kids n (by omega) (by omega) h
theorem hPas_b : ∀ (d : Int) (l : List Pa) (n : Int), 0 ≤ d → d ≤ 1 → 0 ≤ n → 0 ≤ hPas d l n ∧ (hPas d l n ≤ 401 ∨ hPas d l n = n) ∧ (n ≤ hPas d l n ∨ hPas d l n = 401)
  | _, [], n, _, _, h => by rw [hPas]; omega
  | d, p :: r, n, h0, h1, h => by
    rw [hPas]
    split
    · have h2 := hPa_b p (n + d) (by omega); have h3 := hPas_b d r (hPa p (n + d)) h0 h1 (by omega)
      omega
    omega
end
mutual
theorem hEx_b : ∀ (e : Ex) (n : Int), 0 ≤ n → 0 ≤ hEx e n ∧ (hEx e n ≤ 401 ∨ hEx e n ≤ n + 1) ∧ (n + 1 ≤ hEx e n ∨ hEx e n = 401)
  | .mk _ _ _ nm arg _ s _ A B pats kids, n, h => by
    rw [hEx]
    split
    · omega
    have h1 := hTy_b A (n + 1) (by omega); have h2 := hTy_b B (hTy A (n + 1)) (by omega); have h3 := hPas_b 0 pats (hTy B (hTy A (n + 1))) (by omega) (by omega) (by omega); have h4 := hExs_b kids (hPas 0 pats (hTy B (hTy A (n + 1)))) (by omega)
    omega
theorem hExs_b : ∀ (l : List Ex) (n : Int), 0 ≤ n → 0 ≤ hExs l n ∧ (hExs l n ≤ 401 ∨ hExs l n = n) ∧ (n ≤ hExs l n ∨ hExs l n = 401)
  | [], n, h => by rw [hExs]; omega
  | e :: r, n, h => by
    rw [hExs]
    split
    · have h1 := hEx_b e n h; have h2 := hExs_b r (hEx e n) (by omega)
      omega
    omega
end
inductive TyL : Ty → Prop
  | mk {k n : Int} {kids : List Ty} : kids.length ≤ 9223372036854775807 → (∀ t, t ∈ kids → TyL t) → TyL (.mk k n kids)
inductive PaL : Pa → Prop
  | mk {k a b : Int} {nm : List UInt8} {m : Int} {s : List UInt8} {kids : List Pa} : kids.length ≤ 9223372036854775807 → (∀ p, p ∈ kids → PaL p) → PaL (.mk k a b nm m s kids)
inductive ExL : Ex → Prop
  | mk {k a b : Int} {nm arg : List UInt8} {m : Int} {s : List UInt8} {op : Int} {A B : Ty} {pats : List Pa} {kids : List Ex} : TyL A → TyL B → pats.length ≤ 9223372036854775807 → kids.length ≤ 9223372036854775807 → (∀ p, p ∈ pats → PaL p) → (∀ e, e ∈ kids → ExL e) → ExL (.mk k a b nm arg m s op A B pats kids)
theorem exL_parts {t : Ex} (h : ExL t) : TyL t.A ∧ TyL t.B ∧ t.pats.length ≤ 9223372036854775807 ∧ t.kids.length ≤ 9223372036854775807 ∧ (∀ x, x ∈ t.pats → PaL x) ∧ ∀ x, x ∈ t.kids → ExL x := by
  cases h with | mk a b c d e f => exact ⟨a, b, c, d, e, f⟩
theorem get_some5 {α : Type} {l : List α} {i : Nat} (h : i < l.length) : ∃ x, l[i]? = some x := ⟨_, List.getElem?_eq_getElem h⟩

end Go.Proofs.YtlagglkpbnbmeaaGreatDoor

/- The page's own answers on right expressions: names, types, one expression. -/
namespace Go.Proofs.YtlagglkpbnbmeaaGreatDoor
open Go Go.RowKit
set_option maxRecDepth 100000
set_option maxHeartbeats 4000000
set_option linter.unusedVariables false
set_option linter.unusedSimpArgs false

def mNote (t : Ty) (may : Bool) : Bool := if mNone t then may else mRight t && mWithout 6 t
end Go.Proofs.YtlagglkpbnbmeaaGreatDoor

/- The page's own answers on right expressions: the fields of a kind, one expression. -/
namespace Go.Proofs.YtlagglkpbnbmeaaGreatDoor
open Go Go.RowKit
set_option maxRecDepth 100000
set_option maxHeartbeats 4000000
set_option linter.unusedVariables false
set_option linter.unusedSimpArgs false

def fldE (e : Ex) : Ex := if e.kind = 1 then .mk e.kind 0 0 e.nm [] 0 [] 0 noTy noTy [] [] else if e.kind = 2 then .mk e.kind 0 0 [] [] e.n [] 0 noTy noTy [] [] else if e.kind = 3 then .mk e.kind 0 0 [] [] e.n [] 0 noTy noTy [] [] else if e.kind = 4 then .mk e.kind 0 0 [] [] 0 e.s 0 noTy noTy [] [] else if e.kind = 5 then .mk e.kind 0 0 [] [] 0 [] 0 noTy noTy [] [] else if e.kind = 7 then .mk e.kind 0 0 [] [] 0 [] 0 noTy noTy [] [] else if e.kind = 6 then .mk e.kind 0 0 [] [] 0 [] 0 noTy noTy [] [] else if e.kind = 8 then .mk e.kind 0 0 [] [] 0 [] 0 noTy noTy [] [] else if e.kind = 10 then .mk e.kind 0 0 [] [] 0 [] 0 noTy noTy [] [] else if e.kind = 9 then .mk e.kind 0 0 e.nm [] 0 [] 0 e.A noTy [] [] else if e.kind = 11 then .mk e.kind 0 0 e.nm [] 0 [] 0 e.A noTy [] [] else if e.kind = 12 then .mk e.kind 0 0 e.nm e.arg 0 [] 0 e.A e.B [] [] else if e.kind = 13 then .mk e.kind 0 0 [] [] 0 [] 0 noTy noTy [] [] else if e.kind = 14 then .mk e.kind 0 0 [] [] 0 [] 0 noTy noTy e.pats [] else if e.kind = 15 then .mk e.kind 0 0 [] [] 0 [] 0 e.A noTy [] [] else if e.kind = 16 then .mk e.kind 0 0 [] [] 0 [] e.op noTy noTy [] [] else .mk e.kind 0 0 [] [] 0 [] 0 noTy noTy [] []
def fldK (e : Ex) : Int := if e.kind = 1 then 0 else if e.kind = 2 then 0 else if e.kind = 3 then 0 else if e.kind = 4 then 0 else if e.kind = 5 then 0 else if e.kind = 7 then 0 else if e.kind = 6 then 2 else if e.kind = 8 then 2 else if e.kind = 10 then 2 else if e.kind = 9 then 1 else if e.kind = 11 then 2 else if e.kind = 12 then 2 else if e.kind = 13 then 3 else if e.kind = 14 then IntKind.i64.wrap (1 + (e.pats.length : Int)) else if e.kind = 15 then 1 else if e.kind = 16 then 2 else -1
def o2 (e : Ex) : Bool := decide (fldK e ≠ (e.kids.length : Int)) || decide (e.nm ≠ (fldE e).nm) || decide (e.arg ≠ (fldE e).arg) || decide (e.n ≠ (fldE e).n) || decide (e.s ≠ (fldE e).s) || decide (e.op ≠ (fldE e).op) || decide ((e.pats.length : Int) ≠ ((fldE e).pats.length : Int))
def o4 (e : Ex) : Bool := !mSame e.A (fldE e).A || !mSame e.B (fldE e).B
def o6 (e : Ex) : Bool := !mNote e.A (decide (e.kind ≠ 15)) || !mNote e.B true
def o8 (e : Ex) : Bool := if e.kind = 1 ∨ e.kind = 9 ∨ e.kind = 11 then mName e.nm else if e.kind = 12 then mName e.nm && mName e.arg else if e.kind = 3 then decide (e.n = 0) || decide (e.n = 1) else if e.kind = 4 then decide ((e.s.length : Int) ≤ 200)
  else if e.kind = 14 then decide (0 < (e.pats.length : Int)) else if e.kind = 16 then decide (1 ≤ e.op) && decide (e.op ≤ 7) else true
end Go.Proofs.YtlagglkpbnbmeaaGreatDoor

/- The page's own answers on right patterns. -/
namespace Go.Proofs.YtlagglkpbnbmeaaGreatDoor
open Go Go.RowKit
set_option maxRecDepth 100000
set_option maxHeartbeats 4000000
set_option linter.unusedVariables false
set_option linter.unusedSimpArgs false

def strs (l : List (List UInt8)) : List (List D) := l.map fun x => [.lit (str x)]
theorem strs_len (l : List (List UInt8)) : (strs l).length = l.length := by rw [strs, List.length_map]
theorem strs_app (a b : List (List UInt8)) : strs (a ++ b) = strs a ++ strs b := by simp [strs]
def nms (p : Pa) : List (List UInt8) := (p.list.filter fun q => decide (q.kind = 2)).map Pa.nm
theorem nmsL (l : List Pa) : ((pasList l).filter fun q => decide (q.kind = 2)).map Pa.nm = l.flatMap nms := by
  induction l with
  | nil => rfl
  | cons p r ih => rw [pasList, List.filter_append, List.map_append, ih]; rfl
theorem nms_eq (p : Pa) : nms p = (if p.kind = 2 then [p.nm] else []) ++ p.kids.flatMap nms := by
  cases p with
  | mk k a b nm n s kids =>
    rw [nms, Pa.list, ← nmsL]
    by_cases h : k = 2
    · rw [List.filter_cons_of_pos (p := fun q : Pa => decide (q.kind = 2)) (a := .mk k a b nm n s kids) (decide_eq_true h), if_pos (show (Pa.mk k a b nm n s kids).kind = 2 from h)]; rfl
    rw [List.filter_cons_of_neg (p := fun q : Pa => decide (q.kind = 2)) (a := .mk k a b nm n s kids) (fun e => h (of_decide_eq_true e)), if_neg (show ¬ (Pa.mk k a b nm n s kids).kind = 2 from h)]; rfl
def rowN (b : List (List D)) (l : List Pa) : Nat → List (List D)
  | 0 => b
  | i + 1 => b ++ strs ((l.take (i + 1)).flatMap nms)
theorem rowN_eq (b : List (List D)) (l : List Pa) (i : Nat) : rowN b l i = b ++ strs ((l.take i).flatMap nms) := by
  cases i with
  | zero => simp [rowN, strs]
  | succ i => rfl
theorem rowN_step {b : List (List D)} {l : List Pa} {i : Nat} {x : Pa} (h : l[i]? = some x) : rowN b l i ++ strs (nms x) = rowN b l (i + 1) := by
  have ht : l.take (i + 1) = l.take i ++ [x] := by rw [List.take_add_one, h]; rfl
  rw [rowN_eq, rowN_eq, ht, List.flatMap_append, strs_app, List.append_assoc]
  simp
theorem rowN_len {b : List (List D)} {l : List Pa} {i : Nat} : (rowN b l i).length = b.length + ((l.take i).flatMap nms).length := by
  rw [rowN_eq, List.length_append, strs_len]
theorem flat_take : ∀ (l : List Pa) (i : Nat), ((l.take i).flatMap nms).length ≤ (l.flatMap nms).length
  | [], i => by simp
  | q :: r, 0 => by simp
  | q :: r, i + 1 => by
    have := flat_take r i; rw [List.take_succ_cons, List.flatMap_cons, List.flatMap_cons, List.length_append, List.length_append]
    omega
abbrev strK : TypeId := 9
theorem pat_all (p : Pa) : p.list.all okPa = (okPa p && p.kids.all fun x => x.list.all okPa) := by
  cases p with
  | mk k a b nm n s kids => rw [Pa.list, List.all_cons, pasAll]; rfl
end Go.Proofs.YtlagglkpbnbmeaaGreatDoor

