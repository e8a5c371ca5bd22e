/- The plain law of texts read back: the tokens of a closed type's text, and what is read out of them. No program in sight. -/
import Derived.Test.YtlagglkpbnbmeaaGreatDoorPU
import Derived.Test.YtlagglkpbnbmeaaGreatDoorLexQ3
namespace Go.Proofs.YtlagglkpbnbmeaaGreatDoor

inductive ClosedTy : Ty → Prop
  | int : ClosedTy (.leaf 1)
  | bool : ClosedTy (.leaf 2)
  | str : ClosedTy (.leaf 3)
  | unit : ClosedTy (.leaf 4)
  | dyn : ClosedTy (.leaf 5)
  | pair (a b : Ty) : ClosedTy a → ClosedTy b → ClosedTy (.two 7 a b)
  | list (a : Ty) : ClosedTy a → ClosedTy (.one 8 a)
  | func (a b : Ty) : ClosedTy a → ClosedTy b → ClosedTy (.two 9 a b)
theorem closed_of {t : Ty} (h : RightTy t) : mWithout 6 t = true → ClosedTy t := by
  induction h with
  | int => exact fun _ => .int
  | bool => exact fun _ => .bool
  | str => exact fun _ => .str
  | unit => exact fun _ => .unit
  | dyn => exact fun _ => .dyn
  | var n => intro h; rw [mWithout] at h; cases h
  | pair a b _ _ ha hb =>
    intro h
    rw [mWithout, mWithouts, mWithouts, mWithouts, Bool.and_true, Bool.and_eq_true, Bool.and_eq_true] at h
    exact .pair a b (ha h.2.1) (hb h.2.2)
  | list a _ ha =>
    intro h
    rw [mWithout, mWithouts, mWithouts, Bool.and_true, Bool.and_eq_true] at h
    exact .list a (ha h.2)
  | func a b _ _ ha hb =>
    intro h
    rw [mWithout, mWithouts, mWithouts, mWithouts, Bool.and_true, Bool.and_eq_true, Bool.and_eq_true] at h
    exact .func a b (ha h.2.1) (hb h.2.2)
theorem ClosedTy.right {t : Ty} (h : ClosedTy t) : RightTy t := by
  induction h with
  | int => exact .int
  | bool => exact .bool
  | str => exact .str
  | unit => exact .unit
  | dyn => exact .dyn
  | pair a b _ _ ha hb => exact .pair a b ha hb
  | list a _ ha => exact .list a ha
  | func a b _ _ ha hb => exact .func a b ha hb

/-! the tokens of a text -/
abbrev kwT (s : List UInt8) : BTok := ⟨2, s, 0⟩
abbrev sgT (s : List UInt8) : BTok := ⟨5, s, 0⟩
mutual
def bTxt : Ty → List BTok
  | .mk k _ ks =>
    if k = 1 then [kwT tkInt] else if k = 2 then [kwT tkBool] else if k = 3 then [kwT tkString] else if k = 4 then [kwT tkUnit] else if k = 5 then [sgT [63]]
    else if k = 8 then bKidAt 0 ks ++ [kwT tkList]
    else if k = 7 then bKidAt 0 ks ++ [sgT [42]] ++ bKidAt 1 ks
    else bKidAt 0 ks ++ [sgT [45, 62]] ++ bKidAt 1 ks
def bKidAt : Nat → List Ty → List BTok
  | _, [] => []
  | 0, t :: _ => bKid t
  | i + 1, _ :: r => bKidAt i r
def bKid : Ty → List BTok
  | .mk k n ks => if ks.isEmpty then bTxt (.mk k n ks) else [sgT [40]] ++ bTxt (.mk k n ks) ++ [sgT [41]]
end
/-! scanning -/
/-! reading -/
end Go.Proofs.YtlagglkpbnbmeaaGreatDoor
