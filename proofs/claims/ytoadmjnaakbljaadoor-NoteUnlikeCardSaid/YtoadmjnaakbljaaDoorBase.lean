/- Small words for memory and lists that all the walks of this seat use. -/
import Derived.Test.YtoadmjnaakbljaaDoorRows
import Derived.WalkKit
import Derived.WalkSpells
import Derived.WalkLawsBesides
import Derived.Handy
import Derived.Deep.QuietTactic
import Derived.BigQuiet
namespace Go.Proofs.YtoadmjnaakbljaaDoor
open Go Go.RowKit

theorem hide {p : Prop} (h : p) : Hid p := h

/-- a string value of a list of bytes -/
abbrev str (l : List UInt8) : Value := .string ⟨l.toArray⟩

theorem str_of (s : ByteArray) : (⟨s.data.toList.toArray⟩ : ByteArray) = s := rfl
theorem byte_get (l : List UInt8) (i : Nat) (h : i < (⟨l.toArray⟩ : ByteArray).size) : (⟨l.toArray⟩ : ByteArray)[i]'h = l[i]'(by simpa [ByteArray.size] using h) := by
  show (l.toArray)[i]'_ = _
  simp
attribute [go_sem] byte_get ByteArray.extract_mk ByteArray.mk_append_mk

/-- the slice value at A reads as these bytes -/
def RdB (w : World) (A : Option Addr) (bs : List UInt8) : Prop :=
  ∀ j (h : j < bs.length), ∃ ad, A = some ad ∧ w.cell? (ad.add j) = some (.int .u8 (bs[j].toNat : Int))

theorem block_of_add (a : Addr) (n : Nat) : (a.add n).block = a.block := by unfold Addr.add; split <;> rfl
theorem add_of_add (a : Addr) (i j : Nat) : (a.add i).add j = a.add (i + j) := by
  unfold Addr.add
  by_cases hi : i = 0 <;> by_cases hj : j = 0 <;> simp [hi, hj, Nat.add_assoc]

theorem RdB.keep {w w' : World} {A : Option Addr} {bs : List UInt8} (h : RdB w A bs) {B : Nat} (hB : w.heap.size ≤ B) (hb : Below B w w') : RdB w' A bs := by
  intro j hj
  obtain ⟨ad, hA, hc⟩ := h j hj
  refine ⟨ad, hA, ?_⟩
  have hlt := World.block_lt_of_cell? w _ hc
  rw [hb.cell (by omega)]
  exact hc
theorem RdB.below {w w' : World} {A : Option Addr} {bs : List UInt8} (h : RdB w A bs) (hb : Below w.heap.size w w') : RdB w' A bs := h.keep (Nat.le_refl _) hb
theorem RdB.at {w : World} {A : Option Addr} {bs : List UInt8} (h : RdB w A bs) {k : Nat} (hk : k < bs.length) :
    ∃ ad x, A = some ad ∧ w.cell? (ad.add k) = some (.int .u8 (x.toNat : Int)) ∧ bs.drop k = x :: bs.drop (k + 1) := by
  obtain ⟨ad, hA, hc⟩ := h k hk
  exact ⟨ad, bs[k], hA, hc, List.drop_eq_getElem_cons hk⟩
theorem RdB.nil (w : World) (A : Option Addr) : RdB w A [] := fun j h => absurd h (by simp)

theorem ret_int {k : IntKind} {a b : Int} (h : a = b) : Ending.returned (.int k a) = .returned (.int k b) := by rw [h]
theorem ret_bool {a b : Bool} (h : a = b) : Ending.returned (.bool a) = .returned (.bool b) := by rw [h]
theorem ret_str {a b : List UInt8} (h : a = b) : Ending.returned (str a) = .returned (str b) := by rw [h]

theorem bool_ext {a b : Bool} (h : a = true ↔ b = true) : a = b := Bool.eq_iff_iff.2 h

theorem drop_cons {α : Type} (l : List α) (k : Nat) (h : k < l.length) : l.drop k = l[k] :: l.drop (k + 1) := List.drop_eq_getElem_cons h

/-- a call that leaves the world alone, within a region that draws its order -/
theorem quiet_left {P : Program} {f : FuncId} {args : Array Value} {w : World} {n : Nat} {v : Value}
    (h : Calls P f args (w.drewN n) fun e w' => e = .returned v ∧ w.drewN n = w') : Calls P f args (w.drewN n) fun e w'' => e = .returned v ∧ ∃ m, w'' = w.drewN m :=
  h.mono fun _ _ ⟨he, hm⟩ => ⟨he, n, hm.symm⟩

end Go.Proofs.YtoadmjnaakbljaaDoor
