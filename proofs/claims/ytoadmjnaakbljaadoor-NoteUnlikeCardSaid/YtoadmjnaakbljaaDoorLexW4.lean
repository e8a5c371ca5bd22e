/- Walks: texts written and read, numbers written. -/
import Derived.Test.YtoadmjnaakbljaaDoorLexW3
import Derived.Test.YtoadmjnaakbljaaDoorBytes
namespace Go.Proofs.YtoadmjnaakbljaaDoor
open Go Go.RowKit

set_option maxHeartbeats 1000000
set_option maxRecDepth 100000

theorem isPlain_iff (c : UInt8) : isPlain c = true ↔ 32 ≤ c.toNat ∧ c.toNat ≤ 126 ∧ c.toNat ≠ 34 ∧ c.toNat ≠ 92 := by simp [isPlain, and_assoc]
theorem bits_and15 (y : UInt8) : bits BinOp.and IntKind.u8 (y.toNat : Int) 15 = ((y.toNat % 16 : Nat) : Int) := by
  have h : ∀ n : Fin 256, bits BinOp.and IntKind.u8 (n.val : Int) 15 = ((n.val % 16 : Nat) : Int) := by decide +kernel
  exact h ⟨y.toNat, y.toNat_lt⟩
theorem hexB_hexD : ∀ k, (h : k < 16) → hexB[k]'h = hexD k := by decide +kernel
theorem escs_len (l : List UInt8) : (l.flatMap esc).length ≤ 3 * l.length := by
  induction l with
  | nil => simp
  | cons c r ih =>
    simp only [List.flatMap_cons, List.length_append, List.length_cons]
    have : (esc c).length ≤ 3 := by unfold esc; split <;> simp
    omega

end Go.Proofs.YtoadmjnaakbljaaDoor
