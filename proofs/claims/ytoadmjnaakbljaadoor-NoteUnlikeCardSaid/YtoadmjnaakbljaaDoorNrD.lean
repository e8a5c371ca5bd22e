/- What readers come to, as shadows. -/
import Derived.Test.YtoadmjnaakbljaaDoorShT
import Derived.Test.YtoadmjnaakbljaaDoorSh13
namespace Go.Proofs.YtoadmjnaakbljaaDoor
open Go Go.RowKit
set_option linter.unusedVariables false

/-- where a reader stands behind what it has come to -/
def posE {α : Type} (n : Nat) : PR α → Nat
  | .ok (_, r) => n - r.length
  | .error k => n - k
/-- a reader's results: what was read, or false -/
def retD {α : Type} (m : Nat) (f : α → List D) : PR α → F
  | .ok (t, _) => .tup [.agg (f t), .c (.lit (.bool true))]
  | .error _ => .tup [.agg (List.replicate m .any), .c (.lit (.bool false))]
theorem hit_lt' {k : Nat} {s : List UInt8} {ts : List Tok} {i : Nat} (hh : hit k s (ts.drop i) = true) : i < ts.length := hit_lt hh
theorem hit_tail {k : Nat} {s : List UInt8} {ts : List Tok} {i : Nat} (_ : hit k s (ts.drop i) = true) : (ts.drop i).tail = ts.drop (i + 1) := by rw [List.tail_drop]
theorem pos_drop {ts : List Tok} {i : Nat} (h : i ≤ ts.length) : ts.length - (ts.drop i).length = i := by rw [List.length_drop]; omega
/-- what is left is the tokens from some place on -/
theorem ok_drop {α : Type} {ts : List Tok} {i : Nat} {x : PR α} {t : α} {r : List Tok} (h : PRok (ts.drop i) x) (hx : x = .ok (t, r)) (hi : i ≤ ts.length) : ∃ j, i < j ∧ j ≤ ts.length ∧ r = ts.drop j := by
  subst hx
  obtain ⟨h1, h2⟩ := h
  have h3 := suf_pos (suf_trans ⟨i, rfl⟩ h2)
  rw [List.length_drop] at h1
  exact ⟨ts.length - r.length, by omega, by omega, h3.symm⟩
theorem err_le {α : Type} {ts : List Tok} {i : Nat} {x : PR α} {k : Nat} (h : PRok (ts.drop i) x) (hx : x = .error k) : k ≤ ts.length - i := by
  subst hx
  rw [← List.length_drop]; exact h

end Go.Proofs.YtoadmjnaakbljaaDoor
