/- Tokens and types as shadows. -/
import Derived.Test.YtoadmjnaakbljaaDoorPM
import Derived.Test.YtoadmjnaakbljaaDoorSh11
namespace Go.Proofs.YtoadmjnaakbljaaDoor
open Go Go.RowKit

def tokD (x : Tok) : List D := [.lit (.int .i64 x.k), .lit (.int .i64 x.a), .lit (.int .i64 x.b), .lit (str x.s), .lit (.int .i64 x.n)]
mutual
def tyD : Ty → List D
  | .mk k n ks => [.lit (.int .i64 k), .lit (.int .i64 n), .sl 3 (tysD ks)]
def tysD : List Ty → List (List D)
  | [] => []
  | t :: r => tyD t :: tysD r
end
theorem tysD_map : ∀ l : List Ty, tysD l = l.map tyD
  | [] => by rw [tysD]; rfl
  | t :: r => by rw [tysD, tysD_map r]; rfl
theorem tysD_len (l : List Ty) : (tysD l).length = l.length := by rw [tysD_map]; simp
theorem tysD_get {l : List Ty} {i : Nat} {t : Ty} (h : l[i]? = some t) : (tysD l)[i]? = some (tyD t) := by rw [tysD_map]; simp [h]
theorem tyD_eq (t : Ty) : tyD t = [.lit (.int .i64 t.kind), .lit (.int .i64 t.num), .sl 3 (tysD t.kids)] := by cases t; rw [tyD]; rfl

/-- the readers at token i -/
def toksD (ts : List Tok) : D := .sl 5 (ts.map tokD)
theorem toksD_get {ts : List Tok} {i : Nat} {x : Tok} (h : ts[i]? = some x) : (ts.map tokD)[((i : Nat) : Int).toNat]? = some (tokD x) := by simp [h]
theorem hit_at {k : Nat} {s : List UInt8} {ts : List Tok} {i : Nat} {x : Tok} (h : ts[i]? = some x) : hit k s (ts.drop i) = (x.k == k && x.s == s) := by
  have hi : i < ts.length := by
    rcases Nat.lt_or_ge i ts.length with h1 | h1
    · exact h1
    · rw [List.getElem?_eq_none h1] at h; cases h
  rw [List.drop_eq_getElem_cons hi]
  rw [List.getElem?_eq_getElem hi] at h
  cases h
  rfl
theorem hit_end {k : Nat} {s : List UInt8} {ts : List Tok} {i : Nat} (h : ts.length ≤ i) : hit k s (ts.drop i) = false := by
  rw [List.drop_eq_nil_of_le h]; rfl

end Go.Proofs.YtoadmjnaakbljaaDoor
