/- Contracts as the laws of layer 4 use them. -/
import Derived.Test.YtccdnmjijakofaaDoorNt3
import Derived.Test.YtccdnmjijakofaaDoorSH
import Derived.Test.YtccdnmjijakofaaDoorLexQ
import Derived.Test.YtccdnmjijakofaaDoorPU
namespace Go.Proofs.YtccdnmjijakofaaDoor
open Go Go.RowKit
set_option maxRecDepth 100000
set_option linter.unusedVariables false

theorem kSameS (t : Ty) (h : t.size ≤ 1000000000) : Con Tryd.prog 20 [.agg (tyE t), .agg (tyE t)] [] (.c (.lit (.bool true))) [] := by
  have c := kSame t.size t t h (Nat.le_refl _)
  rw [mSame_refl] at c
  exact c
def scTs (bs : List UInt8) : List Tok := match mScan bs with | .ok ts => ts | .error _ => []
def scP (bs : List UInt8) : Int := match mScan bs with | .ok _ => 0 | .error p => (p : Int)
def scE (bs : List UInt8) : Int := match mScan bs with | .ok _ => 0 | .error _ => 3
theorem scTs_len (bs : List UInt8) : (scTs bs).length ≤ 16384 := by
  unfold scTs
  cases h : mScan bs with
  | ok ts => exact mScan_len h
  | error p => exact Nat.zero_le _
theorem kScan (bs : List UInt8) (hm : bs.length ≤ 140737488351232) : Con Tryd.prog 18 [.c (.sl 1 (bcells bs))] [] (.tup [.c (toksD (scTs bs)), .c (.lit (.int .i64 (scP bs))), .c (.lit (.int .i64 (scE bs)))]) [] := by
  have c := lexScan_con bs hm
  unfold scTs scP scE
  cases h : mScan bs with
  | ok ts => rw [h] at c; exact c
  | error p => rw [h] at c; exact c
theorem kRead (ts : List Tok) (i : Int) (hm : ts.length ≤ 1000000000) : Con Tryd.prog 19 [.c (toksD ts), .c (.lit (.int .i64 i))] [] (.tup [.agg (tyE (mRead ts i).1), .c (.lit (.int .i64 (mRead ts i).2.1)), .c (.lit (.int .i64 (mRead ts i).2.2))]) [] := by
  have c := nRead_any ts i hm
  rw [readD, tyD_eq] at c
  exact c

end Go.Proofs.YtccdnmjijakofaaDoor
