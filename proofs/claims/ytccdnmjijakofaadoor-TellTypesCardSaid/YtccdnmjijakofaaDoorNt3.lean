/- The wake-up call of layer 4; rows of types. -/
import Derived.Test.YtccdnmjijakofaaDoorNt2
import Derived.Test.YtccdnmjijakofaaDoorNr2
namespace Go.Proofs.YtccdnmjijakofaaDoor
open Go Go.RowKit
set_option maxRecDepth 100000
set_option linter.unusedVariables false

theorem tysD_E (l : List Ty) : tysD l = l.map tyE := by
  rw [tysD_map]
  exact List.map_congr_left fun t _ => tyD_eq t
theorem kHeavyE (l : List Ty) (hl0 : l.length ≤ 10) : Con Tryd.prog 33 [.c (.sl 3 (l.map tyE))] [] (.c (.lit (.bool (decide (600 < l.foldl (fun n t => mCnt t n) 0))))) [] := by
  have := kHeavy l hl0
  rw [tysD_E] at this
  exact this
theorem kTextR (t : Ty) (h : t.size ≤ 100000) (hr : mRight t = true) : Con Tryd.prog 38 [.agg (tyE t)] [] (.tup [.c (.lit (str (mTxt t))), .c (.lit (.int .i64 0))]) [] := by
  have c := kText t h
  rw [hr] at c
  exact c

def wB : List UInt8 := [105, 110, 116, 32, 42, 32, 98, 111, 111, 108, 32, 45, 62, 32, 63, 32, 108, 105, 115, 116, 32, 41]
def wTs : List Tok := match mScan wB with | .ok ts => ts | .error _ => []
def wTy : Ty := .two 9 (.two 7 (.leaf 1) (.leaf 2)) (.one 8 (.leaf 5))
def wTx : List UInt8 := [40, 105, 110, 116, 32, 42, 32, 98, 111, 111, 108, 41, 32, 45, 62, 32, 40, 63, 32, 108, 105, 115, 116, 41]
theorem wScan : Con Tryd.prog 18 [.c (.sl 1 (bcells wB))] [] (.tup [.c (toksD wTs), .c (.lit (.int .i64 0)), .c (.lit (.int .i64 0))]) [] := by
  have c := lexScan_con wB (by decide)
  rw [show mScan wB = .ok wTs by kernel_rfl] at c
  exact c
theorem wRead0 : Con Tryd.prog 19 [.c (toksD wTs), .c (.lit (.int .i64 0))] [] (.tup [.agg (tyE wTy), .c (.lit (.int .i64 6)), .c (.lit (.int .i64 0))]) [] := by
  have c := nRead_any wTs 0 (by rw [show wTs.length = 7 by kernel_rfl]; decide)
  rw [show mRead wTs 0 = (wTy, 6, 0) by kernel_rfl, readD, tyD_eq] at c
  exact c
theorem wRead1 : Con Tryd.prog 19 [.c (toksD wTs), .c (.lit (.int .i64 1))] [] (.tup [.agg (tyE (.leaf 0)), .c (.lit (.int .i64 1)), .c (.lit (.int .i64 3))]) [] := by
  have c := nRead_any wTs 1 (by rw [show wTs.length = 7 by kernel_rfl]; decide)
  rw [show mRead wTs 1 = (.leaf 0, 1, 3) by kernel_rfl, readD, tyD_eq] at c
  exact c
theorem wText : Con Tryd.prog 38 [.agg (tyE wTy)] [] (.tup [.c (.lit (str wTx)), .c (.lit (.int .i64 0))]) [] := by
  have c := kTextR wTy (by rw [show wTy.size = 6 by kernel_rfl]; decide) (by kernel_rfl)
  rw [show mTxt wTy = wTx by simp [wTy, mTxt_fun, mTxt_pair, mTxt_list, mKid_eq, mTxt_1, mTxt_2, mTxt_5, Ty.kids, tkInt, tkBool, wTx]] at c
  exact c

end Go.Proofs.YtccdnmjijakofaaDoor
