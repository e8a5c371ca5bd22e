/- Walks: the program's text of a text (word.Quote); the wakes of the statements on words. -/
import Derived.Test.YtoadmjnaakbljaaDoorWordN
import Derived.Test.YtoadmjnaakbljaaDoorBytes3
import Derived.Test.YtoadmjnaakbljaaDoorDrawn
namespace Go.Proofs.YtoadmjnaakbljaaDoor
open Go Go.RowKit

set_option maxHeartbeats 2000000
set_option maxRecDepth 100000

theorem laterX_alloc (x : Option Nat) (W : World) (o : Obj) : LaterX x W (W.alloc o) := ⟨by simp, fun p hp _ => World.cell?_alloc_lt W o p hp⟩
theorem rdB_mark0 (w : World) (bs : List UInt8) (t : TypeId) (cs : Array Value) (h : cs = (bs.map fun x => Value.int .u8 (x.toNat : Int)).toArray) : RdB (w.alloc (.cells cs t)) (some ⟨w.heap.size, 0, none⟩) bs := by
  subst h
  exact fun j hj => ⟨_, rfl, newsB w bs t j hj⟩

theorem hexD_nat : ∀ n, n < 16 → ((hexD n).toNat : Int) = if n < 10 then (48 : Int) + n else 87 + n := by decide
def wn1 : List UInt8 := [126, 57, 50, 50, 51, 51, 55, 50, 48, 51, 54, 56, 53, 52, 55, 55, 53, 56, 48, 56]
def wt1 : List UInt8 := [34, 97, 92, 50, 50, 34]
end Go.Proofs.YtoadmjnaakbljaaDoor
