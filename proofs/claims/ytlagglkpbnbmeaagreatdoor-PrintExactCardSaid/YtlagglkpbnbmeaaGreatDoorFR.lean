/- Bundle of Frame DFrame. -/
import Derived.Test.YtlagglkpbnbmeaaGreatDoorLX
import Derived.ProofKit
import Derived.OpenShut
import Derived.ShutString
import Derived.ChangeOld
import Derived.Below
import Derived.Test.YtlagglkpbnbmeaaGreatDoorWX
import Derived.Test.YtlagglkpbnbmeaaGreatDoorTie
import Derived.Test.YtlagglkpbnbmeaaGreatDoorCards
import Derived.LaidMore
import Derived.Stop.Joined
import Derived.Stop.LaidErr
import Derived.Lay
import Derived.SevenTiedAt

/- What every row's step shares: how a slice of bytes that came in reads. The 'IsRow' and the two closed facts are the kit's own shell's (proof-skeleton). -/
namespace Go.Proofs.YtlagglkpbnbmeaaGreatDoor
open Go Go.RowKit

theorem own : ownKnob Tryz.prog.godebug = none := by kernel_rfl
theorem laidOut : laidOutB Tryz.prog = true := by kernel_rfl

end Go.Proofs.YtlagglkpbnbmeaaGreatDoor

/- What the cards of this seat share: the library's tables as the rows list them, a world that holds them, and what the walks take from it. -/
namespace Go.Proofs.YtlagglkpbnbmeaaGreatDoor
open Go.ChangeShapes Go.WideShapes Go.ChangeAt Go.RowKit

def laid3 : List (String × DataW Unit) := [("math/bits.deBruijn32tab", Rows.laid_math_bits_deBruijn32tab), ("math/bits.deBruijn64tab", Rows.laid_math_bits_deBruijn64tab), ("internal/strconv.uint64pow10", Rows.laid_internal_strconv_uint64pow10)]

theorem laid_met (os : Os) (args : Array Value) : laidMetH Tryz.prog laid3 ((World.laidAll Tryz.prog os laid3).forCall (fun _ _ => 0) ⟨#[], args, []⟩).memory := by
  rw [MakeChecks.laidMetH_plain _ _ _ (by kernel_rfl)]
  exact laidMet_laidAll args (by kernel_rfl) (by kernel_rfl)

theorem tab_of {W : World} (h : laidMetH Tryz.prog laid3 W) : tab10 W W.heap.size := by
  rw [MakeChecks.laidMetH_plain _ _ _ (by kernel_rfl)] at h
  have h2 := h.tail.tail
  have e : (Rows.laid_internal_strconv_uint64pow10 : DataW Unit) = Lib.tabData .u64 Lib.pow10Tab := by kernel_rfl
  rw [e] at h2
  have hg : Tryz.prog.globalNamed "internal/strconv.uint64pow10" = some (Tryz.prog.globalNamed "internal/strconv.uint64pow10").get! := by kernel_rfl
  exact Lib.tabBelow_of_tabIs (Lib.tabIs_of_head hg (t := 150) (e := 98) (n := 20) (by kernel_rfl) (by kernel_rfl) Tryz.underlying98 (by kernel_rfl) (by kernel_rfl) h2)

end Go.Proofs.YtlagglkpbnbmeaaGreatDoor

