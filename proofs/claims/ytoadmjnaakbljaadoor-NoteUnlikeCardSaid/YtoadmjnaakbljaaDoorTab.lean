/- The table of the library that is read here. -/
import Derived.Test.YtoadmjnaakbljaaDoorWordN
namespace Go.Proofs.YtoadmjnaakbljaaDoor
open Go Go.RowKit

def TT (B : Nat) (w : World) : Prop := tab10 w B
theorem TT.below {B : Nat} {w w' : World} (h : TT B w) (hb : Below B w w') : TT B w' := fun w2 hb2 => h w2 (hb.trans hb2)
theorem TT.tab {B : Nat} {w : World} (h : TT B w) : Lib.TabIs Tryd.prog w "internal/strconv.uint64pow10" .u64 Lib.pow10Tab := h w (Below.refl _ _)

end Go.Proofs.YtoadmjnaakbljaaDoor
