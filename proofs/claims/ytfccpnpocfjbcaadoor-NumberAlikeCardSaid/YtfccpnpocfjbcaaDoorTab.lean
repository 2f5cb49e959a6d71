/- The table of the powers of ten, carried along a run. Conditions: none. -/
import Derived.Test.YtfccpnpocfjbcaaDoorProg
import Derived.Lib.LaidTab
import Derived.Lib.ItoaNum
import Derived.Lib.SmallJoins
import Derived.Lib.AppendIntMem
import Derived.Below
import Derived.WalkKit
namespace Go.Proofs.YtfccpnpocfjbcaaDoor.Tbl
open Go.RowKit
def Tab0 (w : World) : Prop := Lib.TabIs Tryd.prog w "internal/strconv.uint64pow10" .u64 Lib.pow10Tab
theorem glob : ∃ g, Tryd.prog.globalNamed "internal/strconv.uint64pow10" = some g := ⟨1, by kernel_rfl⟩
theorem tab0_stays {w W : World} (h : Tab0 w) (hb : Below w.heap.size w W) : Tab0 W := by
  obtain ⟨g, hg⟩ := glob
  exact Joins.tab_stays hg h hb (Nat.le_refl _)
end Go.Proofs.YtfccpnpocfjbcaaDoor.Tbl
