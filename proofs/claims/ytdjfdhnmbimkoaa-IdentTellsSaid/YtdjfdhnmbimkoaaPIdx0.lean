-- Written by a program of this session (wip/p2) out of the translation; Lean checks it.
import Derived.Test.YtdjfdhnmbimkoaaProg
import Derived.Below
import Derived.Deep.Draws
import Derived.Deep.AppendLies
import Derived.Maps.AppendAt
import Derived.OwnWalk
import Derived.Laws.BytesArg
import Derived.Laws.MakeOwn
import Derived.Laws.OwnMore
import Derived.Deep.OwnRows
import Derived.Tactics
import Derived.Lib.ConvBytes
import Derived.Laws.Slices
import Derived.WalkKit
import Derived.KernelRfl
import Derived.RowKit3
import Derived.Deep.LoopGhost
import Derived.Deep.QuietTactic
import Derived.BigQuiet
import Derived.WideLaws
import Derived.Deep.DeepCutAuto
import Derived.Deep.CutBlock
import Derived.Deep.RegionHeld3
import Derived.Laws.Rows
import Derived.Lib.AppendStr
import Derived.ArgAppend
import Derived.Laws.IdiomCopy
import Derived.OrdersHeld
import Derived.Laws.BitsLemmas
import Derived.RowKit
import Derived.Test.YtdjfdhnmbimkoaaOpen
import Derived.Test.YtdjfdhnmbimkoaaWWords
import Derived.Test.YtdjfdhnmbimkoaaWLast
import Derived.Test.YtdjfdhnmbimkoaaWTab
import Derived.Test.YtdjfdhnmbimkoaaWFour
import Derived.Test.YtdjfdhnmbimkoaaWQPut
import Derived.Test.YtdjfdhnmbimkoaaWApart
import Derived.Test.YtdjfdhnmbimkoaaWArr
import Derived.Test.YtdjfdhnmbimkoaaWZeros
import Derived.Test.YtdjfdhnmbimkoaaWFoot
import Derived.Test.YtdjfdhnmbimkoaaWKept
import Derived.Test.YtdjfdhnmbimkoaaWShare
import Derived.Test.YtdjfdhnmbimkoaaWN
import Derived.Test.YtdjfdhnmbimkoaaWFootNe
import Derived.Test.YtdjfdhnmbimkoaaWAt
import Derived.Test.YtdjfdhnmbimkoaaWEqStruct
import Derived.Test.YtdjfdhnmbimkoaaWRepsOne
import Derived.Test.YtdjfdhnmbimkoaaWInv
import Derived.Test.YtdjfdhnmbimkoaaWInvWords
import Derived.Test.YtdjfdhnmbimkoaaWGuard
import Derived.Test.YtdjfdhnmbimkoaaWNEv
import Derived.Test.YtdjfdhnmbimkoaaWMore
namespace Go.Proofs.Ytdjfdhnmbimkoaa.PId
open Go.RowKit Go.Proofs.YtdjfdhnmbimkoaaW.PrintWords Go.Proofs.YtdjfdhnmbimkoaaW.PrintLast Go.Proofs.YtdjfdhnmbimkoaaW.PrintMore
attribute [local go_sem] max2_int min2_int max_two min_two max_three min_three max_four min_four   -- for this text's walks alone
set_option linter.unusedVariables false
set_option linter.unusedSimpArgs false
open Go.Proofs.Ytdjfdhnmbimkoaa.Opn Go.Proofs.Ytdjfdhnmbimkoaa.Giv



def errW : Option Int → Value
  | none => .nilIface
  | some c => .iface 0 (.int .i64 c)
theorem errW_none : errW none = .nilIface := rfl
theorem errW_some (c : Int) : errW (some c) = .iface 0 (.int .i64 c) := rfl

theorem info5 : (Try.prog.info? 5).map (fun i => (i.zero, i.size, i.bytes)) = some (some (.int .u8 0), 1, 1) := by kernel_rfl
theorem info9 : (Try.prog.info? 9).map (fun i => (i.zero, i.size, i.bytes)) = some (some (.string ⟨#[]⟩), 1, 16) := by kernel_rfl
-- the values' own types

end Go.Proofs.Ytdjfdhnmbimkoaa.PId
