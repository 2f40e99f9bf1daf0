-- Laid by a program of this session (printx.py) over the kit's printer; Lean checks it.
import Derived.Test.YtmcdeglocjhggaaProg
import Derived.Below
import Derived.Deep.Draws
import Derived.Deep.AppendLies
import Derived.Maps.AppendAt
import Derived.OwnWalk
import Derived.Laws.BytesArg
import Derived.Laws.MakeOwn
import Derived.Laws.OwnMore
import Derived.Deep.OwnRows
import Derived.Tactics
import Derived.Lib.ConvBytes
import Derived.Laws.Slices
import Derived.WalkKit
import Derived.KernelRfl
import Derived.RowKit3
import Derived.Deep.LoopGhost
import Derived.Deep.QuietTactic
import Derived.BigQuiet
import Derived.WideLaws
import Derived.Deep.DeepCutAuto
import Derived.Deep.CutBlock
import Derived.Deep.RegionHeld3
import Derived.Laws.Rows
import Derived.Lib.AppendStr
import Derived.ArgAppend
import Derived.Laws.IdiomCopy
import Derived.OrdersHeld
import Derived.Laws.BitsLemmas
import Derived.RowKit
import Derived.Test.YtmcdeglocjhggaaWWords
import Derived.Test.YtmcdeglocjhggaaWLast
import Derived.Test.YtmcdeglocjhggaaWTab
import Derived.Test.YtmcdeglocjhggaaWFour
import Derived.Test.YtmcdeglocjhggaaWQPut
import Derived.Test.YtmcdeglocjhggaaWApart
import Derived.Test.YtmcdeglocjhggaaWArr
import Derived.Test.YtmcdeglocjhggaaWZeros
import Derived.Test.YtmcdeglocjhggaaWFoot
import Derived.Test.YtmcdeglocjhggaaWKept
import Derived.Test.YtmcdeglocjhggaaWShare
import Derived.Test.YtmcdeglocjhggaaWN
import Derived.Test.YtmcdeglocjhggaaWFootNe
import Derived.Test.YtmcdeglocjhggaaWAt
import Derived.Test.YtmcdeglocjhggaaWEqStruct
import Derived.Test.YtmcdeglocjhggaaWRepsOne
import Derived.Test.YtmcdeglocjhggaaWInv
import Derived.Test.YtmcdeglocjhggaaWInvWords
import Derived.Test.YtmcdeglocjhggaaWGuard
import Derived.Test.YtmcdeglocjhggaaWNEv
import Derived.Test.YtmcdeglocjhggaaWMore
namespace Go.Proofs.Ytmcdeglocjhggaa.G
open Go.RowKit Go.Proofs.YtmcdeglocjhggaaW.PrintWords Go.Proofs.YtmcdeglocjhggaaW.PrintLast Go.Proofs.YtmcdeglocjhggaaW.PrintMore
attribute [local go_sem] max2_int min2_int max_two min_two max_three min_three max_four min_four   -- for this text's walks alone
set_option linter.unusedVariables false
set_option linter.unusedSimpArgs false



def errW : Option Int → Value
  | none => .nilIface
  | some c => .iface 0 (.int .i64 c)
theorem errW_none : errW none = .nilIface := rfl
theorem errW_some (c : Int) : errW (some c) = .iface 0 (.int .i64 c) := rfl

theorem info5 : (Try.prog.info? 5).map (fun i => (i.zero, i.size, i.bytes)) = some (some (.int .u8 0), 1, 1) := by kernel_rfl
-- the values' own types

end Go.Proofs.Ytmcdeglocjhggaa.G
