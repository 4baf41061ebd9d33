-- PRINTED BY print.sh 35421559b90ae4d0a3588c463048766b98c2df88dd9212a6774a882060cdf62d: not written by this session
import Derived.Test.YtloeobcedhnmfaaProg
import Derived.Below
import Derived.Deep.Draws
import Derived.Deep.AppendLies
import Derived.Maps.AppendAt
import Derived.OwnWalk
import Derived.Laws.BytesArg
import Derived.Laws.MakeOwn
import Derived.Laws.OwnMore
import Derived.Deep.OwnRows
import Derived.Tactics
import Derived.Lib.ConvBytes
import Derived.Laws.Slices
import Derived.WalkKit
import Derived.KernelRfl
import Derived.RowKit3
import Derived.Deep.LoopGhost
import Derived.Deep.QuietTactic
import Derived.BigQuiet
import Derived.WideLaws
import Derived.Deep.DeepCutAuto
import Derived.Deep.CutBlock
import Derived.Deep.RegionHeld3
import Derived.Laws.Rows
import Derived.Lib.AppendStr
import Derived.ArgAppend
import Derived.Laws.IdiomCopy
import Derived.OrdersHeld
import Derived.Laws.BitsLemmas
import Derived.RowKit
import Derived.Test.YtloeobcedhnmfaaWWords
import Derived.Test.YtloeobcedhnmfaaWLast
import Derived.Test.YtloeobcedhnmfaaWTab
import Derived.Test.YtloeobcedhnmfaaWFour
import Derived.Test.YtloeobcedhnmfaaWQPut
import Derived.Test.YtloeobcedhnmfaaWApart
import Derived.Test.YtloeobcedhnmfaaWArr
import Derived.Test.YtloeobcedhnmfaaWZeros
import Derived.Test.YtloeobcedhnmfaaWFoot
import Derived.Test.YtloeobcedhnmfaaWKept
import Derived.Test.YtloeobcedhnmfaaWShare
import Derived.Test.YtloeobcedhnmfaaWN
import Derived.Test.YtloeobcedhnmfaaWFootNe
import Derived.Test.YtloeobcedhnmfaaWAt
import Derived.Test.YtloeobcedhnmfaaWEqStruct
import Derived.Test.YtloeobcedhnmfaaWRepsOne
import Derived.Test.YtloeobcedhnmfaaWInv
import Derived.Test.YtloeobcedhnmfaaWInvWords
import Derived.Test.YtloeobcedhnmfaaWGuard
import Derived.Test.YtloeobcedhnmfaaWNEv
import Derived.Test.YtloeobcedhnmfaaWMore
namespace Go.Proofs.Ytloeobcedhnmfaa.PFnExactChecksum
open Go.RowKit Go.Proofs.YtloeobcedhnmfaaW.PrintWords Go.Proofs.YtloeobcedhnmfaaW.PrintLast Go.Proofs.YtloeobcedhnmfaaW.PrintMore
attribute [local go_sem] max2_int min2_int max_two min_two max_three min_three max_four min_four   -- for this text's walks alone
set_option linter.unusedVariables false
set_option linter.unusedSimpArgs false



def errW : Option Int → Value
  | none => .nilIface
  | some c => .iface 0 (.int .i64 c)
theorem errW_none : errW none = .nilIface := rfl
theorem errW_some (c : Int) : errW (some c) = .iface 0 (.int .i64 c) := rfl

theorem info5 : (Try.prog.info? 5).map (fun i => (i.zero, i.size, i.bytes)) = some (some (.int .u8 0), 1, 1) := by kernel_rfl
-- the values' own types

end Go.Proofs.Ytloeobcedhnmfaa.PFnExactChecksum
