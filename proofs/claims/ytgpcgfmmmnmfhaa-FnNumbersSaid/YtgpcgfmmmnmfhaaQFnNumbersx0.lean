/- Written by a program of mine (qprint.py, over the kit's print.py, and texts by hand) for the law FnNumbers: the functions that it reaches, as Lean functions, and that the program answers as they do. -/
import Derived.Test.YtgpcgfmmmnmfhaaProg
import Derived.Lib.Bytealg
import Derived.Below
import Derived.Deep.Draws
import Derived.Deep.AppendLies
import Derived.Maps.AppendAt
import Derived.OwnWalk
import Derived.Laws.BytesArg
import Derived.Laws.MakeOwn
import Derived.Laws.OwnMore
import Derived.Deep.OwnRows
import Derived.Tactics
import Derived.Lib.ConvBytes
import Derived.Laws.Slices
import Derived.WalkKit
import Derived.KernelRfl
import Derived.RowKit3
import Derived.Deep.LoopGhost
import Derived.Deep.QuietTactic
import Derived.BigQuiet
import Derived.WideLaws
import Derived.Deep.DeepCutAuto
import Derived.Deep.CutBlock
import Derived.Deep.RegionHeld3
import Derived.Laws.Rows
import Derived.Lib.AppendStr
import Derived.ArgAppend
import Derived.Laws.IdiomCopy
import Derived.OrdersHeld
import Derived.Laws.BitsLemmas
import Derived.RowKit
import Derived.Test.YtgpcgfmmmnmfhaaWWords
import Derived.Test.YtgpcgfmmmnmfhaaWLast
import Derived.Test.YtgpcgfmmmnmfhaaWTab
import Derived.Test.YtgpcgfmmmnmfhaaWFour
import Derived.Test.YtgpcgfmmmnmfhaaWQPut
import Derived.Test.YtgpcgfmmmnmfhaaWApart
import Derived.Test.YtgpcgfmmmnmfhaaWArr
import Derived.Test.YtgpcgfmmmnmfhaaWZeros
import Derived.Test.YtgpcgfmmmnmfhaaWFoot
import Derived.Test.YtgpcgfmmmnmfhaaWKept
import Derived.Test.YtgpcgfmmmnmfhaaWShare
import Derived.Test.YtgpcgfmmmnmfhaaWN
import Derived.Test.YtgpcgfmmmnmfhaaWFootNe
import Derived.Test.YtgpcgfmmmnmfhaaWAt
import Derived.Test.YtgpcgfmmmnmfhaaWEqStruct
import Derived.Test.YtgpcgfmmmnmfhaaWRepsOne
import Derived.Test.YtgpcgfmmmnmfhaaWInv
import Derived.Test.YtgpcgfmmmnmfhaaWInvWords
import Derived.Test.YtgpcgfmmmnmfhaaWGuard
import Derived.Test.YtgpcgfmmmnmfhaaWNEv
import Derived.Test.YtgpcgfmmmnmfhaaWMore
namespace Go.Proofs.Ytgpcgfmmmnmfhaa.PFnNumbers
open Go.RowKit Go.Proofs.YtgpcgfmmmnmfhaaW.PrintWords Go.Proofs.YtgpcgfmmmnmfhaaW.PrintLast Go.Proofs.YtgpcgfmmmnmfhaaW.PrintMore
attribute [local go_sem] max2_int min2_int max_two min_two max_three min_three max_four min_four   -- for this text's walks alone
set_option linter.unusedVariables false
set_option linter.unusedSimpArgs false



def errW : Option Int → Value
  | none => .nilIface
  | some c => .iface 0 (.int .i64 c)
theorem errW_none : errW none = .nilIface := rfl
theorem errW_some (c : Int) : errW (some c) = .iface 0 (.int .i64 c) := rfl

theorem info3 : (Try.prog.info? 3).map (fun i => (i.zero, i.size, i.bytes)) = some (some (.int .i64 0), 1, 8) := by kernel_rfl
theorem info5 : (Try.prog.info? 5).map (fun i => (i.zero, i.size, i.bytes)) = some (some (.int .u8 0), 1, 1) := by kernel_rfl
-- the values' own types

end Go.Proofs.Ytgpcgfmmmnmfhaa.PFnNumbers
