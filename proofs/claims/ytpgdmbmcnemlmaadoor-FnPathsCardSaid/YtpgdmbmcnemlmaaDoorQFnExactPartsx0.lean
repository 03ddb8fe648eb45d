/- Written by a program of mine (qprint.py, over the kit's print.py, and texts by hand) for the law FnExactParts: the functions that it reaches, as Lean functions, and that the program answers as they do. -/
import Derived.Test.YtpgdmbmcnemlmaaDoorProg
import Derived.Below
import Derived.Deep.Draws
import Derived.Deep.AppendLies
import Derived.Maps.AppendAt
import Derived.OwnWalk
import Derived.Laws.BytesArg
import Derived.Laws.MakeOwn
import Derived.Laws.OwnMore
import Derived.Deep.OwnRows
import Derived.Tactics
import Derived.Lib.ConvBytes
import Derived.Laws.Slices
import Derived.WalkKit
import Derived.KernelRfl
import Derived.RowKit3
import Derived.Deep.LoopGhost
import Derived.Deep.QuietTactic
import Derived.BigQuiet
import Derived.WideLaws
import Derived.Deep.DeepCutAuto
import Derived.Deep.CutBlock
import Derived.Deep.RegionHeld3
import Derived.Laws.Rows
import Derived.Lib.AppendStr
import Derived.ArgAppend
import Derived.Laws.IdiomCopy
import Derived.OrdersHeld
import Derived.Laws.BitsLemmas
import Derived.RowKit
import Derived.Test.YtpgdmbmcnemlmaaDoorWWords
import Derived.Test.YtpgdmbmcnemlmaaDoorWLast
import Derived.Test.YtpgdmbmcnemlmaaDoorWTab
import Derived.Test.YtpgdmbmcnemlmaaDoorWFour
import Derived.Test.YtpgdmbmcnemlmaaDoorWQPut
import Derived.Test.YtpgdmbmcnemlmaaDoorWApart
import Derived.Test.YtpgdmbmcnemlmaaDoorWArr
import Derived.Test.YtpgdmbmcnemlmaaDoorWZeros
import Derived.Test.YtpgdmbmcnemlmaaDoorWFoot
import Derived.Test.YtpgdmbmcnemlmaaDoorWKept
import Derived.Test.YtpgdmbmcnemlmaaDoorWShare
import Derived.Test.YtpgdmbmcnemlmaaDoorWN
import Derived.Test.YtpgdmbmcnemlmaaDoorWFootNe
import Derived.Test.YtpgdmbmcnemlmaaDoorWAt
import Derived.Test.YtpgdmbmcnemlmaaDoorWEqStruct
import Derived.Test.YtpgdmbmcnemlmaaDoorWRepsOne
import Derived.Test.YtpgdmbmcnemlmaaDoorWInv
import Derived.Test.YtpgdmbmcnemlmaaDoorWInvWords
import Derived.Test.YtpgdmbmcnemlmaaDoorWGuard
import Derived.Test.YtpgdmbmcnemlmaaDoorWNEv
import Derived.Test.YtpgdmbmcnemlmaaDoorWMore
namespace Go.Proofs.YtpgdmbmcnemlmaaDoor.PFnExactParts
open Go.RowKit Go.Proofs.YtpgdmbmcnemlmaaDoorW.PrintWords Go.Proofs.YtpgdmbmcnemlmaaDoorW.PrintLast Go.Proofs.YtpgdmbmcnemlmaaDoorW.PrintMore
attribute [local go_sem] max2_int min2_int max_two min_two max_three min_three max_four min_four   -- for this text's walks alone
set_option linter.unusedVariables false
set_option linter.unusedSimpArgs false



def errW : Option Int → Value
  | none => .nilIface
  | some c => .iface 0 (.int .i64 c)
theorem errW_none : errW none = .nilIface := rfl
theorem errW_some (c : Int) : errW (some c) = .iface 0 (.int .i64 c) := rfl

theorem info5 : (Tryd.prog.info? 5).map (fun i => (i.zero, i.size, i.bytes)) = some (some (.int .u8 0), 1, 1) := by kernel_rfl
theorem info9 : (Tryd.prog.info? 9).map (fun i => (i.zero, i.size, i.bytes)) = some (some (.string ⟨#[]⟩), 1, 16) := by kernel_rfl
-- the values' own types

end Go.Proofs.YtpgdmbmcnemlmaaDoor.PFnExactParts
