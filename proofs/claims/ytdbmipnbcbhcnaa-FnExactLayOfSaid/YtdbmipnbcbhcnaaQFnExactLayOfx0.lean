/- Functions of the program as functions over numbers and lists, each with the proof that the call comes to just its answer. Conditions: the function answers. Told by a program of this session that runs the kit's print with own parts. -/
import Derived.Test.YtdbmipnbcbhcnaaProg
import Derived.Below
import Derived.Deep.Draws
import Derived.Deep.AppendLies
import Derived.Maps.AppendAt
import Derived.OwnWalk
import Derived.Laws.BytesArg
import Derived.Laws.MakeOwn
import Derived.Laws.OwnMore
import Derived.Deep.OwnRows
import Derived.Tactics
import Derived.Lib.ConvBytes
import Derived.Laws.Slices
import Derived.WalkKit
import Derived.KernelRfl
import Derived.RowKit3
import Derived.Deep.LoopGhost
import Derived.Deep.QuietTactic
import Derived.BigQuiet
import Derived.WideLaws
import Derived.Deep.DeepCutAuto
import Derived.Deep.CutBlock
import Derived.Deep.RegionHeld3
import Derived.Laws.Rows
import Derived.Lib.AppendStr
import Derived.ArgAppend
import Derived.Laws.IdiomCopy
import Derived.OrdersHeld
import Derived.Laws.BitsLemmas
import Derived.RowKit
import Derived.Test.YtdbmipnbcbhcnaaWWords
import Derived.Test.YtdbmipnbcbhcnaaWLast
import Derived.Test.YtdbmipnbcbhcnaaWTab
import Derived.Test.YtdbmipnbcbhcnaaWFour
import Derived.Test.YtdbmipnbcbhcnaaWQPut
import Derived.Test.YtdbmipnbcbhcnaaWApart
import Derived.Test.YtdbmipnbcbhcnaaWArr
import Derived.Test.YtdbmipnbcbhcnaaWZeros
import Derived.Test.YtdbmipnbcbhcnaaWFoot
import Derived.Test.YtdbmipnbcbhcnaaWKept
import Derived.Test.YtdbmipnbcbhcnaaWShare
import Derived.Test.YtdbmipnbcbhcnaaWN
import Derived.Test.YtdbmipnbcbhcnaaWFootNe
import Derived.Test.YtdbmipnbcbhcnaaWAt
import Derived.Test.YtdbmipnbcbhcnaaWEqStruct
import Derived.Test.YtdbmipnbcbhcnaaWRepsOne
import Derived.Test.YtdbmipnbcbhcnaaWInv
import Derived.Test.YtdbmipnbcbhcnaaWInvWords
import Derived.Test.YtdbmipnbcbhcnaaWGuard
import Derived.Test.YtdbmipnbcbhcnaaWNEv
import Derived.Test.YtdbmipnbcbhcnaaWMore
namespace Go.Proofs.Ytdbmipnbcbhcnaa.QFnExactLayOf
open Go.RowKit Go.Proofs.YtdbmipnbcbhcnaaW.PrintWords Go.Proofs.YtdbmipnbcbhcnaaW.PrintLast Go.Proofs.YtdbmipnbcbhcnaaW.PrintMore
attribute [local go_sem] max2_int min2_int max_two min_two max_three min_three max_four min_four   -- for this text's walks alone
set_option linter.unusedVariables false
set_option linter.unusedSimpArgs false



def errW : Option Int → Value
  | none => .nilIface
  | some c => .iface 0 (.int .i64 c)
theorem errW_none : errW none = .nilIface := rfl
theorem errW_some (c : Int) : errW (some c) = .iface 0 (.int .i64 c) := rfl

theorem info5 : (Try.prog.info? 5).map (fun i => (i.zero, i.size, i.bytes)) = some (some (.int .u8 0), 1, 1) := by kernel_rfl
theorem info9 : (Try.prog.info? 9).map (fun i => (i.zero, i.size, i.bytes)) = some (some (.string ⟨#[]⟩), 1, 16) := by kernel_rfl
-- the values' own types

end Go.Proofs.Ytdbmipnbcbhcnaa.QFnExactLayOf
