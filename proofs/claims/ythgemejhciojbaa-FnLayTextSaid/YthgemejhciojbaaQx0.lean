/- Functions of the program as functions over numbers and lists, each with the proof that the call comes to just its answer. Conditions: the function answers. Told by a program of this session that runs the kit's print with own parts. -/
import Derived.Test.YthgemejhciojbaaProg
import Derived.Below
import Derived.Deep.Draws
import Derived.Deep.AppendLies
import Derived.Maps.AppendAt
import Derived.OwnWalk
import Derived.Laws.BytesArg
import Derived.Laws.MakeOwn
import Derived.Laws.OwnMore
import Derived.Deep.OwnRows
import Derived.Tactics
import Derived.Lib.ConvBytes
import Derived.Laws.Slices
import Derived.WalkKit
import Derived.KernelRfl
import Derived.RowKit3
import Derived.Deep.LoopGhost
import Derived.Deep.QuietTactic
import Derived.BigQuiet
import Derived.WideLaws
import Derived.Deep.DeepCutAuto
import Derived.Deep.CutBlock
import Derived.Deep.RegionHeld3
import Derived.Laws.Rows
import Derived.Lib.AppendStr
import Derived.ArgAppend
import Derived.Laws.IdiomCopy
import Derived.OrdersHeld
import Derived.Laws.BitsLemmas
import Derived.RowKit
import Derived.Test.YthgemejhciojbaaWWords
import Derived.Test.YthgemejhciojbaaWLast
import Derived.Test.YthgemejhciojbaaWTab
import Derived.Test.YthgemejhciojbaaWFour
import Derived.Test.YthgemejhciojbaaWQPut
import Derived.Test.YthgemejhciojbaaWApart
import Derived.Test.YthgemejhciojbaaWArr
import Derived.Test.YthgemejhciojbaaWZeros
import Derived.Test.YthgemejhciojbaaWFoot
import Derived.Test.YthgemejhciojbaaWKept
import Derived.Test.YthgemejhciojbaaWShare
import Derived.Test.YthgemejhciojbaaWN
import Derived.Test.YthgemejhciojbaaWFootNe
import Derived.Test.YthgemejhciojbaaWAt
import Derived.Test.YthgemejhciojbaaWEqStruct
import Derived.Test.YthgemejhciojbaaWRepsOne
import Derived.Test.YthgemejhciojbaaWInv
import Derived.Test.YthgemejhciojbaaWInvWords
import Derived.Test.YthgemejhciojbaaWGuard
import Derived.Test.YthgemejhciojbaaWNEv
import Derived.Test.YthgemejhciojbaaWMore
namespace Go.Proofs.Ythgemejhciojbaa.Q
open Go.RowKit Go.Proofs.YthgemejhciojbaaW.PrintWords Go.Proofs.YthgemejhciojbaaW.PrintLast Go.Proofs.YthgemejhciojbaaW.PrintMore
attribute [local go_sem] max2_int min2_int max_two min_two max_three min_three max_four min_four   -- for this text's walks alone
set_option linter.unusedVariables false
set_option linter.unusedSimpArgs false



def errW : Option Int → Value
  | none => .nilIface
  | some c => .iface 0 (.int .i64 c)
theorem errW_none : errW none = .nilIface := rfl
theorem errW_some (c : Int) : errW (some c) = .iface 0 (.int .i64 c) := rfl

theorem info3 : (Try.prog.info? 3).map (fun i => (i.zero, i.size, i.bytes)) = some (some (.int .i64 0), 1, 8) := by kernel_rfl
theorem info5 : (Try.prog.info? 5).map (fun i => (i.zero, i.size, i.bytes)) = some (some (.int .u8 0), 1, 1) := by kernel_rfl
theorem info9 : (Try.prog.info? 9).map (fun i => (i.zero, i.size, i.bytes)) = some (some (.string ⟨#[]⟩), 1, 16) := by kernel_rfl
-- the values' own types

end Go.Proofs.Ythgemejhciojbaa.Q
