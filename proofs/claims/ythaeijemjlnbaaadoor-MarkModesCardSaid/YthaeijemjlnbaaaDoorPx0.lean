/- The walks of the seat's functions, one contract a function: printed by a program of this session's (wip/gen). Not trusted: Lean checks it. -/
import Derived.Test.YthaeijemjlnbaaaDoorProg
import Derived.Below
import Derived.Deep.Draws
import Derived.Deep.AppendLies
import Derived.Maps.AppendAt
import Derived.OwnWalk
import Derived.Laws.BytesArg
import Derived.Laws.MakeOwn
import Derived.Laws.OwnMore
import Derived.Deep.OwnRows
import Derived.Tactics
import Derived.Lib.ConvBytes
import Derived.Laws.Slices
import Derived.WalkKit
import Derived.KernelRfl
import Derived.RowKit3
import Derived.Deep.LoopGhost
import Derived.Deep.QuietTactic
import Derived.BigQuiet
import Derived.WideLaws
import Derived.Deep.DeepCutAuto
import Derived.Deep.CutBlock
import Derived.Deep.RegionHeld3
import Derived.Laws.Rows
import Derived.Lib.AppendStr
import Derived.ArgAppend
import Derived.Laws.IdiomCopy
import Derived.OrdersHeld
import Derived.Laws.BitsLemmas
import Derived.RowKit
import Derived.Test.YthaeijemjlnbaaaDoorMarkLib
import Derived.Test.YthaeijemjlnbaaaDoorWWords
import Derived.Test.YthaeijemjlnbaaaDoorWLast
import Derived.Test.YthaeijemjlnbaaaDoorWTab
import Derived.Test.YthaeijemjlnbaaaDoorWFour
import Derived.Test.YthaeijemjlnbaaaDoorWQPut
import Derived.Test.YthaeijemjlnbaaaDoorWApart
import Derived.Test.YthaeijemjlnbaaaDoorWArr
import Derived.Test.YthaeijemjlnbaaaDoorWZeros
import Derived.Test.YthaeijemjlnbaaaDoorWFoot
import Derived.Test.YthaeijemjlnbaaaDoorWKept
import Derived.Test.YthaeijemjlnbaaaDoorWShare
import Derived.Test.YthaeijemjlnbaaaDoorWN
import Derived.Test.YthaeijemjlnbaaaDoorWFootNe
import Derived.Test.YthaeijemjlnbaaaDoorWAt
import Derived.Test.YthaeijemjlnbaaaDoorWEqStruct
import Derived.Test.YthaeijemjlnbaaaDoorWRepsOne
import Derived.Test.YthaeijemjlnbaaaDoorWInv
import Derived.Test.YthaeijemjlnbaaaDoorWInvWords
import Derived.Test.YthaeijemjlnbaaaDoorWGuard
import Derived.Test.YthaeijemjlnbaaaDoorWNEv
import Derived.Test.YthaeijemjlnbaaaDoorWMore
namespace Go.Proofs.YthaeijemjlnbaaaDoor.P
open Go.RowKit Go.Proofs.YthaeijemjlnbaaaDoorW.PrintWords Go.Proofs.YthaeijemjlnbaaaDoorW.PrintLast Go.Proofs.YthaeijemjlnbaaaDoorW.PrintMore
attribute [local go_sem] max2_int min2_int max_two min_two max_three min_three max_four min_four   -- for this text's walks alone
set_option linter.unusedVariables false
set_option linter.unusedSimpArgs false



def errW : Option Int → Value
  | none => .nilIface
  | some c => .iface 0 (.int .i64 c)
theorem errW_none : errW none = .nilIface := rfl
theorem errW_some (c : Int) : errW (some c) = .iface 0 (.int .i64 c) := rfl

theorem info9 : (Tryd.prog.info? 9).map (fun i => (i.zero, i.size, i.bytes)) = some (some (.string ⟨#[]⟩), 1, 16) := by kernel_rfl
-- the values' own types

end Go.Proofs.YthaeijemjlnbaaaDoor.P
