/- The walks of the seat's functions, one contract a function: printed by a program of this session's (wip/gen). Not trusted: Lean checks it. -/
import Derived.Test.YtalabkaalbllgaaGreatDoorProg
import Derived.Below
import Derived.Deep.Draws
import Derived.Deep.AppendLies
import Derived.Maps.AppendAt
import Derived.OwnWalk
import Derived.Laws.BytesArg
import Derived.Laws.MakeOwn
import Derived.Laws.OwnMore
import Derived.Deep.OwnRows
import Derived.Tactics
import Derived.Lib.ConvBytes
import Derived.Laws.Slices
import Derived.WalkKit
import Derived.KernelRfl
import Derived.RowKit3
import Derived.Deep.LoopGhost
import Derived.Deep.QuietTactic
import Derived.BigQuiet
import Derived.WideLaws
import Derived.Deep.DeepCutAuto
import Derived.Deep.CutBlock
import Derived.Deep.RegionHeld3
import Derived.Laws.Rows
import Derived.Lib.AppendStr
import Derived.ArgAppend
import Derived.Laws.IdiomCopy
import Derived.OrdersHeld
import Derived.Laws.BitsLemmas
import Derived.RowKit
import Derived.Test.YtalabkaalbllgaaGreatDoorShowLib0
import Derived.Test.YtalabkaalbllgaaGreatDoorWWords
import Derived.Test.YtalabkaalbllgaaGreatDoorWLast
import Derived.Test.YtalabkaalbllgaaGreatDoorWTab
import Derived.Test.YtalabkaalbllgaaGreatDoorWFour
import Derived.Test.YtalabkaalbllgaaGreatDoorWQPut
import Derived.Test.YtalabkaalbllgaaGreatDoorWApart
import Derived.Test.YtalabkaalbllgaaGreatDoorWArr
import Derived.Test.YtalabkaalbllgaaGreatDoorWZeros
import Derived.Test.YtalabkaalbllgaaGreatDoorWFoot
import Derived.Test.YtalabkaalbllgaaGreatDoorWKept
import Derived.Test.YtalabkaalbllgaaGreatDoorWShare
import Derived.Test.YtalabkaalbllgaaGreatDoorWN
import Derived.Test.YtalabkaalbllgaaGreatDoorWFootNe
import Derived.Test.YtalabkaalbllgaaGreatDoorWAt
import Derived.Test.YtalabkaalbllgaaGreatDoorWEqStruct
import Derived.Test.YtalabkaalbllgaaGreatDoorWRepsOne
import Derived.Test.YtalabkaalbllgaaGreatDoorWInv
import Derived.Test.YtalabkaalbllgaaGreatDoorWInvWords
import Derived.Test.YtalabkaalbllgaaGreatDoorWGuard
import Derived.Test.YtalabkaalbllgaaGreatDoorWNEv
import Derived.Test.YtalabkaalbllgaaGreatDoorWMore
namespace Go.Proofs.YtalabkaalbllgaaGreatDoor.G
open Go.RowKit Go.Proofs.YtalabkaalbllgaaGreatDoorW.PrintWords Go.Proofs.YtalabkaalbllgaaGreatDoorW.PrintLast Go.Proofs.YtalabkaalbllgaaGreatDoorW.PrintMore
attribute [local go_sem] max2_int min2_int max_two min_two max_three min_three max_four min_four   -- for this text's walks alone
set_option linter.unusedVariables false
set_option linter.unusedSimpArgs false



def errW : Option Int → Value
  | none => .nilIface
  | some c => .iface 0 (.int .i64 c)
theorem errW_none : errW none = .nilIface := rfl
theorem errW_some (c : Int) : errW (some c) = .iface 0 (.int .i64 c) := rfl

theorem info9 : (Tryz.prog.info? 9).map (fun i => (i.zero, i.size, i.bytes)) = some (some (.string ⟨#[]⟩), 1, 16) := by kernel_rfl
-- the values' own types

end Go.Proofs.YtalabkaalbllgaaGreatDoor.G
