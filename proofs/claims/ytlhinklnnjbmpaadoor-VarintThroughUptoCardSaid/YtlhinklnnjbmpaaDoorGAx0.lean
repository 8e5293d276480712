-- Written by gprint.py, a program of this session (over the kit's print); Lean checks it.
import Derived.Test.YtlhinklnnjbmpaaDoorProg
import Derived.Below
import Derived.Deep.Draws
import Derived.Deep.AppendLies
import Derived.Maps.AppendAt
import Derived.OwnWalk
import Derived.Laws.BytesArg
import Derived.Laws.MakeOwn
import Derived.Laws.OwnMore
import Derived.Deep.OwnRows
import Derived.Tactics
import Derived.Lib.ConvBytes
import Derived.Laws.Slices
import Derived.WalkKit
import Derived.KernelRfl
import Derived.RowKit3
import Derived.Deep.LoopGhost
import Derived.Deep.QuietTactic
import Derived.BigQuiet
import Derived.WideLaws
import Derived.Deep.DeepCutAuto
import Derived.Deep.CutBlock
import Derived.Deep.RegionHeld3
import Derived.Laws.Rows
import Derived.Lib.AppendStr
import Derived.ArgAppend
import Derived.Laws.IdiomCopy
import Derived.OrdersHeld
import Derived.Laws.BitsLemmas
import Derived.RowKit
import Derived.Test.YtlhinklnnjbmpaaDoorWWords
import Derived.Test.YtlhinklnnjbmpaaDoorWLast
import Derived.Test.YtlhinklnnjbmpaaDoorWTab
import Derived.Test.YtlhinklnnjbmpaaDoorWFour
import Derived.Test.YtlhinklnnjbmpaaDoorWQPut
import Derived.Test.YtlhinklnnjbmpaaDoorWApart
import Derived.Test.YtlhinklnnjbmpaaDoorWArr
import Derived.Test.YtlhinklnnjbmpaaDoorWZeros
import Derived.Test.YtlhinklnnjbmpaaDoorWFoot
import Derived.Test.YtlhinklnnjbmpaaDoorWKept
import Derived.Test.YtlhinklnnjbmpaaDoorWShare
import Derived.Test.YtlhinklnnjbmpaaDoorWN
import Derived.Test.YtlhinklnnjbmpaaDoorWFootNe
import Derived.Test.YtlhinklnnjbmpaaDoorWAt
import Derived.Test.YtlhinklnnjbmpaaDoorWEqStruct
import Derived.Test.YtlhinklnnjbmpaaDoorWRepsOne
import Derived.Test.YtlhinklnnjbmpaaDoorWInv
import Derived.Test.YtlhinklnnjbmpaaDoorWInvWords
import Derived.Test.YtlhinklnnjbmpaaDoorWGuard
import Derived.Test.YtlhinklnnjbmpaaDoorWNEv
import Derived.Test.YtlhinklnnjbmpaaDoorWMore
namespace Go.Proofs.YtlhinklnnjbmpaaDoor.GA
open Go.RowKit Go.Proofs.YtlhinklnnjbmpaaDoorW.PrintWords Go.Proofs.YtlhinklnnjbmpaaDoorW.PrintLast Go.Proofs.YtlhinklnnjbmpaaDoorW.PrintMore
attribute [local go_sem] max2_int min2_int max_two min_two max_three min_three max_four min_four   -- for this text's walks alone
set_option linter.unusedVariables false
set_option linter.unusedSimpArgs false



def errW : Option Int → Value
  | none => .nilIface
  | some c => .iface 0 (.int .i64 c)
theorem errW_none : errW none = .nilIface := rfl
theorem errW_some (c : Int) : errW (some c) = .iface 0 (.int .i64 c) := rfl

theorem info5 : (Tryd.prog.info? 5).map (fun i => (i.zero, i.size, i.bytes)) = some (some (.int .u8 0), 1, 1) := by kernel_rfl
-- the values' own types

end Go.Proofs.YtlhinklnnjbmpaaDoor.GA
