-- Made by hprint.py (wip/) out of the translation; not trusted: Lean checks it.
import Derived.Test.YtbjmgcdhfoelkaaProg
import Derived.Below
import Derived.Deep.Draws
import Derived.Deep.AppendLies
import Derived.Maps.AppendAt
import Derived.OwnWalk
import Derived.Laws.BytesArg
import Derived.Laws.MakeOwn
import Derived.Laws.OwnMore
import Derived.Deep.OwnRows
import Derived.Tactics
import Derived.Lib.ConvBytes
import Derived.Laws.Slices
import Derived.WalkKit
import Derived.KernelRfl
import Derived.RowKit3
import Derived.Deep.LoopGhost
import Derived.Deep.QuietTactic
import Derived.BigQuiet
import Derived.WideLaws
import Derived.Deep.DeepCutAuto
import Derived.Deep.CutBlock
import Derived.Deep.RegionHeld3
import Derived.Laws.Rows
import Derived.Lib.AppendStr
import Derived.ArgAppend
import Derived.Laws.IdiomCopy
import Derived.OrdersHeld
import Derived.Laws.BitsLemmas
import Derived.RowKit
import Derived.WalkSpells
import Derived.Lib.SliceRun
import Derived.Test.YtbjmgcdhfoelkaaWWords
import Derived.Test.YtbjmgcdhfoelkaaWLast
import Derived.Test.YtbjmgcdhfoelkaaWTab
import Derived.Test.YtbjmgcdhfoelkaaWFour
import Derived.Test.YtbjmgcdhfoelkaaWQPut
import Derived.Test.YtbjmgcdhfoelkaaWApart
import Derived.Test.YtbjmgcdhfoelkaaWArr
import Derived.Test.YtbjmgcdhfoelkaaWZeros
import Derived.Test.YtbjmgcdhfoelkaaWFoot
import Derived.Test.YtbjmgcdhfoelkaaWKept
import Derived.Test.YtbjmgcdhfoelkaaWShare
import Derived.Test.YtbjmgcdhfoelkaaWN
import Derived.Test.YtbjmgcdhfoelkaaWFootNe
import Derived.Test.YtbjmgcdhfoelkaaWAt
import Derived.Test.YtbjmgcdhfoelkaaWEqStruct
import Derived.Test.YtbjmgcdhfoelkaaWRepsOne
import Derived.Test.YtbjmgcdhfoelkaaWInv
import Derived.Test.YtbjmgcdhfoelkaaWInvWords
import Derived.Test.YtbjmgcdhfoelkaaWGuard
import Derived.Test.YtbjmgcdhfoelkaaWNEv
import Derived.Test.YtbjmgcdhfoelkaaWMore
namespace Go.Proofs.Ytbjmgcdhfoelkaa.PFnSolidLeast
open Go.RowKit Go.Proofs.YtbjmgcdhfoelkaaW.PrintWords Go.Proofs.YtbjmgcdhfoelkaaW.PrintLast Go.Proofs.YtbjmgcdhfoelkaaW.PrintMore
attribute [local go_sem] max2_int min2_int max_two min_two max_three min_three max_four min_four   -- for this text's walks alone
set_option linter.unusedVariables false
set_option linter.unusedSimpArgs false



def errW : Option Int → Value
  | none => .nilIface
  | some c => .iface 0 (.int .i64 c)
theorem errW_none : errW none = .nilIface := rfl
theorem errW_some (c : Int) : errW (some c) = .iface 0 (.int .i64 c) := rfl

theorem info3 : (Try.prog.info? 3).map (fun i => (i.zero, i.size, i.bytes)) = some (some (.int .i64 0), 1, 8) := by kernel_rfl
theorem info5 : (Try.prog.info? 5).map (fun i => (i.zero, i.size, i.bytes)) = some (some (.int .u8 0), 1, 1) := by kernel_rfl
-- the values' own types

end Go.Proofs.Ytbjmgcdhfoelkaa.PFnSolidLeast
