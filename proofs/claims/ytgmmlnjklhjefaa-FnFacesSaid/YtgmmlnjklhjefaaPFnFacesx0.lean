-- Made by hprint.py (wip/) out of the translation; not trusted: Lean checks it.
import Derived.Test.YtgmmlnjklhjefaaProg
import Derived.Below
import Derived.Deep.Draws
import Derived.Deep.AppendLies
import Derived.Maps.AppendAt
import Derived.OwnWalk
import Derived.Laws.BytesArg
import Derived.Laws.MakeOwn
import Derived.Laws.OwnMore
import Derived.Deep.OwnRows
import Derived.Tactics
import Derived.Lib.ConvBytes
import Derived.Laws.Slices
import Derived.WalkKit
import Derived.KernelRfl
import Derived.RowKit3
import Derived.Deep.LoopGhost
import Derived.Deep.QuietTactic
import Derived.BigQuiet
import Derived.WideLaws
import Derived.Deep.DeepCutAuto
import Derived.Deep.CutBlock
import Derived.Deep.RegionHeld3
import Derived.Laws.Rows
import Derived.Lib.AppendStr
import Derived.ArgAppend
import Derived.Laws.IdiomCopy
import Derived.OrdersHeld
import Derived.Laws.BitsLemmas
import Derived.RowKit
import Derived.WalkSpells
import Derived.Lib.SliceRun
import Derived.Test.YtgmmlnjklhjefaaWWords
import Derived.Test.YtgmmlnjklhjefaaWLast
import Derived.Test.YtgmmlnjklhjefaaWTab
import Derived.Test.YtgmmlnjklhjefaaWFour
import Derived.Test.YtgmmlnjklhjefaaWQPut
import Derived.Test.YtgmmlnjklhjefaaWApart
import Derived.Test.YtgmmlnjklhjefaaWArr
import Derived.Test.YtgmmlnjklhjefaaWZeros
import Derived.Test.YtgmmlnjklhjefaaWFoot
import Derived.Test.YtgmmlnjklhjefaaWKept
import Derived.Test.YtgmmlnjklhjefaaWShare
import Derived.Test.YtgmmlnjklhjefaaWN
import Derived.Test.YtgmmlnjklhjefaaWFootNe
import Derived.Test.YtgmmlnjklhjefaaWAt
import Derived.Test.YtgmmlnjklhjefaaWEqStruct
import Derived.Test.YtgmmlnjklhjefaaWRepsOne
import Derived.Test.YtgmmlnjklhjefaaWInv
import Derived.Test.YtgmmlnjklhjefaaWInvWords
import Derived.Test.YtgmmlnjklhjefaaWGuard
import Derived.Test.YtgmmlnjklhjefaaWNEv
import Derived.Test.YtgmmlnjklhjefaaWMore
namespace Go.Proofs.Ytgmmlnjklhjefaa.PFnFaces
open Go.RowKit Go.Proofs.YtgmmlnjklhjefaaW.PrintWords Go.Proofs.YtgmmlnjklhjefaaW.PrintLast Go.Proofs.YtgmmlnjklhjefaaW.PrintMore
attribute [local go_sem] max2_int min2_int max_two min_two max_three min_three max_four min_four   -- for this text's walks alone
set_option linter.unusedVariables false
set_option linter.unusedSimpArgs false



def errW : Option Int → Value
  | none => .nilIface
  | some c => .iface 0 (.int .i64 c)
theorem errW_none : errW none = .nilIface := rfl
theorem errW_some (c : Int) : errW (some c) = .iface 0 (.int .i64 c) := rfl

theorem info3 : (Try.prog.info? 3).map (fun i => (i.zero, i.size, i.bytes)) = some (some (.int .i64 0), 1, 8) := by kernel_rfl
theorem info5 : (Try.prog.info? 5).map (fun i => (i.zero, i.size, i.bytes)) = some (some (.int .u8 0), 1, 1) := by kernel_rfl
-- the values' own types

end Go.Proofs.Ytgmmlnjklhjefaa.PFnFaces
