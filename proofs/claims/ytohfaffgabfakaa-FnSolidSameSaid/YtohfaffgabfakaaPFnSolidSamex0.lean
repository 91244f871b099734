-- Made by hprint.py (wip/) out of the translation; not trusted: Lean checks it.
import Derived.Test.YtohfaffgabfakaaProg
import Derived.Below
import Derived.Deep.Draws
import Derived.Deep.AppendLies
import Derived.Maps.AppendAt
import Derived.OwnWalk
import Derived.Laws.BytesArg
import Derived.Laws.MakeOwn
import Derived.Laws.OwnMore
import Derived.Deep.OwnRows
import Derived.Tactics
import Derived.Lib.ConvBytes
import Derived.Laws.Slices
import Derived.WalkKit
import Derived.KernelRfl
import Derived.RowKit3
import Derived.Deep.LoopGhost
import Derived.Deep.QuietTactic
import Derived.BigQuiet
import Derived.WideLaws
import Derived.Deep.DeepCutAuto
import Derived.Deep.CutBlock
import Derived.Deep.RegionHeld3
import Derived.Laws.Rows
import Derived.Lib.AppendStr
import Derived.ArgAppend
import Derived.Laws.IdiomCopy
import Derived.OrdersHeld
import Derived.Laws.BitsLemmas
import Derived.RowKit
import Derived.WalkSpells
import Derived.Lib.SliceRun
import Derived.Test.YtohfaffgabfakaaWWords
import Derived.Test.YtohfaffgabfakaaWLast
import Derived.Test.YtohfaffgabfakaaWTab
import Derived.Test.YtohfaffgabfakaaWFour
import Derived.Test.YtohfaffgabfakaaWQPut
import Derived.Test.YtohfaffgabfakaaWApart
import Derived.Test.YtohfaffgabfakaaWArr
import Derived.Test.YtohfaffgabfakaaWZeros
import Derived.Test.YtohfaffgabfakaaWFoot
import Derived.Test.YtohfaffgabfakaaWKept
import Derived.Test.YtohfaffgabfakaaWShare
import Derived.Test.YtohfaffgabfakaaWN
import Derived.Test.YtohfaffgabfakaaWFootNe
import Derived.Test.YtohfaffgabfakaaWAt
import Derived.Test.YtohfaffgabfakaaWEqStruct
import Derived.Test.YtohfaffgabfakaaWRepsOne
import Derived.Test.YtohfaffgabfakaaWInv
import Derived.Test.YtohfaffgabfakaaWInvWords
import Derived.Test.YtohfaffgabfakaaWGuard
import Derived.Test.YtohfaffgabfakaaWNEv
import Derived.Test.YtohfaffgabfakaaWMore
namespace Go.Proofs.Ytohfaffgabfakaa.PFnSolidSame
open Go.RowKit Go.Proofs.YtohfaffgabfakaaW.PrintWords Go.Proofs.YtohfaffgabfakaaW.PrintLast Go.Proofs.YtohfaffgabfakaaW.PrintMore
attribute [local go_sem] max2_int min2_int max_two min_two max_three min_three max_four min_four   -- for this text's walks alone
set_option linter.unusedVariables false
set_option linter.unusedSimpArgs false



def errW : Option Int → Value
  | none => .nilIface
  | some c => .iface 0 (.int .i64 c)
theorem errW_none : errW none = .nilIface := rfl
theorem errW_some (c : Int) : errW (some c) = .iface 0 (.int .i64 c) := rfl

theorem info3 : (Try.prog.info? 3).map (fun i => (i.zero, i.size, i.bytes)) = some (some (.int .i64 0), 1, 8) := by kernel_rfl
theorem info5 : (Try.prog.info? 5).map (fun i => (i.zero, i.size, i.bytes)) = some (some (.int .u8 0), 1, 1) := by kernel_rfl
-- the values' own types

end Go.Proofs.Ytohfaffgabfakaa.PFnSolidSame
