-- Made by hprint.py (wip/) out of the translation; not trusted: Lean checks it.
import Derived.Test.YtnpaaaponjcmkaaProg
import Derived.Below
import Derived.Deep.Draws
import Derived.Deep.AppendLies
import Derived.Maps.AppendAt
import Derived.OwnWalk
import Derived.Laws.BytesArg
import Derived.Laws.MakeOwn
import Derived.Laws.OwnMore
import Derived.Deep.OwnRows
import Derived.Tactics
import Derived.Lib.ConvBytes
import Derived.Laws.Slices
import Derived.WalkKit
import Derived.KernelRfl
import Derived.RowKit3
import Derived.Deep.LoopGhost
import Derived.Deep.QuietTactic
import Derived.BigQuiet
import Derived.WideLaws
import Derived.Deep.DeepCutAuto
import Derived.Deep.CutBlock
import Derived.Deep.RegionHeld3
import Derived.Laws.Rows
import Derived.Lib.AppendStr
import Derived.ArgAppend
import Derived.Laws.IdiomCopy
import Derived.OrdersHeld
import Derived.Laws.BitsLemmas
import Derived.RowKit
import Derived.WalkSpells
import Derived.Lib.SliceRun
import Derived.Test.YtnpaaaponjcmkaaHClo
import Derived.Test.YtnpaaaponjcmkaaHPrt
import Derived.Test.YtnpaaaponjcmkaaWWords
import Derived.Test.YtnpaaaponjcmkaaWLast
import Derived.Test.YtnpaaaponjcmkaaWTab
import Derived.Test.YtnpaaaponjcmkaaWFour
import Derived.Test.YtnpaaaponjcmkaaWQPut
import Derived.Test.YtnpaaaponjcmkaaWApart
import Derived.Test.YtnpaaaponjcmkaaWArr
import Derived.Test.YtnpaaaponjcmkaaWZeros
import Derived.Test.YtnpaaaponjcmkaaWFoot
import Derived.Test.YtnpaaaponjcmkaaWKept
import Derived.Test.YtnpaaaponjcmkaaWShare
import Derived.Test.YtnpaaaponjcmkaaWN
import Derived.Test.YtnpaaaponjcmkaaWFootNe
import Derived.Test.YtnpaaaponjcmkaaWAt
import Derived.Test.YtnpaaaponjcmkaaWEqStruct
import Derived.Test.YtnpaaaponjcmkaaWRepsOne
import Derived.Test.YtnpaaaponjcmkaaWInv
import Derived.Test.YtnpaaaponjcmkaaWInvWords
import Derived.Test.YtnpaaaponjcmkaaWGuard
import Derived.Test.YtnpaaaponjcmkaaWNEv
import Derived.Test.YtnpaaaponjcmkaaWMore
namespace Go.Proofs.Ytnpaaaponjcmkaa.PFnExactPartWays
open Go.RowKit Go.Proofs.YtnpaaaponjcmkaaW.PrintWords Go.Proofs.YtnpaaaponjcmkaaW.PrintLast Go.Proofs.YtnpaaaponjcmkaaW.PrintMore
attribute [local go_sem] max2_int min2_int max_two min_two max_three min_three max_four min_four   -- for this text's walks alone
set_option linter.unusedVariables false
set_option linter.unusedSimpArgs false



def errW : Option Int → Value
  | none => .nilIface
  | some c => .iface 0 (.int .i64 c)
theorem errW_none : errW none = .nilIface := rfl
theorem errW_some (c : Int) : errW (some c) = .iface 0 (.int .i64 c) := rfl

theorem info3 : (Try.prog.info? 3).map (fun i => (i.zero, i.size, i.bytes)) = some (some (.int .i64 0), 1, 8) := by kernel_rfl
-- the values' own types

end Go.Proofs.Ytnpaaaponjcmkaa.PFnExactPartWays
