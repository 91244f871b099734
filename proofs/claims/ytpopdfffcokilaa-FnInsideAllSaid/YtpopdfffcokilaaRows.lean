/-
  No cell of these rows narrows 'for every input' (looked for: loops, veiled, ifaces, maps, wideKeys, modest, calm, conditions, laid).
  DERIVED. THE GIVEN ROWS OF THIS SEAT. 12 by the template 'for every input the law returns true; each argument reads behind the call as it read before'; 0 by the template 'total and deterministic' (their statements: YtpopdfffcokilaaTotals.lean).
  GIVEN WITH THE SEED: the statements are not yours to turn. If you find one false, say at which input.
  Laid BY PROGRAM, IN A SANDBOX (cutbox-rows.mjs): the forced cells as the released guide's own fill.sh prints them over the translation b4fbef32a1e7ac2b… (all of the seat's roots in one cut). By AI agents, Wed Nov 11 2026. No macro, syntax, notation, axiom, sorry.
-/
import Derived.Test.YtpopdfffcokilaaChecked
import GoSem.Claim
import GoSem.ClaimJoined
import GoSem.ClaimMapViews
import Derived.JoinedTies
import Derived.KernelRfl
namespace Go.Proofs.Ytpopdfffcokilaa
/- THE CELL 'sum', in the pinned program and in every row, IS THE sha256 OF THE DUMP (.gsa) THAT YtpopdfffcokilaaProg.lean LOADS. Nothing in Lean hashes anything: it is a label: what it is worth is what the hold of that sum in a sandbox is worth. -/
noncomputable def Try.pinned : Pinned := { name := "ytpopdfffcokilaa", sum := "b4fbef32a1e7ac2b142c60d7121cf8cf2d12130040c5e82afefc18c697baad23", checked := Try.checked }
namespace Rows
def none {H : Type} : Left H := { results := [], args := [] }

/-- 'laws.FnCorners': WHATEVER THE INPUT: true; the input reads as it did. -/
def fnCornersSpec : ChangeSpec := { name := "fnCorners", fn := fun _ => fun
  | [d] => { results := [.lit (.bool true)], args := [d] }
  | _ => none }
def fnCornersRow : OpenClaim := { program := "ytpopdfffcokilaa", sum := "b4fbef32a1e7ac2b142c60d7121cf8cf2d12130040c5e82afefc18c697baad23", func := "loop.example/closingsticks/laws.FnCorners", spec := "fnCorners", apart := false }
def FnCornersSaid : Prop := fnCornersRow.holds Try.pinned (OpenSpec.ofChange fnCornersSpec)

/-- ITS FALSE NEIGHBOUR: 'it returns false'. Refute it at one input. -/
def fnCornersWrong : ChangeSpec := { name := "fnCorners", fn := fun _ => fun
  | [d] => { results := [.lit (.bool false)], args := [d] }
  | _ => none }
def FnCornersWrongFalsely : Prop := fnCornersRow.holds Try.pinned (OpenSpec.ofChange fnCornersWrong)

/-- 'laws.FnRim': WHATEVER THE INPUT: true; the input reads as it did. -/
def fnRimSpec : ChangeSpec := { name := "fnRim", fn := fun _ => fun
  | [d] => { results := [.lit (.bool true)], args := [d] }
  | _ => none }
def fnRimRow : OpenClaim := { program := "ytpopdfffcokilaa", sum := "b4fbef32a1e7ac2b142c60d7121cf8cf2d12130040c5e82afefc18c697baad23", func := "loop.example/closingsticks/laws.FnRim", spec := "fnRim", apart := false }
def FnRimSaid : Prop := fnRimRow.holds Try.pinned (OpenSpec.ofChange fnRimSpec)

/-- ITS FALSE NEIGHBOUR: 'it returns false'. Refute it at one input. -/
def fnRimWrong : ChangeSpec := { name := "fnRim", fn := fun _ => fun
  | [d] => { results := [.lit (.bool false)], args := [d] }
  | _ => none }
def FnRimWrongFalsely : Prop := fnRimRow.holds Try.pinned (OpenSpec.ofChange fnRimWrong)

/-- 'laws.FnPathBack': WHATEVER THE INPUT: true; the input reads as it did. -/
def fnPathBackSpec : ChangeSpec := { name := "fnPathBack", fn := fun _ => fun
  | [d] => { results := [.lit (.bool true)], args := [d] }
  | _ => none }
def fnPathBackRow : OpenClaim := { program := "ytpopdfffcokilaa", sum := "b4fbef32a1e7ac2b142c60d7121cf8cf2d12130040c5e82afefc18c697baad23", func := "loop.example/closingsticks/laws.FnPathBack", spec := "fnPathBack", apart := false }
def FnPathBackSaid : Prop := fnPathBackRow.holds Try.pinned (OpenSpec.ofChange fnPathBackSpec)

/-- ITS FALSE NEIGHBOUR: 'it returns false'. Refute it at one input. -/
def fnPathBackWrong : ChangeSpec := { name := "fnPathBack", fn := fun _ => fun
  | [d] => { results := [.lit (.bool false)], args := [d] }
  | _ => none }
def FnPathBackWrongFalsely : Prop := fnPathBackRow.holds Try.pinned (OpenSpec.ofChange fnPathBackWrong)

/-- 'laws.FnPathTurn': WHATEVER THE INPUT: true; the input reads as it did. -/
def fnPathTurnSpec : ChangeSpec := { name := "fnPathTurn", fn := fun _ => fun
  | [d] => { results := [.lit (.bool true)], args := [d] }
  | _ => none }
def fnPathTurnRow : OpenClaim := { program := "ytpopdfffcokilaa", sum := "b4fbef32a1e7ac2b142c60d7121cf8cf2d12130040c5e82afefc18c697baad23", func := "loop.example/closingsticks/laws.FnPathTurn", spec := "fnPathTurn", apart := false }
def FnPathTurnSaid : Prop := fnPathTurnRow.holds Try.pinned (OpenSpec.ofChange fnPathTurnSpec)

/-- ITS FALSE NEIGHBOUR: 'it returns false'. Refute it at one input. -/
def fnPathTurnWrong : ChangeSpec := { name := "fnPathTurn", fn := fun _ => fun
  | [d] => { results := [.lit (.bool false)], args := [d] }
  | _ => none }
def FnPathTurnWrongFalsely : Prop := fnPathTurnRow.holds Try.pinned (OpenSpec.ofChange fnPathTurnWrong)

/-- 'laws.FnArea': WHATEVER THE INPUT: true; the input reads as it did. -/
def fnAreaSpec : ChangeSpec := { name := "fnArea", fn := fun _ => fun
  | [d] => { results := [.lit (.bool true)], args := [d] }
  | _ => none }
def fnAreaRow : OpenClaim := { program := "ytpopdfffcokilaa", sum := "b4fbef32a1e7ac2b142c60d7121cf8cf2d12130040c5e82afefc18c697baad23", func := "loop.example/closingsticks/laws.FnArea", spec := "fnArea", apart := false }
def FnAreaSaid : Prop := fnAreaRow.holds Try.pinned (OpenSpec.ofChange fnAreaSpec)

/-- ITS FALSE NEIGHBOUR: 'it returns false'. Refute it at one input. -/
def fnAreaWrong : ChangeSpec := { name := "fnArea", fn := fun _ => fun
  | [d] => { results := [.lit (.bool false)], args := [d] }
  | _ => none }
def FnAreaWrongFalsely : Prop := fnAreaRow.holds Try.pinned (OpenSpec.ofChange fnAreaWrong)

/-- 'laws.FnConvex': WHATEVER THE INPUT: true; the input reads as it did. -/
def fnConvexSpec : ChangeSpec := { name := "fnConvex", fn := fun _ => fun
  | [d] => { results := [.lit (.bool true)], args := [d] }
  | _ => none }
def fnConvexRow : OpenClaim := { program := "ytpopdfffcokilaa", sum := "b4fbef32a1e7ac2b142c60d7121cf8cf2d12130040c5e82afefc18c697baad23", func := "loop.example/closingsticks/laws.FnConvex", spec := "fnConvex", apart := false }
def FnConvexSaid : Prop := fnConvexRow.holds Try.pinned (OpenSpec.ofChange fnConvexSpec)

/-- ITS FALSE NEIGHBOUR: 'it returns false'. Refute it at one input. -/
def fnConvexWrong : ChangeSpec := { name := "fnConvex", fn := fun _ => fun
  | [d] => { results := [.lit (.bool false)], args := [d] }
  | _ => none }
def FnConvexWrongFalsely : Prop := fnConvexRow.holds Try.pinned (OpenSpec.ofChange fnConvexWrong)

/-- 'laws.FnBegin': WHATEVER THE INPUT: true; the input reads as it did. -/
def fnBeginSpec : ChangeSpec := { name := "fnBegin", fn := fun _ => fun
  | [d] => { results := [.lit (.bool true)], args := [d] }
  | _ => none }
def fnBeginRow : OpenClaim := { program := "ytpopdfffcokilaa", sum := "b4fbef32a1e7ac2b142c60d7121cf8cf2d12130040c5e82afefc18c697baad23", func := "loop.example/closingsticks/laws.FnBegin", spec := "fnBegin", apart := false }
def FnBeginSaid : Prop := fnBeginRow.holds Try.pinned (OpenSpec.ofChange fnBeginSpec)

/-- ITS FALSE NEIGHBOUR: 'it returns false'. Refute it at one input. -/
def fnBeginWrong : ChangeSpec := { name := "fnBegin", fn := fun _ => fun
  | [d] => { results := [.lit (.bool false)], args := [d] }
  | _ => none }
def FnBeginWrongFalsely : Prop := fnBeginRow.holds Try.pinned (OpenSpec.ofChange fnBeginWrong)

/-- 'laws.FnBox': WHATEVER THE INPUT: true; the input reads as it did. -/
def fnBoxSpec : ChangeSpec := { name := "fnBox", fn := fun _ => fun
  | [d] => { results := [.lit (.bool true)], args := [d] }
  | _ => none }
def fnBoxRow : OpenClaim := { program := "ytpopdfffcokilaa", sum := "b4fbef32a1e7ac2b142c60d7121cf8cf2d12130040c5e82afefc18c697baad23", func := "loop.example/closingsticks/laws.FnBox", spec := "fnBox", apart := false }
def FnBoxSaid : Prop := fnBoxRow.holds Try.pinned (OpenSpec.ofChange fnBoxSpec)

/-- ITS FALSE NEIGHBOUR: 'it returns false'. Refute it at one input. -/
def fnBoxWrong : ChangeSpec := { name := "fnBox", fn := fun _ => fun
  | [d] => { results := [.lit (.bool false)], args := [d] }
  | _ => none }
def FnBoxWrongFalsely : Prop := fnBoxRow.holds Try.pinned (OpenSpec.ofChange fnBoxWrong)

/-- 'laws.FnExactPathInside': WHATEVER THE INPUT: true; the input reads as it did. -/
def fnExactPathInsideSpec : ChangeSpec := { name := "fnExactPathInside", fn := fun _ => fun
  | [d] => { results := [.lit (.bool true)], args := [d] }
  | _ => none }
def fnExactPathInsideRow : OpenClaim := { program := "ytpopdfffcokilaa", sum := "b4fbef32a1e7ac2b142c60d7121cf8cf2d12130040c5e82afefc18c697baad23", func := "loop.example/closingsticks/laws.FnExactPathInside", spec := "fnExactPathInside", apart := false }
def FnExactPathInsideSaid : Prop := fnExactPathInsideRow.holds Try.pinned (OpenSpec.ofChange fnExactPathInsideSpec)

/-- ITS FALSE NEIGHBOUR: 'it returns false'. Refute it at one input. -/
def fnExactPathInsideWrong : ChangeSpec := { name := "fnExactPathInside", fn := fun _ => fun
  | [d] => { results := [.lit (.bool false)], args := [d] }
  | _ => none }
def FnExactPathInsideWrongFalsely : Prop := fnExactPathInsideRow.holds Try.pinned (OpenSpec.ofChange fnExactPathInsideWrong)

/-- 'laws.FnExactPathInsideAll': WHATEVER THE INPUT: true; the input reads as it did. -/
def fnExactPathInsideAllSpec : ChangeSpec := { name := "fnExactPathInsideAll", fn := fun _ => fun
  | [d] => { results := [.lit (.bool true)], args := [d] }
  | _ => none }
def fnExactPathInsideAllRow : OpenClaim := { program := "ytpopdfffcokilaa", sum := "b4fbef32a1e7ac2b142c60d7121cf8cf2d12130040c5e82afefc18c697baad23", func := "loop.example/closingsticks/laws.FnExactPathInsideAll", spec := "fnExactPathInsideAll", apart := false }
def FnExactPathInsideAllSaid : Prop := fnExactPathInsideAllRow.holds Try.pinned (OpenSpec.ofChange fnExactPathInsideAllSpec)

/-- ITS FALSE NEIGHBOUR: 'it returns false'. Refute it at one input. -/
def fnExactPathInsideAllWrong : ChangeSpec := { name := "fnExactPathInsideAll", fn := fun _ => fun
  | [d] => { results := [.lit (.bool false)], args := [d] }
  | _ => none }
def FnExactPathInsideAllWrongFalsely : Prop := fnExactPathInsideAllRow.holds Try.pinned (OpenSpec.ofChange fnExactPathInsideAllWrong)

/-- 'laws.FnInsideAll': WHATEVER THE INPUT: true; the input reads as it did. -/
def fnInsideAllSpec : ChangeSpec := { name := "fnInsideAll", fn := fun _ => fun
  | [d] => { results := [.lit (.bool true)], args := [d] }
  | _ => none }
def fnInsideAllRow : OpenClaim := { program := "ytpopdfffcokilaa", sum := "b4fbef32a1e7ac2b142c60d7121cf8cf2d12130040c5e82afefc18c697baad23", func := "loop.example/closingsticks/laws.FnInsideAll", spec := "fnInsideAll", apart := false }
def FnInsideAllSaid : Prop := fnInsideAllRow.holds Try.pinned (OpenSpec.ofChange fnInsideAllSpec)

/-- ITS FALSE NEIGHBOUR: 'it returns false'. Refute it at one input. -/
def fnInsideAllWrong : ChangeSpec := { name := "fnInsideAll", fn := fun _ => fun
  | [d] => { results := [.lit (.bool false)], args := [d] }
  | _ => none }
def FnInsideAllWrongFalsely : Prop := fnInsideAllRow.holds Try.pinned (OpenSpec.ofChange fnInsideAllWrong)

/-- 'laws.FnInside': WHATEVER THE INPUT: true; the input reads as it did. -/
def fnInsideSpec : ChangeSpec := { name := "fnInside", fn := fun _ => fun
  | [d] => { results := [.lit (.bool true)], args := [d] }
  | _ => none }
def fnInsideRow : OpenClaim := { program := "ytpopdfffcokilaa", sum := "b4fbef32a1e7ac2b142c60d7121cf8cf2d12130040c5e82afefc18c697baad23", func := "loop.example/closingsticks/laws.FnInside", spec := "fnInside", apart := false }
def FnInsideSaid : Prop := fnInsideRow.holds Try.pinned (OpenSpec.ofChange fnInsideSpec)

/-- ITS FALSE NEIGHBOUR: 'it returns false'. Refute it at one input. -/
def fnInsideWrong : ChangeSpec := { name := "fnInside", fn := fun _ => fun
  | [d] => { results := [.lit (.bool false)], args := [d] }
  | _ => none }
def FnInsideWrongFalsely : Prop := fnInsideRow.holds Try.pinned (OpenSpec.ofChange fnInsideWrong)

/- THE SECOND FORM. 'bulk': how many values and letters a reading holds, each counted each time it is reached (what is shared counts as often as it is met; a slice's spare places count too). A statement '..UptoSaid' is the law's where the arguments, and the package variables that the reading takes, are together of bulk at most 1048576: NARROWER than '..Said'. Prove '..Said' where nothing that the law and all that it calls make is longer than what came in: it says more and counts as full. Else prove '..UptoSaid'. A law counts once. -/
mutual
def uptoBulk {H : Type} : DataW H → Nat
  | .lit (.string bytes) => bytes.length + 1
  | .lit _ => 1
  | .nil => 1
  | .ptr d => uptoBulk d + 1
  | .slice elems spare => uptoBulkAll elems + uptoBulkAll spare + 1
  | .agg parts => uptoBulkAll parts + 1
  | .iface _ d => uptoBulk d + 1
  | .map entries => uptoBulkEntries entries + 1
  | .held _ => 1
def uptoBulkAll {H : Type} : List (DataW H) → Nat
  | [] => 0
  | d :: r => uptoBulk d + uptoBulkAll r
def uptoBulkEntries {H : Type} : List (Lit × DataW H) → Nat
  | [] => 0
  | x :: r => uptoBulkEntry x + uptoBulkEntries r
def uptoBulkEntry {H : Type} : Lit × DataW H → Nat
  | (.string bytes, d) => bytes.length + uptoBulk d + 1
  | (_, d) => uptoBulk d + 1
 end
def uptoSmall : (H : Type) → List (DataW H) → Bool := fun _ ds => decide (uptoBulkAll ds ≤ 1048576)
def OpenSpec.upto (s : _root_.Go.ChangeSpec) : _root_.Go.OpenSpec := { _root_.Go.OpenSpec.ofChange s with cond := some uptoSmall }

/-- 'laws.FnCorners', WHERE WHAT IT READS IS OF BULK AT MOST 1048576: true; the input reads as it did. -/
def fnCornersUptoRow : OpenClaim := { program := "ytpopdfffcokilaa", sum := "b4fbef32a1e7ac2b142c60d7121cf8cf2d12130040c5e82afefc18c697baad23", func := "loop.example/closingsticks/laws.FnCorners", spec := "fnCorners", apart := false, narrowed := true }
def FnCornersUptoSaid : Prop := fnCornersUptoRow.holds Try.pinned (OpenSpec.upto fnCornersSpec)

/-- 'laws.FnRim', WHERE WHAT IT READS IS OF BULK AT MOST 1048576: true; the input reads as it did. -/
def fnRimUptoRow : OpenClaim := { program := "ytpopdfffcokilaa", sum := "b4fbef32a1e7ac2b142c60d7121cf8cf2d12130040c5e82afefc18c697baad23", func := "loop.example/closingsticks/laws.FnRim", spec := "fnRim", apart := false, narrowed := true }
def FnRimUptoSaid : Prop := fnRimUptoRow.holds Try.pinned (OpenSpec.upto fnRimSpec)

/-- 'laws.FnPathBack', WHERE WHAT IT READS IS OF BULK AT MOST 1048576: true; the input reads as it did. -/
def fnPathBackUptoRow : OpenClaim := { program := "ytpopdfffcokilaa", sum := "b4fbef32a1e7ac2b142c60d7121cf8cf2d12130040c5e82afefc18c697baad23", func := "loop.example/closingsticks/laws.FnPathBack", spec := "fnPathBack", apart := false, narrowed := true }
def FnPathBackUptoSaid : Prop := fnPathBackUptoRow.holds Try.pinned (OpenSpec.upto fnPathBackSpec)

/-- 'laws.FnPathTurn', WHERE WHAT IT READS IS OF BULK AT MOST 1048576: true; the input reads as it did. -/
def fnPathTurnUptoRow : OpenClaim := { program := "ytpopdfffcokilaa", sum := "b4fbef32a1e7ac2b142c60d7121cf8cf2d12130040c5e82afefc18c697baad23", func := "loop.example/closingsticks/laws.FnPathTurn", spec := "fnPathTurn", apart := false, narrowed := true }
def FnPathTurnUptoSaid : Prop := fnPathTurnUptoRow.holds Try.pinned (OpenSpec.upto fnPathTurnSpec)

/-- 'laws.FnArea', WHERE WHAT IT READS IS OF BULK AT MOST 1048576: true; the input reads as it did. -/
def fnAreaUptoRow : OpenClaim := { program := "ytpopdfffcokilaa", sum := "b4fbef32a1e7ac2b142c60d7121cf8cf2d12130040c5e82afefc18c697baad23", func := "loop.example/closingsticks/laws.FnArea", spec := "fnArea", apart := false, narrowed := true }
def FnAreaUptoSaid : Prop := fnAreaUptoRow.holds Try.pinned (OpenSpec.upto fnAreaSpec)

/-- 'laws.FnConvex', WHERE WHAT IT READS IS OF BULK AT MOST 1048576: true; the input reads as it did. -/
def fnConvexUptoRow : OpenClaim := { program := "ytpopdfffcokilaa", sum := "b4fbef32a1e7ac2b142c60d7121cf8cf2d12130040c5e82afefc18c697baad23", func := "loop.example/closingsticks/laws.FnConvex", spec := "fnConvex", apart := false, narrowed := true }
def FnConvexUptoSaid : Prop := fnConvexUptoRow.holds Try.pinned (OpenSpec.upto fnConvexSpec)

/-- 'laws.FnBegin', WHERE WHAT IT READS IS OF BULK AT MOST 1048576: true; the input reads as it did. -/
def fnBeginUptoRow : OpenClaim := { program := "ytpopdfffcokilaa", sum := "b4fbef32a1e7ac2b142c60d7121cf8cf2d12130040c5e82afefc18c697baad23", func := "loop.example/closingsticks/laws.FnBegin", spec := "fnBegin", apart := false, narrowed := true }
def FnBeginUptoSaid : Prop := fnBeginUptoRow.holds Try.pinned (OpenSpec.upto fnBeginSpec)

/-- 'laws.FnBox', WHERE WHAT IT READS IS OF BULK AT MOST 1048576: true; the input reads as it did. -/
def fnBoxUptoRow : OpenClaim := { program := "ytpopdfffcokilaa", sum := "b4fbef32a1e7ac2b142c60d7121cf8cf2d12130040c5e82afefc18c697baad23", func := "loop.example/closingsticks/laws.FnBox", spec := "fnBox", apart := false, narrowed := true }
def FnBoxUptoSaid : Prop := fnBoxUptoRow.holds Try.pinned (OpenSpec.upto fnBoxSpec)

/-- 'laws.FnExactPathInside', WHERE WHAT IT READS IS OF BULK AT MOST 1048576: true; the input reads as it did. -/
def fnExactPathInsideUptoRow : OpenClaim := { program := "ytpopdfffcokilaa", sum := "b4fbef32a1e7ac2b142c60d7121cf8cf2d12130040c5e82afefc18c697baad23", func := "loop.example/closingsticks/laws.FnExactPathInside", spec := "fnExactPathInside", apart := false, narrowed := true }
def FnExactPathInsideUptoSaid : Prop := fnExactPathInsideUptoRow.holds Try.pinned (OpenSpec.upto fnExactPathInsideSpec)

/-- 'laws.FnExactPathInsideAll', WHERE WHAT IT READS IS OF BULK AT MOST 1048576: true; the input reads as it did. -/
def fnExactPathInsideAllUptoRow : OpenClaim := { program := "ytpopdfffcokilaa", sum := "b4fbef32a1e7ac2b142c60d7121cf8cf2d12130040c5e82afefc18c697baad23", func := "loop.example/closingsticks/laws.FnExactPathInsideAll", spec := "fnExactPathInsideAll", apart := false, narrowed := true }
def FnExactPathInsideAllUptoSaid : Prop := fnExactPathInsideAllUptoRow.holds Try.pinned (OpenSpec.upto fnExactPathInsideAllSpec)

/-- 'laws.FnInsideAll', WHERE WHAT IT READS IS OF BULK AT MOST 1048576: true; the input reads as it did. -/
def fnInsideAllUptoRow : OpenClaim := { program := "ytpopdfffcokilaa", sum := "b4fbef32a1e7ac2b142c60d7121cf8cf2d12130040c5e82afefc18c697baad23", func := "loop.example/closingsticks/laws.FnInsideAll", spec := "fnInsideAll", apart := false, narrowed := true }
def FnInsideAllUptoSaid : Prop := fnInsideAllUptoRow.holds Try.pinned (OpenSpec.upto fnInsideAllSpec)

/-- 'laws.FnInside', WHERE WHAT IT READS IS OF BULK AT MOST 1048576: true; the input reads as it did. -/
def fnInsideUptoRow : OpenClaim := { program := "ytpopdfffcokilaa", sum := "b4fbef32a1e7ac2b142c60d7121cf8cf2d12130040c5e82afefc18c697baad23", func := "loop.example/closingsticks/laws.FnInside", spec := "fnInside", apart := false, narrowed := true }
def FnInsideUptoSaid : Prop := fnInsideUptoRow.holds Try.pinned (OpenSpec.upto fnInsideSpec)

end Rows
end Go.Proofs.Ytpopdfffcokilaa
