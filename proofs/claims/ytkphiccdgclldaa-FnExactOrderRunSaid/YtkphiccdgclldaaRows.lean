/-
  No cell of these rows narrows 'for every input' (looked for: loops, veiled, ifaces, maps, wideKeys, modest, calm, conditions, laid).
  DERIVED. THE GIVEN ROWS OF THIS SEAT. 11 by the template 'for every input the law returns true; each argument reads behind the call as it read before'; 0 by the template 'total and deterministic' (their statements: YtkphiccdgclldaaTotals.lean).
  GIVEN WITH THE SEED: the statements are not yours to turn. If you find one false, say at which input.
  Laid BY PROGRAM, IN A SANDBOX (cutbox-rows.mjs): the forced cells as the released guide's own fill.sh prints them over the translation a61af2ede6ab6952… (all of the seat's roots in one cut). By AI agents, Wed Nov 11 2026. No macro, syntax, notation, axiom, sorry.
-/
import Derived.Test.YtkphiccdgclldaaChecked
import GoSem.Claim
import GoSem.ClaimJoined
import GoSem.ClaimMapViews
import Derived.JoinedTies
import Derived.KernelRfl
namespace Go.Proofs.Ytkphiccdgclldaa
/- THE CELL 'sum', in the pinned program and in every row, IS THE sha256 OF THE DUMP (.gsa) THAT YtkphiccdgclldaaProg.lean LOADS. Nothing in Lean hashes anything: it is a label: what it is worth is what the hold of that sum in a sandbox is worth. -/
noncomputable def Try.pinned : Pinned := { name := "ytkphiccdgclldaa", sum := "a61af2ede6ab695281a5f1ea017c2497bdbe6001e0c4b2bbeec95957f4d528ca", checked := Try.checked }
namespace Rows
def none {H : Type} : Left H := { results := [], args := [] }

/-- 'laws.FnExactZonoInside': WHATEVER THE INPUT: true; the input reads as it did. -/
def fnExactZonoInsideSpec : ChangeSpec := { name := "fnExactZonoInside", fn := fun _ => fun
  | [d] => { results := [.lit (.bool true)], args := [d] }
  | _ => none }
def fnExactZonoInsideRow : OpenClaim := { program := "ytkphiccdgclldaa", sum := "a61af2ede6ab695281a5f1ea017c2497bdbe6001e0c4b2bbeec95957f4d528ca", func := "loop.example/closingsticks/laws.FnExactZonoInside", spec := "fnExactZonoInside", unfollowed := true, recurses := true, apart := false }
def FnExactZonoInsideSaid : Prop := fnExactZonoInsideRow.holds Try.pinned (OpenSpec.ofChange fnExactZonoInsideSpec)

/-- ITS FALSE NEIGHBOUR: 'it returns false'. Refute it at one input. -/
def fnExactZonoInsideWrong : ChangeSpec := { name := "fnExactZonoInside", fn := fun _ => fun
  | [d] => { results := [.lit (.bool false)], args := [d] }
  | _ => none }
def FnExactZonoInsideWrongFalsely : Prop := fnExactZonoInsideRow.holds Try.pinned (OpenSpec.ofChange fnExactZonoInsideWrong)

/-- 'laws.FnZonoInside': WHATEVER THE INPUT: true; the input reads as it did. -/
def fnZonoInsideSpec : ChangeSpec := { name := "fnZonoInside", fn := fun _ => fun
  | [d] => { results := [.lit (.bool true)], args := [d] }
  | _ => none }
def fnZonoInsideRow : OpenClaim := { program := "ytkphiccdgclldaa", sum := "a61af2ede6ab695281a5f1ea017c2497bdbe6001e0c4b2bbeec95957f4d528ca", func := "loop.example/closingsticks/laws.FnZonoInside", spec := "fnZonoInside", unfollowed := true, recurses := true, apart := false }
def FnZonoInsideSaid : Prop := fnZonoInsideRow.holds Try.pinned (OpenSpec.ofChange fnZonoInsideSpec)

/-- ITS FALSE NEIGHBOUR: 'it returns false'. Refute it at one input. -/
def fnZonoInsideWrong : ChangeSpec := { name := "fnZonoInside", fn := fun _ => fun
  | [d] => { results := [.lit (.bool false)], args := [d] }
  | _ => none }
def FnZonoInsideWrongFalsely : Prop := fnZonoInsideRow.holds Try.pinned (OpenSpec.ofChange fnZonoInsideWrong)

/-- 'laws.FnExactZonoPath': WHATEVER THE INPUT: true; the input reads as it did. -/
def fnExactZonoPathSpec : ChangeSpec := { name := "fnExactZonoPath", fn := fun _ => fun
  | [d] => { results := [.lit (.bool true)], args := [d] }
  | _ => none }
def fnExactZonoPathRow : OpenClaim := { program := "ytkphiccdgclldaa", sum := "a61af2ede6ab695281a5f1ea017c2497bdbe6001e0c4b2bbeec95957f4d528ca", func := "loop.example/closingsticks/laws.FnExactZonoPath", spec := "fnExactZonoPath", unfollowed := true, recurses := true, apart := false }
def FnExactZonoPathSaid : Prop := fnExactZonoPathRow.holds Try.pinned (OpenSpec.ofChange fnExactZonoPathSpec)

/-- ITS FALSE NEIGHBOUR: 'it returns false'. Refute it at one input. -/
def fnExactZonoPathWrong : ChangeSpec := { name := "fnExactZonoPath", fn := fun _ => fun
  | [d] => { results := [.lit (.bool false)], args := [d] }
  | _ => none }
def FnExactZonoPathWrongFalsely : Prop := fnExactZonoPathRow.holds Try.pinned (OpenSpec.ofChange fnExactZonoPathWrong)

/-- 'laws.FnZonoPath': WHATEVER THE INPUT: true; the input reads as it did. -/
def fnZonoPathSpec : ChangeSpec := { name := "fnZonoPath", fn := fun _ => fun
  | [d] => { results := [.lit (.bool true)], args := [d] }
  | _ => none }
def fnZonoPathRow : OpenClaim := { program := "ytkphiccdgclldaa", sum := "a61af2ede6ab695281a5f1ea017c2497bdbe6001e0c4b2bbeec95957f4d528ca", func := "loop.example/closingsticks/laws.FnZonoPath", spec := "fnZonoPath", unfollowed := true, recurses := true, apart := false }
def FnZonoPathSaid : Prop := fnZonoPathRow.holds Try.pinned (OpenSpec.ofChange fnZonoPathSpec)

/-- ITS FALSE NEIGHBOUR: 'it returns false'. Refute it at one input. -/
def fnZonoPathWrong : ChangeSpec := { name := "fnZonoPath", fn := fun _ => fun
  | [d] => { results := [.lit (.bool false)], args := [d] }
  | _ => none }
def FnZonoPathWrongFalsely : Prop := fnZonoPathRow.holds Try.pinned (OpenSpec.ofChange fnZonoPathWrong)

/-- 'laws.FnPieces': WHATEVER THE INPUT: true; the input reads as it did. -/
def fnPiecesSpec : ChangeSpec := { name := "fnPieces", fn := fun _ => fun
  | [d] => { results := [.lit (.bool true)], args := [d] }
  | _ => none }
def fnPiecesRow : OpenClaim := { program := "ytkphiccdgclldaa", sum := "a61af2ede6ab695281a5f1ea017c2497bdbe6001e0c4b2bbeec95957f4d528ca", func := "loop.example/closingsticks/laws.FnPieces", spec := "fnPieces", unfollowed := true, recurses := true, apart := false }
def FnPiecesSaid : Prop := fnPiecesRow.holds Try.pinned (OpenSpec.ofChange fnPiecesSpec)

/-- ITS FALSE NEIGHBOUR: 'it returns false'. Refute it at one input. -/
def fnPiecesWrong : ChangeSpec := { name := "fnPieces", fn := fun _ => fun
  | [d] => { results := [.lit (.bool false)], args := [d] }
  | _ => none }
def FnPiecesWrongFalsely : Prop := fnPiecesRow.holds Try.pinned (OpenSpec.ofChange fnPiecesWrong)

/-- 'laws.FnExactOrderSorted': WHATEVER THE INPUT: true; the input reads as it did. -/
def fnExactOrderSortedSpec : ChangeSpec := { name := "fnExactOrderSorted", fn := fun _ => fun
  | [d] => { results := [.lit (.bool true)], args := [d] }
  | _ => none }
def fnExactOrderSortedRow : OpenClaim := { program := "ytkphiccdgclldaa", sum := "a61af2ede6ab695281a5f1ea017c2497bdbe6001e0c4b2bbeec95957f4d528ca", func := "loop.example/closingsticks/laws.FnExactOrderSorted", spec := "fnExactOrderSorted", unfollowed := true, recurses := true, apart := false }
def FnExactOrderSortedSaid : Prop := fnExactOrderSortedRow.holds Try.pinned (OpenSpec.ofChange fnExactOrderSortedSpec)

/-- ITS FALSE NEIGHBOUR: 'it returns false'. Refute it at one input. -/
def fnExactOrderSortedWrong : ChangeSpec := { name := "fnExactOrderSorted", fn := fun _ => fun
  | [d] => { results := [.lit (.bool false)], args := [d] }
  | _ => none }
def FnExactOrderSortedWrongFalsely : Prop := fnExactOrderSortedRow.holds Try.pinned (OpenSpec.ofChange fnExactOrderSortedWrong)

/-- 'laws.FnSorted': WHATEVER THE INPUT: true; the input reads as it did. -/
def fnSortedSpec : ChangeSpec := { name := "fnSorted", fn := fun _ => fun
  | [d] => { results := [.lit (.bool true)], args := [d] }
  | _ => none }
def fnSortedRow : OpenClaim := { program := "ytkphiccdgclldaa", sum := "a61af2ede6ab695281a5f1ea017c2497bdbe6001e0c4b2bbeec95957f4d528ca", func := "loop.example/closingsticks/laws.FnSorted", spec := "fnSorted", unfollowed := true, recurses := true, apart := false }
def FnSortedSaid : Prop := fnSortedRow.holds Try.pinned (OpenSpec.ofChange fnSortedSpec)

/-- ITS FALSE NEIGHBOUR: 'it returns false'. Refute it at one input. -/
def fnSortedWrong : ChangeSpec := { name := "fnSorted", fn := fun _ => fun
  | [d] => { results := [.lit (.bool false)], args := [d] }
  | _ => none }
def FnSortedWrongFalsely : Prop := fnSortedRow.holds Try.pinned (OpenSpec.ofChange fnSortedWrong)

/-- 'laws.FnExactOrderRun': WHATEVER THE INPUT: true; the input reads as it did. -/
def fnExactOrderRunSpec : ChangeSpec := { name := "fnExactOrderRun", fn := fun _ => fun
  | [d1, d2, d3] => { results := [.lit (.bool true)], args := [d1, d2, d3] }
  | _ => none }
def fnExactOrderRunRow : OpenClaim := { program := "ytkphiccdgclldaa", sum := "a61af2ede6ab695281a5f1ea017c2497bdbe6001e0c4b2bbeec95957f4d528ca", func := "loop.example/closingsticks/laws.FnExactOrderRun", spec := "fnExactOrderRun", apart := false }
def FnExactOrderRunSaid : Prop := fnExactOrderRunRow.holds Try.pinned (OpenSpec.ofChange fnExactOrderRunSpec)

/-- ITS FALSE NEIGHBOUR: 'it returns false'. Refute it at one input. -/
def fnExactOrderRunWrong : ChangeSpec := { name := "fnExactOrderRun", fn := fun _ => fun
  | [d1, d2, d3] => { results := [.lit (.bool false)], args := [d1, d2, d3] }
  | _ => none }
def FnExactOrderRunWrongFalsely : Prop := fnExactOrderRunRow.holds Try.pinned (OpenSpec.ofChange fnExactOrderRunWrong)

/-- 'laws.FnExactOrderGain': WHATEVER THE INPUT: true; the input reads as it did. -/
def fnExactOrderGainSpec : ChangeSpec := { name := "fnExactOrderGain", fn := fun _ => fun
  | [d1, d2, d3] => { results := [.lit (.bool true)], args := [d1, d2, d3] }
  | _ => none }
def fnExactOrderGainRow : OpenClaim := { program := "ytkphiccdgclldaa", sum := "a61af2ede6ab695281a5f1ea017c2497bdbe6001e0c4b2bbeec95957f4d528ca", func := "loop.example/closingsticks/laws.FnExactOrderGain", spec := "fnExactOrderGain", apart := false }
def FnExactOrderGainSaid : Prop := fnExactOrderGainRow.holds Try.pinned (OpenSpec.ofChange fnExactOrderGainSpec)

/-- ITS FALSE NEIGHBOUR: 'it returns false'. Refute it at one input. -/
def fnExactOrderGainWrong : ChangeSpec := { name := "fnExactOrderGain", fn := fun _ => fun
  | [d1, d2, d3] => { results := [.lit (.bool false)], args := [d1, d2, d3] }
  | _ => none }
def FnExactOrderGainWrongFalsely : Prop := fnExactOrderGainRow.holds Try.pinned (OpenSpec.ofChange fnExactOrderGainWrong)

/-- 'laws.FnGain': WHATEVER THE INPUT: true; the input reads as it did. -/
def fnGainSpec : ChangeSpec := { name := "fnGain", fn := fun _ => fun
  | [d] => { results := [.lit (.bool true)], args := [d] }
  | _ => none }
def fnGainRow : OpenClaim := { program := "ytkphiccdgclldaa", sum := "a61af2ede6ab695281a5f1ea017c2497bdbe6001e0c4b2bbeec95957f4d528ca", func := "loop.example/closingsticks/laws.FnGain", spec := "fnGain", apart := false }
def FnGainSaid : Prop := fnGainRow.holds Try.pinned (OpenSpec.ofChange fnGainSpec)

/-- ITS FALSE NEIGHBOUR: 'it returns false'. Refute it at one input. -/
def fnGainWrong : ChangeSpec := { name := "fnGain", fn := fun _ => fun
  | [d] => { results := [.lit (.bool false)], args := [d] }
  | _ => none }
def FnGainWrongFalsely : Prop := fnGainRow.holds Try.pinned (OpenSpec.ofChange fnGainWrong)

/-- 'laws.FnRun': WHATEVER THE INPUT: true; the input reads as it did. -/
def fnRunSpec : ChangeSpec := { name := "fnRun", fn := fun _ => fun
  | [d] => { results := [.lit (.bool true)], args := [d] }
  | _ => none }
def fnRunRow : OpenClaim := { program := "ytkphiccdgclldaa", sum := "a61af2ede6ab695281a5f1ea017c2497bdbe6001e0c4b2bbeec95957f4d528ca", func := "loop.example/closingsticks/laws.FnRun", spec := "fnRun", apart := false }
def FnRunSaid : Prop := fnRunRow.holds Try.pinned (OpenSpec.ofChange fnRunSpec)

/-- ITS FALSE NEIGHBOUR: 'it returns false'. Refute it at one input. -/
def fnRunWrong : ChangeSpec := { name := "fnRun", fn := fun _ => fun
  | [d] => { results := [.lit (.bool false)], args := [d] }
  | _ => none }
def FnRunWrongFalsely : Prop := fnRunRow.holds Try.pinned (OpenSpec.ofChange fnRunWrong)

/- THE SECOND FORM. 'bulk': how many values and letters a reading holds, each counted each time it is reached (what is shared counts as often as it is met; a slice's spare places count too). A statement '..UptoSaid' is the law's where the arguments, and the package variables that the reading takes, are together of bulk at most 1048576: NARROWER than '..Said'. Prove '..Said' where nothing that the law and all that it calls make is longer than what came in: it says more and counts as full. Else prove '..UptoSaid'. A law counts once. -/
mutual
def uptoBulk {H : Type} : DataW H → Nat
  | .lit (.string bytes) => bytes.length + 1
  | .lit _ => 1
  | .nil => 1
  | .ptr d => uptoBulk d + 1
  | .slice elems spare => uptoBulkAll elems + uptoBulkAll spare + 1
  | .agg parts => uptoBulkAll parts + 1
  | .iface _ d => uptoBulk d + 1
  | .map entries => uptoBulkEntries entries + 1
  | .held _ => 1
def uptoBulkAll {H : Type} : List (DataW H) → Nat
  | [] => 0
  | d :: r => uptoBulk d + uptoBulkAll r
def uptoBulkEntries {H : Type} : List (Lit × DataW H) → Nat
  | [] => 0
  | x :: r => uptoBulkEntry x + uptoBulkEntries r
def uptoBulkEntry {H : Type} : Lit × DataW H → Nat
  | (.string bytes, d) => bytes.length + uptoBulk d + 1
  | (_, d) => uptoBulk d + 1
 end
def uptoSmall : (H : Type) → List (DataW H) → Bool := fun _ ds => decide (uptoBulkAll ds ≤ 1048576)
def OpenSpec.upto (s : _root_.Go.ChangeSpec) : _root_.Go.OpenSpec := { _root_.Go.OpenSpec.ofChange s with cond := some uptoSmall }

/-- 'laws.FnExactZonoInside', WHERE WHAT IT READS IS OF BULK AT MOST 1048576: true; the input reads as it did. -/
def fnExactZonoInsideUptoRow : OpenClaim := { program := "ytkphiccdgclldaa", sum := "a61af2ede6ab695281a5f1ea017c2497bdbe6001e0c4b2bbeec95957f4d528ca", func := "loop.example/closingsticks/laws.FnExactZonoInside", spec := "fnExactZonoInside", unfollowed := true, recurses := true, apart := false, narrowed := true }
def FnExactZonoInsideUptoSaid : Prop := fnExactZonoInsideUptoRow.holds Try.pinned (OpenSpec.upto fnExactZonoInsideSpec)

/-- 'laws.FnZonoInside', WHERE WHAT IT READS IS OF BULK AT MOST 1048576: true; the input reads as it did. -/
def fnZonoInsideUptoRow : OpenClaim := { program := "ytkphiccdgclldaa", sum := "a61af2ede6ab695281a5f1ea017c2497bdbe6001e0c4b2bbeec95957f4d528ca", func := "loop.example/closingsticks/laws.FnZonoInside", spec := "fnZonoInside", unfollowed := true, recurses := true, apart := false, narrowed := true }
def FnZonoInsideUptoSaid : Prop := fnZonoInsideUptoRow.holds Try.pinned (OpenSpec.upto fnZonoInsideSpec)

/-- 'laws.FnExactZonoPath', WHERE WHAT IT READS IS OF BULK AT MOST 1048576: true; the input reads as it did. -/
def fnExactZonoPathUptoRow : OpenClaim := { program := "ytkphiccdgclldaa", sum := "a61af2ede6ab695281a5f1ea017c2497bdbe6001e0c4b2bbeec95957f4d528ca", func := "loop.example/closingsticks/laws.FnExactZonoPath", spec := "fnExactZonoPath", unfollowed := true, recurses := true, apart := false, narrowed := true }
def FnExactZonoPathUptoSaid : Prop := fnExactZonoPathUptoRow.holds Try.pinned (OpenSpec.upto fnExactZonoPathSpec)

/-- 'laws.FnZonoPath', WHERE WHAT IT READS IS OF BULK AT MOST 1048576: true; the input reads as it did. -/
def fnZonoPathUptoRow : OpenClaim := { program := "ytkphiccdgclldaa", sum := "a61af2ede6ab695281a5f1ea017c2497bdbe6001e0c4b2bbeec95957f4d528ca", func := "loop.example/closingsticks/laws.FnZonoPath", spec := "fnZonoPath", unfollowed := true, recurses := true, apart := false, narrowed := true }
def FnZonoPathUptoSaid : Prop := fnZonoPathUptoRow.holds Try.pinned (OpenSpec.upto fnZonoPathSpec)

/-- 'laws.FnPieces', WHERE WHAT IT READS IS OF BULK AT MOST 1048576: true; the input reads as it did. -/
def fnPiecesUptoRow : OpenClaim := { program := "ytkphiccdgclldaa", sum := "a61af2ede6ab695281a5f1ea017c2497bdbe6001e0c4b2bbeec95957f4d528ca", func := "loop.example/closingsticks/laws.FnPieces", spec := "fnPieces", unfollowed := true, recurses := true, apart := false, narrowed := true }
def FnPiecesUptoSaid : Prop := fnPiecesUptoRow.holds Try.pinned (OpenSpec.upto fnPiecesSpec)

/-- 'laws.FnExactOrderSorted', WHERE WHAT IT READS IS OF BULK AT MOST 1048576: true; the input reads as it did. -/
def fnExactOrderSortedUptoRow : OpenClaim := { program := "ytkphiccdgclldaa", sum := "a61af2ede6ab695281a5f1ea017c2497bdbe6001e0c4b2bbeec95957f4d528ca", func := "loop.example/closingsticks/laws.FnExactOrderSorted", spec := "fnExactOrderSorted", unfollowed := true, recurses := true, apart := false, narrowed := true }
def FnExactOrderSortedUptoSaid : Prop := fnExactOrderSortedUptoRow.holds Try.pinned (OpenSpec.upto fnExactOrderSortedSpec)

/-- 'laws.FnSorted', WHERE WHAT IT READS IS OF BULK AT MOST 1048576: true; the input reads as it did. -/
def fnSortedUptoRow : OpenClaim := { program := "ytkphiccdgclldaa", sum := "a61af2ede6ab695281a5f1ea017c2497bdbe6001e0c4b2bbeec95957f4d528ca", func := "loop.example/closingsticks/laws.FnSorted", spec := "fnSorted", unfollowed := true, recurses := true, apart := false, narrowed := true }
def FnSortedUptoSaid : Prop := fnSortedUptoRow.holds Try.pinned (OpenSpec.upto fnSortedSpec)

/-- 'laws.FnExactOrderRun', WHERE WHAT IT READS IS OF BULK AT MOST 1048576: true; the input reads as it did. -/
def fnExactOrderRunUptoRow : OpenClaim := { program := "ytkphiccdgclldaa", sum := "a61af2ede6ab695281a5f1ea017c2497bdbe6001e0c4b2bbeec95957f4d528ca", func := "loop.example/closingsticks/laws.FnExactOrderRun", spec := "fnExactOrderRun", apart := false, narrowed := true }
def FnExactOrderRunUptoSaid : Prop := fnExactOrderRunUptoRow.holds Try.pinned (OpenSpec.upto fnExactOrderRunSpec)

/-- 'laws.FnExactOrderGain', WHERE WHAT IT READS IS OF BULK AT MOST 1048576: true; the input reads as it did. -/
def fnExactOrderGainUptoRow : OpenClaim := { program := "ytkphiccdgclldaa", sum := "a61af2ede6ab695281a5f1ea017c2497bdbe6001e0c4b2bbeec95957f4d528ca", func := "loop.example/closingsticks/laws.FnExactOrderGain", spec := "fnExactOrderGain", apart := false, narrowed := true }
def FnExactOrderGainUptoSaid : Prop := fnExactOrderGainUptoRow.holds Try.pinned (OpenSpec.upto fnExactOrderGainSpec)

/-- 'laws.FnGain', WHERE WHAT IT READS IS OF BULK AT MOST 1048576: true; the input reads as it did. -/
def fnGainUptoRow : OpenClaim := { program := "ytkphiccdgclldaa", sum := "a61af2ede6ab695281a5f1ea017c2497bdbe6001e0c4b2bbeec95957f4d528ca", func := "loop.example/closingsticks/laws.FnGain", spec := "fnGain", apart := false, narrowed := true }
def FnGainUptoSaid : Prop := fnGainUptoRow.holds Try.pinned (OpenSpec.upto fnGainSpec)

/-- 'laws.FnRun', WHERE WHAT IT READS IS OF BULK AT MOST 1048576: true; the input reads as it did. -/
def fnRunUptoRow : OpenClaim := { program := "ytkphiccdgclldaa", sum := "a61af2ede6ab695281a5f1ea017c2497bdbe6001e0c4b2bbeec95957f4d528ca", func := "loop.example/closingsticks/laws.FnRun", spec := "fnRun", apart := false, narrowed := true }
def FnRunUptoSaid : Prop := fnRunUptoRow.holds Try.pinned (OpenSpec.upto fnRunSpec)

end Rows
end Go.Proofs.Ytkphiccdgclldaa
