/-
  No cell of these rows narrows 'for every input' (looked for: loops, veiled, ifaces, maps, wideKeys, modest, calm, conditions, laid).
  DERIVED. THE GIVEN ROWS OF THIS SEAT. 12 by the template 'for every input the law returns true; each argument reads behind the call as it read before'; 0 by the template 'total and deterministic' (their statements: YtohfaffgabfakaaTotals.lean).
  GIVEN WITH THE SEED: the statements are not yours to turn. If you find one false, say at which input.
  Laid BY PROGRAM, IN A SANDBOX (cutbox-rows.mjs): the forced cells as the released guide's own fill.sh prints them over the translation d78dbf6eaa754625… (all of the seat's roots in one cut). By AI agents, Wed Nov 11 2026. No macro, syntax, notation, axiom, sorry.
-/
import Derived.Test.YtohfaffgabfakaaChecked
import GoSem.Claim
import GoSem.ClaimJoined
import GoSem.ClaimMapViews
import Derived.JoinedTies
import Derived.KernelRfl
namespace Go.Proofs.Ytohfaffgabfakaa
/- THE CELL 'sum', in the pinned program and in every row, IS THE sha256 OF THE DUMP (.gsa) THAT YtohfaffgabfakaaProg.lean LOADS. Nothing in Lean hashes anything: it is a label: what it is worth is what the hold of that sum in a sandbox is worth. -/
noncomputable def Try.pinned : Pinned := { name := "ytohfaffgabfakaa", sum := "d78dbf6eaa754625c0b62484892a45a9c3ef6c1cf0d7227d9318bc364c3d0591", checked := Try.checked }
namespace Rows
def none {H : Type} : Left H := { results := [], args := [] }

/-- 'laws.FnExactPartTwo': WHATEVER THE INPUT: true; the input reads as it did. -/
def fnExactPartTwoSpec : ChangeSpec := { name := "fnExactPartTwo", fn := fun _ => fun
  | [d] => { results := [.lit (.bool true)], args := [d] }
  | _ => none }
def fnExactPartTwoRow : OpenClaim := { program := "ytohfaffgabfakaa", sum := "d78dbf6eaa754625c0b62484892a45a9c3ef6c1cf0d7227d9318bc364c3d0591", func := "loop.example/closingsticks/laws.FnExactPartTwo", spec := "fnExactPartTwo", apart := false }
def FnExactPartTwoSaid : Prop := fnExactPartTwoRow.holds Try.pinned (OpenSpec.ofChange fnExactPartTwoSpec)

/-- ITS FALSE NEIGHBOUR: 'it returns false'. Refute it at one input. -/
def fnExactPartTwoWrong : ChangeSpec := { name := "fnExactPartTwo", fn := fun _ => fun
  | [d] => { results := [.lit (.bool false)], args := [d] }
  | _ => none }
def FnExactPartTwoWrongFalsely : Prop := fnExactPartTwoRow.holds Try.pinned (OpenSpec.ofChange fnExactPartTwoWrong)

/-- 'laws.FnExactZonoArea': WHATEVER THE INPUT: true; the input reads as it did. -/
def fnExactZonoAreaSpec : ChangeSpec := { name := "fnExactZonoArea", fn := fun _ => fun
  | [d] => { results := [.lit (.bool true)], args := [d] }
  | _ => none }
def fnExactZonoAreaRow : OpenClaim := { program := "ytohfaffgabfakaa", sum := "d78dbf6eaa754625c0b62484892a45a9c3ef6c1cf0d7227d9318bc364c3d0591", func := "loop.example/closingsticks/laws.FnExactZonoArea", spec := "fnExactZonoArea", apart := false }
def FnExactZonoAreaSaid : Prop := fnExactZonoAreaRow.holds Try.pinned (OpenSpec.ofChange fnExactZonoAreaSpec)

/-- ITS FALSE NEIGHBOUR: 'it returns false'. Refute it at one input. -/
def fnExactZonoAreaWrong : ChangeSpec := { name := "fnExactZonoArea", fn := fun _ => fun
  | [d] => { results := [.lit (.bool false)], args := [d] }
  | _ => none }
def FnExactZonoAreaWrongFalsely : Prop := fnExactZonoAreaRow.holds Try.pinned (OpenSpec.ofChange fnExactZonoAreaWrong)

/-- 'laws.FnZonoArea': WHATEVER THE INPUT: true; the input reads as it did. -/
def fnZonoAreaSpec : ChangeSpec := { name := "fnZonoArea", fn := fun _ => fun
  | [d] => { results := [.lit (.bool true)], args := [d] }
  | _ => none }
def fnZonoAreaRow : OpenClaim := { program := "ytohfaffgabfakaa", sum := "d78dbf6eaa754625c0b62484892a45a9c3ef6c1cf0d7227d9318bc364c3d0591", func := "loop.example/closingsticks/laws.FnZonoArea", spec := "fnZonoArea", apart := false }
def FnZonoAreaSaid : Prop := fnZonoAreaRow.holds Try.pinned (OpenSpec.ofChange fnZonoAreaSpec)

/-- ITS FALSE NEIGHBOUR: 'it returns false'. Refute it at one input. -/
def fnZonoAreaWrong : ChangeSpec := { name := "fnZonoArea", fn := fun _ => fun
  | [d] => { results := [.lit (.bool false)], args := [d] }
  | _ => none }
def FnZonoAreaWrongFalsely : Prop := fnZonoAreaRow.holds Try.pinned (OpenSpec.ofChange fnZonoAreaWrong)

/-- 'laws.FnExactZonoPieces': WHATEVER THE INPUT: true; the input reads as it did. -/
def fnExactZonoPiecesSpec : ChangeSpec := { name := "fnExactZonoPieces", fn := fun _ => fun
  | [d] => { results := [.lit (.bool true)], args := [d] }
  | _ => none }
def fnExactZonoPiecesRow : OpenClaim := { program := "ytohfaffgabfakaa", sum := "d78dbf6eaa754625c0b62484892a45a9c3ef6c1cf0d7227d9318bc364c3d0591", func := "loop.example/closingsticks/laws.FnExactZonoPieces", spec := "fnExactZonoPieces", apart := false }
def FnExactZonoPiecesSaid : Prop := fnExactZonoPiecesRow.holds Try.pinned (OpenSpec.ofChange fnExactZonoPiecesSpec)

/-- ITS FALSE NEIGHBOUR: 'it returns false'. Refute it at one input. -/
def fnExactZonoPiecesWrong : ChangeSpec := { name := "fnExactZonoPieces", fn := fun _ => fun
  | [d] => { results := [.lit (.bool false)], args := [d] }
  | _ => none }
def FnExactZonoPiecesWrongFalsely : Prop := fnExactZonoPiecesRow.holds Try.pinned (OpenSpec.ofChange fnExactZonoPiecesWrong)

/-- 'laws.FnSolidFirst': WHATEVER THE INPUT: true; the input reads as it did. -/
def fnSolidFirstSpec : ChangeSpec := { name := "fnSolidFirst", fn := fun _ => fun
  | [d] => { results := [.lit (.bool true)], args := [d] }
  | _ => none }
def fnSolidFirstRow : OpenClaim := { program := "ytohfaffgabfakaa", sum := "d78dbf6eaa754625c0b62484892a45a9c3ef6c1cf0d7227d9318bc364c3d0591", func := "loop.example/closingsticks/laws.FnSolidFirst", spec := "fnSolidFirst", apart := false }
def FnSolidFirstSaid : Prop := fnSolidFirstRow.holds Try.pinned (OpenSpec.ofChange fnSolidFirstSpec)

/-- ITS FALSE NEIGHBOUR: 'it returns false'. Refute it at one input. -/
def fnSolidFirstWrong : ChangeSpec := { name := "fnSolidFirst", fn := fun _ => fun
  | [d] => { results := [.lit (.bool false)], args := [d] }
  | _ => none }
def FnSolidFirstWrongFalsely : Prop := fnSolidFirstRow.holds Try.pinned (OpenSpec.ofChange fnSolidFirstWrong)

/-- 'laws.FnNamed': WHATEVER THE INPUT: true; the input reads as it did. -/
def fnNamedSpec : ChangeSpec := { name := "fnNamed", fn := fun _ => fun
  | [d] => { results := [.lit (.bool true)], args := [d] }
  | _ => none }
def fnNamedRow : OpenClaim := { program := "ytohfaffgabfakaa", sum := "d78dbf6eaa754625c0b62484892a45a9c3ef6c1cf0d7227d9318bc364c3d0591", func := "loop.example/closingsticks/laws.FnNamed", spec := "fnNamed", apart := false }
def FnNamedSaid : Prop := fnNamedRow.holds Try.pinned (OpenSpec.ofChange fnNamedSpec)

/-- ITS FALSE NEIGHBOUR: 'it returns false'. Refute it at one input. -/
def fnNamedWrong : ChangeSpec := { name := "fnNamed", fn := fun _ => fun
  | [d] => { results := [.lit (.bool false)], args := [d] }
  | _ => none }
def FnNamedWrongFalsely : Prop := fnNamedRow.holds Try.pinned (OpenSpec.ofChange fnNamedWrong)

/-- 'laws.FnStands': WHATEVER THE INPUT: true; the input reads as it did. -/
def fnStandsSpec : ChangeSpec := { name := "fnStands", fn := fun _ => fun
  | [d] => { results := [.lit (.bool true)], args := [d] }
  | _ => none }
def fnStandsRow : OpenClaim := { program := "ytohfaffgabfakaa", sum := "d78dbf6eaa754625c0b62484892a45a9c3ef6c1cf0d7227d9318bc364c3d0591", func := "loop.example/closingsticks/laws.FnStands", spec := "fnStands", apart := false }
def FnStandsSaid : Prop := fnStandsRow.holds Try.pinned (OpenSpec.ofChange fnStandsSpec)

/-- ITS FALSE NEIGHBOUR: 'it returns false'. Refute it at one input. -/
def fnStandsWrong : ChangeSpec := { name := "fnStands", fn := fun _ => fun
  | [d] => { results := [.lit (.bool false)], args := [d] }
  | _ => none }
def FnStandsWrongFalsely : Prop := fnStandsRow.holds Try.pinned (OpenSpec.ofChange fnStandsWrong)

/-- 'laws.FnExactSolidCount': WHATEVER THE INPUT: true; the input reads as it did. -/
def fnExactSolidCountSpec : ChangeSpec := { name := "fnExactSolidCount", fn := fun _ => fun
  | [d] => { results := [.lit (.bool true)], args := [d] }
  | _ => none }
def fnExactSolidCountRow : OpenClaim := { program := "ytohfaffgabfakaa", sum := "d78dbf6eaa754625c0b62484892a45a9c3ef6c1cf0d7227d9318bc364c3d0591", func := "loop.example/closingsticks/laws.FnExactSolidCount", spec := "fnExactSolidCount", unfollowed := true, recurses := true, apart := false }
def FnExactSolidCountSaid : Prop := fnExactSolidCountRow.holds Try.pinned (OpenSpec.ofChange fnExactSolidCountSpec)

/-- ITS FALSE NEIGHBOUR: 'it returns false'. Refute it at one input. -/
def fnExactSolidCountWrong : ChangeSpec := { name := "fnExactSolidCount", fn := fun _ => fun
  | [d] => { results := [.lit (.bool false)], args := [d] }
  | _ => none }
def FnExactSolidCountWrongFalsely : Prop := fnExactSolidCountRow.holds Try.pinned (OpenSpec.ofChange fnExactSolidCountWrong)

/-- 'laws.FnSolidCount': WHATEVER THE INPUT: true; the input reads as it did. -/
def fnSolidCountSpec : ChangeSpec := { name := "fnSolidCount", fn := fun _ => fun
  | [d] => { results := [.lit (.bool true)], args := [d] }
  | _ => none }
def fnSolidCountRow : OpenClaim := { program := "ytohfaffgabfakaa", sum := "d78dbf6eaa754625c0b62484892a45a9c3ef6c1cf0d7227d9318bc364c3d0591", func := "loop.example/closingsticks/laws.FnSolidCount", spec := "fnSolidCount", unfollowed := true, recurses := true, apart := false }
def FnSolidCountSaid : Prop := fnSolidCountRow.holds Try.pinned (OpenSpec.ofChange fnSolidCountSpec)

/-- ITS FALSE NEIGHBOUR: 'it returns false'. Refute it at one input. -/
def fnSolidCountWrong : ChangeSpec := { name := "fnSolidCount", fn := fun _ => fun
  | [d] => { results := [.lit (.bool false)], args := [d] }
  | _ => none }
def FnSolidCountWrongFalsely : Prop := fnSolidCountRow.holds Try.pinned (OpenSpec.ofChange fnSolidCountWrong)

/-- 'laws.FnSolidSame': WHATEVER THE INPUT: true; the input reads as it did. -/
def fnSolidSameSpec : ChangeSpec := { name := "fnSolidSame", fn := fun _ => fun
  | [d] => { results := [.lit (.bool true)], args := [d] }
  | _ => none }
def fnSolidSameRow : OpenClaim := { program := "ytohfaffgabfakaa", sum := "d78dbf6eaa754625c0b62484892a45a9c3ef6c1cf0d7227d9318bc364c3d0591", func := "loop.example/closingsticks/laws.FnSolidSame", spec := "fnSolidSame", apart := false }
def FnSolidSameSaid : Prop := fnSolidSameRow.holds Try.pinned (OpenSpec.ofChange fnSolidSameSpec)

/-- ITS FALSE NEIGHBOUR: 'it returns false'. Refute it at one input. -/
def fnSolidSameWrong : ChangeSpec := { name := "fnSolidSame", fn := fun _ => fun
  | [d] => { results := [.lit (.bool false)], args := [d] }
  | _ => none }
def FnSolidSameWrongFalsely : Prop := fnSolidSameRow.holds Try.pinned (OpenSpec.ofChange fnSolidSameWrong)

/-- 'laws.FnEqual': WHATEVER THE INPUT: true; the input reads as it did. -/
def fnEqualSpec : ChangeSpec := { name := "fnEqual", fn := fun _ => fun
  | [d] => { results := [.lit (.bool true)], args := [d] }
  | _ => none }
def fnEqualRow : OpenClaim := { program := "ytohfaffgabfakaa", sum := "d78dbf6eaa754625c0b62484892a45a9c3ef6c1cf0d7227d9318bc364c3d0591", func := "loop.example/closingsticks/laws.FnEqual", spec := "fnEqual", unfollowed := true, recurses := true, apart := false }
def FnEqualSaid : Prop := fnEqualRow.holds Try.pinned (OpenSpec.ofChange fnEqualSpec)

/-- ITS FALSE NEIGHBOUR: 'it returns false'. Refute it at one input. -/
def fnEqualWrong : ChangeSpec := { name := "fnEqual", fn := fun _ => fun
  | [d] => { results := [.lit (.bool false)], args := [d] }
  | _ => none }
def FnEqualWrongFalsely : Prop := fnEqualRow.holds Try.pinned (OpenSpec.ofChange fnEqualWrong)

/-- 'laws.FnExactPartWays': WHATEVER THE INPUT: true; the input reads as it did. -/
def fnExactPartWaysSpec : ChangeSpec := { name := "fnExactPartWays", fn := fun _ => fun
  | [d] => { results := [.lit (.bool true)], args := [d] }
  | _ => none }
def fnExactPartWaysRow : OpenClaim := { program := "ytohfaffgabfakaa", sum := "d78dbf6eaa754625c0b62484892a45a9c3ef6c1cf0d7227d9318bc364c3d0591", func := "loop.example/closingsticks/laws.FnExactPartWays", spec := "fnExactPartWays", unfollowed := true, recurses := true, apart := false }
def FnExactPartWaysSaid : Prop := fnExactPartWaysRow.holds Try.pinned (OpenSpec.ofChange fnExactPartWaysSpec)

/-- ITS FALSE NEIGHBOUR: 'it returns false'. Refute it at one input. -/
def fnExactPartWaysWrong : ChangeSpec := { name := "fnExactPartWays", fn := fun _ => fun
  | [d] => { results := [.lit (.bool false)], args := [d] }
  | _ => none }
def FnExactPartWaysWrongFalsely : Prop := fnExactPartWaysRow.holds Try.pinned (OpenSpec.ofChange fnExactPartWaysWrong)

/- THE SECOND FORM. 'bulk': how many values and letters a reading holds, each counted each time it is reached (what is shared counts as often as it is met; a slice's spare places count too). A statement '..UptoSaid' is the law's where the arguments, and the package variables that the reading takes, are together of bulk at most 1048576: NARROWER than '..Said'. Prove '..Said' where nothing that the law and all that it calls make is longer than what came in: it says more and counts as full. Else prove '..UptoSaid'. A law counts once. -/
mutual
def uptoBulk {H : Type} : DataW H → Nat
  | .lit (.string bytes) => bytes.length + 1
  | .lit _ => 1
  | .nil => 1
  | .ptr d => uptoBulk d + 1
  | .slice elems spare => uptoBulkAll elems + uptoBulkAll spare + 1
  | .agg parts => uptoBulkAll parts + 1
  | .iface _ d => uptoBulk d + 1
  | .map entries => uptoBulkEntries entries + 1
  | .held _ => 1
def uptoBulkAll {H : Type} : List (DataW H) → Nat
  | [] => 0
  | d :: r => uptoBulk d + uptoBulkAll r
def uptoBulkEntries {H : Type} : List (Lit × DataW H) → Nat
  | [] => 0
  | x :: r => uptoBulkEntry x + uptoBulkEntries r
def uptoBulkEntry {H : Type} : Lit × DataW H → Nat
  | (.string bytes, d) => bytes.length + uptoBulk d + 1
  | (_, d) => uptoBulk d + 1
 end
def uptoSmall : (H : Type) → List (DataW H) → Bool := fun _ ds => decide (uptoBulkAll ds ≤ 1048576)
def OpenSpec.upto (s : _root_.Go.ChangeSpec) : _root_.Go.OpenSpec := { _root_.Go.OpenSpec.ofChange s with cond := some uptoSmall }

/-- 'laws.FnExactPartTwo', WHERE WHAT IT READS IS OF BULK AT MOST 1048576: true; the input reads as it did. -/
def fnExactPartTwoUptoRow : OpenClaim := { program := "ytohfaffgabfakaa", sum := "d78dbf6eaa754625c0b62484892a45a9c3ef6c1cf0d7227d9318bc364c3d0591", func := "loop.example/closingsticks/laws.FnExactPartTwo", spec := "fnExactPartTwo", apart := false, narrowed := true }
def FnExactPartTwoUptoSaid : Prop := fnExactPartTwoUptoRow.holds Try.pinned (OpenSpec.upto fnExactPartTwoSpec)

/-- 'laws.FnExactZonoArea', WHERE WHAT IT READS IS OF BULK AT MOST 1048576: true; the input reads as it did. -/
def fnExactZonoAreaUptoRow : OpenClaim := { program := "ytohfaffgabfakaa", sum := "d78dbf6eaa754625c0b62484892a45a9c3ef6c1cf0d7227d9318bc364c3d0591", func := "loop.example/closingsticks/laws.FnExactZonoArea", spec := "fnExactZonoArea", apart := false, narrowed := true }
def FnExactZonoAreaUptoSaid : Prop := fnExactZonoAreaUptoRow.holds Try.pinned (OpenSpec.upto fnExactZonoAreaSpec)

/-- 'laws.FnZonoArea', WHERE WHAT IT READS IS OF BULK AT MOST 1048576: true; the input reads as it did. -/
def fnZonoAreaUptoRow : OpenClaim := { program := "ytohfaffgabfakaa", sum := "d78dbf6eaa754625c0b62484892a45a9c3ef6c1cf0d7227d9318bc364c3d0591", func := "loop.example/closingsticks/laws.FnZonoArea", spec := "fnZonoArea", apart := false, narrowed := true }
def FnZonoAreaUptoSaid : Prop := fnZonoAreaUptoRow.holds Try.pinned (OpenSpec.upto fnZonoAreaSpec)

/-- 'laws.FnExactZonoPieces', WHERE WHAT IT READS IS OF BULK AT MOST 1048576: true; the input reads as it did. -/
def fnExactZonoPiecesUptoRow : OpenClaim := { program := "ytohfaffgabfakaa", sum := "d78dbf6eaa754625c0b62484892a45a9c3ef6c1cf0d7227d9318bc364c3d0591", func := "loop.example/closingsticks/laws.FnExactZonoPieces", spec := "fnExactZonoPieces", apart := false, narrowed := true }
def FnExactZonoPiecesUptoSaid : Prop := fnExactZonoPiecesUptoRow.holds Try.pinned (OpenSpec.upto fnExactZonoPiecesSpec)

/-- 'laws.FnSolidFirst', WHERE WHAT IT READS IS OF BULK AT MOST 1048576: true; the input reads as it did. -/
def fnSolidFirstUptoRow : OpenClaim := { program := "ytohfaffgabfakaa", sum := "d78dbf6eaa754625c0b62484892a45a9c3ef6c1cf0d7227d9318bc364c3d0591", func := "loop.example/closingsticks/laws.FnSolidFirst", spec := "fnSolidFirst", apart := false, narrowed := true }
def FnSolidFirstUptoSaid : Prop := fnSolidFirstUptoRow.holds Try.pinned (OpenSpec.upto fnSolidFirstSpec)

/-- 'laws.FnNamed', WHERE WHAT IT READS IS OF BULK AT MOST 1048576: true; the input reads as it did. -/
def fnNamedUptoRow : OpenClaim := { program := "ytohfaffgabfakaa", sum := "d78dbf6eaa754625c0b62484892a45a9c3ef6c1cf0d7227d9318bc364c3d0591", func := "loop.example/closingsticks/laws.FnNamed", spec := "fnNamed", apart := false, narrowed := true }
def FnNamedUptoSaid : Prop := fnNamedUptoRow.holds Try.pinned (OpenSpec.upto fnNamedSpec)

/-- 'laws.FnStands', WHERE WHAT IT READS IS OF BULK AT MOST 1048576: true; the input reads as it did. -/
def fnStandsUptoRow : OpenClaim := { program := "ytohfaffgabfakaa", sum := "d78dbf6eaa754625c0b62484892a45a9c3ef6c1cf0d7227d9318bc364c3d0591", func := "loop.example/closingsticks/laws.FnStands", spec := "fnStands", apart := false, narrowed := true }
def FnStandsUptoSaid : Prop := fnStandsUptoRow.holds Try.pinned (OpenSpec.upto fnStandsSpec)

/-- 'laws.FnExactSolidCount', WHERE WHAT IT READS IS OF BULK AT MOST 1048576: true; the input reads as it did. -/
def fnExactSolidCountUptoRow : OpenClaim := { program := "ytohfaffgabfakaa", sum := "d78dbf6eaa754625c0b62484892a45a9c3ef6c1cf0d7227d9318bc364c3d0591", func := "loop.example/closingsticks/laws.FnExactSolidCount", spec := "fnExactSolidCount", unfollowed := true, recurses := true, apart := false, narrowed := true }
def FnExactSolidCountUptoSaid : Prop := fnExactSolidCountUptoRow.holds Try.pinned (OpenSpec.upto fnExactSolidCountSpec)

/-- 'laws.FnSolidCount', WHERE WHAT IT READS IS OF BULK AT MOST 1048576: true; the input reads as it did. -/
def fnSolidCountUptoRow : OpenClaim := { program := "ytohfaffgabfakaa", sum := "d78dbf6eaa754625c0b62484892a45a9c3ef6c1cf0d7227d9318bc364c3d0591", func := "loop.example/closingsticks/laws.FnSolidCount", spec := "fnSolidCount", unfollowed := true, recurses := true, apart := false, narrowed := true }
def FnSolidCountUptoSaid : Prop := fnSolidCountUptoRow.holds Try.pinned (OpenSpec.upto fnSolidCountSpec)

/-- 'laws.FnSolidSame', WHERE WHAT IT READS IS OF BULK AT MOST 1048576: true; the input reads as it did. -/
def fnSolidSameUptoRow : OpenClaim := { program := "ytohfaffgabfakaa", sum := "d78dbf6eaa754625c0b62484892a45a9c3ef6c1cf0d7227d9318bc364c3d0591", func := "loop.example/closingsticks/laws.FnSolidSame", spec := "fnSolidSame", apart := false, narrowed := true }
def FnSolidSameUptoSaid : Prop := fnSolidSameUptoRow.holds Try.pinned (OpenSpec.upto fnSolidSameSpec)

/-- 'laws.FnEqual', WHERE WHAT IT READS IS OF BULK AT MOST 1048576: true; the input reads as it did. -/
def fnEqualUptoRow : OpenClaim := { program := "ytohfaffgabfakaa", sum := "d78dbf6eaa754625c0b62484892a45a9c3ef6c1cf0d7227d9318bc364c3d0591", func := "loop.example/closingsticks/laws.FnEqual", spec := "fnEqual", unfollowed := true, recurses := true, apart := false, narrowed := true }
def FnEqualUptoSaid : Prop := fnEqualUptoRow.holds Try.pinned (OpenSpec.upto fnEqualSpec)

/-- 'laws.FnExactPartWays', WHERE WHAT IT READS IS OF BULK AT MOST 1048576: true; the input reads as it did. -/
def fnExactPartWaysUptoRow : OpenClaim := { program := "ytohfaffgabfakaa", sum := "d78dbf6eaa754625c0b62484892a45a9c3ef6c1cf0d7227d9318bc364c3d0591", func := "loop.example/closingsticks/laws.FnExactPartWays", spec := "fnExactPartWays", unfollowed := true, recurses := true, apart := false, narrowed := true }
def FnExactPartWaysUptoSaid : Prop := fnExactPartWaysUptoRow.holds Try.pinned (OpenSpec.upto fnExactPartWaysSpec)

end Rows
end Go.Proofs.Ytohfaffgabfakaa
