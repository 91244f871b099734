/-
  No cell of these rows narrows 'for every input' (looked for: loops, veiled, ifaces, maps, wideKeys, modest, calm, conditions, laid).
  DERIVED. THE GIVEN ROWS OF THIS SEAT. 12 by the template 'for every input the law returns true; each argument reads behind the call as it read before'; 0 by the template 'total and deterministic' (their statements: YtbjmgcdhfoelkaaTotals.lean).
  GIVEN WITH THE SEED: the statements are not yours to turn. If you find one false, say at which input.
  Laid BY PROGRAM, IN A SANDBOX (cutbox-rows.mjs): the forced cells as the released guide's own fill.sh prints them over the translation 62c6688002cc386a… (all of the seat's roots in one cut). By AI agents, Wed Nov 11 2026. No macro, syntax, notation, axiom, sorry.
-/
import Derived.Test.YtbjmgcdhfoelkaaChecked
import GoSem.Claim
import GoSem.ClaimJoined
import GoSem.ClaimMapViews
import Derived.JoinedTies
import Derived.KernelRfl
namespace Go.Proofs.Ytbjmgcdhfoelkaa
/- THE CELL 'sum', in the pinned program and in every row, IS THE sha256 OF THE DUMP (.gsa) THAT YtbjmgcdhfoelkaaProg.lean LOADS. Nothing in Lean hashes anything: it is a label: what it is worth is what the hold of that sum in a sandbox is worth. -/
noncomputable def Try.pinned : Pinned := { name := "ytbjmgcdhfoelkaa", sum := "62c6688002cc386ad556376d07393ba989e10da13e42df559ffe5fed5c9745c3", checked := Try.checked }
namespace Rows
def none {H : Type} : Left H := { results := [], args := [] }

/-- 'laws.FnExactSolidIn': WHATEVER THE INPUT: true; the input reads as it did. -/
def fnExactSolidInSpec : ChangeSpec := { name := "fnExactSolidIn", fn := fun _ => fun
  | [d] => { results := [.lit (.bool true)], args := [d] }
  | _ => none }
def fnExactSolidInRow : OpenClaim := { program := "ytbjmgcdhfoelkaa", sum := "62c6688002cc386ad556376d07393ba989e10da13e42df559ffe5fed5c9745c3", func := "loop.example/closingsticks/laws.FnExactSolidIn", spec := "fnExactSolidIn", apart := false }
def FnExactSolidInSaid : Prop := fnExactSolidInRow.holds Try.pinned (OpenSpec.ofChange fnExactSolidInSpec)

/-- ITS FALSE NEIGHBOUR: 'it returns false'. Refute it at one input. -/
def fnExactSolidInWrong : ChangeSpec := { name := "fnExactSolidIn", fn := fun _ => fun
  | [d] => { results := [.lit (.bool false)], args := [d] }
  | _ => none }
def FnExactSolidInWrongFalsely : Prop := fnExactSolidInRow.holds Try.pinned (OpenSpec.ofChange fnExactSolidInWrong)

/-- 'laws.FnExactSolidNumber': WHATEVER THE INPUT: true; the input reads as it did. -/
def fnExactSolidNumberSpec : ChangeSpec := { name := "fnExactSolidNumber", fn := fun _ => fun
  | [d] => { results := [.lit (.bool true)], args := [d] }
  | _ => none }
def fnExactSolidNumberRow : OpenClaim := { program := "ytbjmgcdhfoelkaa", sum := "62c6688002cc386ad556376d07393ba989e10da13e42df559ffe5fed5c9745c3", func := "loop.example/closingsticks/laws.FnExactSolidNumber", spec := "fnExactSolidNumber", apart := false }
def FnExactSolidNumberSaid : Prop := fnExactSolidNumberRow.holds Try.pinned (OpenSpec.ofChange fnExactSolidNumberSpec)

/-- ITS FALSE NEIGHBOUR: 'it returns false'. Refute it at one input. -/
def fnExactSolidNumberWrong : ChangeSpec := { name := "fnExactSolidNumber", fn := fun _ => fun
  | [d] => { results := [.lit (.bool false)], args := [d] }
  | _ => none }
def FnExactSolidNumberWrongFalsely : Prop := fnExactSolidNumberRow.holds Try.pinned (OpenSpec.ofChange fnExactSolidNumberWrong)

/-- 'laws.FnExactSolidFaces': WHATEVER THE INPUT: true; the input reads as it did. -/
def fnExactSolidFacesSpec : ChangeSpec := { name := "fnExactSolidFaces", fn := fun _ => fun
  | [d] => { results := [.lit (.bool true)], args := [d] }
  | _ => none }
def fnExactSolidFacesRow : OpenClaim := { program := "ytbjmgcdhfoelkaa", sum := "62c6688002cc386ad556376d07393ba989e10da13e42df559ffe5fed5c9745c3", func := "loop.example/closingsticks/laws.FnExactSolidFaces", spec := "fnExactSolidFaces", apart := false }
def FnExactSolidFacesSaid : Prop := fnExactSolidFacesRow.holds Try.pinned (OpenSpec.ofChange fnExactSolidFacesSpec)

/-- ITS FALSE NEIGHBOUR: 'it returns false'. Refute it at one input. -/
def fnExactSolidFacesWrong : ChangeSpec := { name := "fnExactSolidFaces", fn := fun _ => fun
  | [d] => { results := [.lit (.bool false)], args := [d] }
  | _ => none }
def FnExactSolidFacesWrongFalsely : Prop := fnExactSolidFacesRow.holds Try.pinned (OpenSpec.ofChange fnExactSolidFacesWrong)

/-- 'laws.FnSolid': WHATEVER THE INPUT: true; the input reads as it did. -/
def fnSolidSpec : ChangeSpec := { name := "fnSolid", fn := fun _ => fun
  | [d] => { results := [.lit (.bool true)], args := [d] }
  | _ => none }
def fnSolidRow : OpenClaim := { program := "ytbjmgcdhfoelkaa", sum := "62c6688002cc386ad556376d07393ba989e10da13e42df559ffe5fed5c9745c3", func := "loop.example/closingsticks/laws.FnSolid", spec := "fnSolid", apart := false }
def FnSolidSaid : Prop := fnSolidRow.holds Try.pinned (OpenSpec.ofChange fnSolidSpec)

/-- ITS FALSE NEIGHBOUR: 'it returns false'. Refute it at one input. -/
def fnSolidWrong : ChangeSpec := { name := "fnSolid", fn := fun _ => fun
  | [d] => { results := [.lit (.bool false)], args := [d] }
  | _ => none }
def FnSolidWrongFalsely : Prop := fnSolidRow.holds Try.pinned (OpenSpec.ofChange fnSolidWrong)

/-- 'laws.FnExactSolidStands': WHATEVER THE INPUT: true; the input reads as it did. -/
def fnExactSolidStandsSpec : ChangeSpec := { name := "fnExactSolidStands", fn := fun _ => fun
  | [d] => { results := [.lit (.bool true)], args := [d] }
  | _ => none }
def fnExactSolidStandsRow : OpenClaim := { program := "ytbjmgcdhfoelkaa", sum := "62c6688002cc386ad556376d07393ba989e10da13e42df559ffe5fed5c9745c3", func := "loop.example/closingsticks/laws.FnExactSolidStands", spec := "fnExactSolidStands", apart := false }
def FnExactSolidStandsSaid : Prop := fnExactSolidStandsRow.holds Try.pinned (OpenSpec.ofChange fnExactSolidStandsSpec)

/-- ITS FALSE NEIGHBOUR: 'it returns false'. Refute it at one input. -/
def fnExactSolidStandsWrong : ChangeSpec := { name := "fnExactSolidStands", fn := fun _ => fun
  | [d] => { results := [.lit (.bool false)], args := [d] }
  | _ => none }
def FnExactSolidStandsWrongFalsely : Prop := fnExactSolidStandsRow.holds Try.pinned (OpenSpec.ofChange fnExactSolidStandsWrong)

/-- 'laws.FnNumber': WHATEVER THE INPUT: true; the input reads as it did. -/
def fnNumberSpec : ChangeSpec := { name := "fnNumber", fn := fun _ => fun
  | [d] => { results := [.lit (.bool true)], args := [d] }
  | _ => none }
def fnNumberRow : OpenClaim := { program := "ytbjmgcdhfoelkaa", sum := "62c6688002cc386ad556376d07393ba989e10da13e42df559ffe5fed5c9745c3", func := "loop.example/closingsticks/laws.FnNumber", spec := "fnNumber", apart := false }
def FnNumberSaid : Prop := fnNumberRow.holds Try.pinned (OpenSpec.ofChange fnNumberSpec)

/-- ITS FALSE NEIGHBOUR: 'it returns false'. Refute it at one input. -/
def fnNumberWrong : ChangeSpec := { name := "fnNumber", fn := fun _ => fun
  | [d] => { results := [.lit (.bool false)], args := [d] }
  | _ => none }
def FnNumberWrongFalsely : Prop := fnNumberRow.holds Try.pinned (OpenSpec.ofChange fnNumberWrong)

/-- 'laws.FnExactSolidNamed': WHATEVER THE INPUT: true; the input reads as it did. -/
def fnExactSolidNamedSpec : ChangeSpec := { name := "fnExactSolidNamed", fn := fun _ => fun
  | [d1, d2] => { results := [.lit (.bool true)], args := [d1, d2] }
  | _ => none }
def fnExactSolidNamedRow : OpenClaim := { program := "ytbjmgcdhfoelkaa", sum := "62c6688002cc386ad556376d07393ba989e10da13e42df559ffe5fed5c9745c3", func := "loop.example/closingsticks/laws.FnExactSolidNamed", spec := "fnExactSolidNamed", apart := false }
def FnExactSolidNamedSaid : Prop := fnExactSolidNamedRow.holds Try.pinned (OpenSpec.ofChange fnExactSolidNamedSpec)

/-- ITS FALSE NEIGHBOUR: 'it returns false'. Refute it at one input. -/
def fnExactSolidNamedWrong : ChangeSpec := { name := "fnExactSolidNamed", fn := fun _ => fun
  | [d1, d2] => { results := [.lit (.bool false)], args := [d1, d2] }
  | _ => none }
def FnExactSolidNamedWrongFalsely : Prop := fnExactSolidNamedRow.holds Try.pinned (OpenSpec.ofChange fnExactSolidNamedWrong)

/-- 'laws.FnExactSolidLeast': WHATEVER THE INPUT: true; the input reads as it did. -/
def fnExactSolidLeastSpec : ChangeSpec := { name := "fnExactSolidLeast", fn := fun _ => fun
  | [d1, d2] => { results := [.lit (.bool true)], args := [d1, d2] }
  | _ => none }
def fnExactSolidLeastRow : OpenClaim := { program := "ytbjmgcdhfoelkaa", sum := "62c6688002cc386ad556376d07393ba989e10da13e42df559ffe5fed5c9745c3", func := "loop.example/closingsticks/laws.FnExactSolidLeast", spec := "fnExactSolidLeast", apart := false }
def FnExactSolidLeastSaid : Prop := fnExactSolidLeastRow.holds Try.pinned (OpenSpec.ofChange fnExactSolidLeastSpec)

/-- ITS FALSE NEIGHBOUR: 'it returns false'. Refute it at one input. -/
def fnExactSolidLeastWrong : ChangeSpec := { name := "fnExactSolidLeast", fn := fun _ => fun
  | [d1, d2] => { results := [.lit (.bool false)], args := [d1, d2] }
  | _ => none }
def FnExactSolidLeastWrongFalsely : Prop := fnExactSolidLeastRow.holds Try.pinned (OpenSpec.ofChange fnExactSolidLeastWrong)

/-- 'laws.FnSolidLeast': WHATEVER THE INPUT: true; the input reads as it did. -/
def fnSolidLeastSpec : ChangeSpec := { name := "fnSolidLeast", fn := fun _ => fun
  | [d] => { results := [.lit (.bool true)], args := [d] }
  | _ => none }
def fnSolidLeastRow : OpenClaim := { program := "ytbjmgcdhfoelkaa", sum := "62c6688002cc386ad556376d07393ba989e10da13e42df559ffe5fed5c9745c3", func := "loop.example/closingsticks/laws.FnSolidLeast", spec := "fnSolidLeast", apart := false }
def FnSolidLeastSaid : Prop := fnSolidLeastRow.holds Try.pinned (OpenSpec.ofChange fnSolidLeastSpec)

/-- ITS FALSE NEIGHBOUR: 'it returns false'. Refute it at one input. -/
def fnSolidLeastWrong : ChangeSpec := { name := "fnSolidLeast", fn := fun _ => fun
  | [d] => { results := [.lit (.bool false)], args := [d] }
  | _ => none }
def FnSolidLeastWrongFalsely : Prop := fnSolidLeastRow.holds Try.pinned (OpenSpec.ofChange fnSolidLeastWrong)

/-- 'laws.FnExactSolidFirst': WHATEVER THE INPUT: true; the input reads as it did. -/
def fnExactSolidFirstSpec : ChangeSpec := { name := "fnExactSolidFirst", fn := fun _ => fun
  | [d] => { results := [.lit (.bool true)], args := [d] }
  | _ => none }
def fnExactSolidFirstRow : OpenClaim := { program := "ytbjmgcdhfoelkaa", sum := "62c6688002cc386ad556376d07393ba989e10da13e42df559ffe5fed5c9745c3", func := "loop.example/closingsticks/laws.FnExactSolidFirst", spec := "fnExactSolidFirst", apart := false }
def FnExactSolidFirstSaid : Prop := fnExactSolidFirstRow.holds Try.pinned (OpenSpec.ofChange fnExactSolidFirstSpec)

/-- ITS FALSE NEIGHBOUR: 'it returns false'. Refute it at one input. -/
def fnExactSolidFirstWrong : ChangeSpec := { name := "fnExactSolidFirst", fn := fun _ => fun
  | [d] => { results := [.lit (.bool false)], args := [d] }
  | _ => none }
def FnExactSolidFirstWrongFalsely : Prop := fnExactSolidFirstRow.holds Try.pinned (OpenSpec.ofChange fnExactSolidFirstWrong)

/-- 'laws.FnExactSolidSame': WHATEVER THE INPUT: true; the input reads as it did. -/
def fnExactSolidSameSpec : ChangeSpec := { name := "fnExactSolidSame", fn := fun _ => fun
  | [d1, d2] => { results := [.lit (.bool true)], args := [d1, d2] }
  | _ => none }
def fnExactSolidSameRow : OpenClaim := { program := "ytbjmgcdhfoelkaa", sum := "62c6688002cc386ad556376d07393ba989e10da13e42df559ffe5fed5c9745c3", func := "loop.example/closingsticks/laws.FnExactSolidSame", spec := "fnExactSolidSame", apart := false }
def FnExactSolidSameSaid : Prop := fnExactSolidSameRow.holds Try.pinned (OpenSpec.ofChange fnExactSolidSameSpec)

/-- ITS FALSE NEIGHBOUR: 'it returns false'. Refute it at one input. -/
def fnExactSolidSameWrong : ChangeSpec := { name := "fnExactSolidSame", fn := fun _ => fun
  | [d1, d2] => { results := [.lit (.bool false)], args := [d1, d2] }
  | _ => none }
def FnExactSolidSameWrongFalsely : Prop := fnExactSolidSameRow.holds Try.pinned (OpenSpec.ofChange fnExactSolidSameWrong)

/-- 'laws.FnFaces': WHATEVER THE INPUT: true; the input reads as it did. -/
def fnFacesSpec : ChangeSpec := { name := "fnFaces", fn := fun _ => fun
  | [d] => { results := [.lit (.bool true)], args := [d] }
  | _ => none }
def fnFacesRow : OpenClaim := { program := "ytbjmgcdhfoelkaa", sum := "62c6688002cc386ad556376d07393ba989e10da13e42df559ffe5fed5c9745c3", func := "loop.example/closingsticks/laws.FnFaces", spec := "fnFaces", apart := false }
def FnFacesSaid : Prop := fnFacesRow.holds Try.pinned (OpenSpec.ofChange fnFacesSpec)

/-- ITS FALSE NEIGHBOUR: 'it returns false'. Refute it at one input. -/
def fnFacesWrong : ChangeSpec := { name := "fnFaces", fn := fun _ => fun
  | [d] => { results := [.lit (.bool false)], args := [d] }
  | _ => none }
def FnFacesWrongFalsely : Prop := fnFacesRow.holds Try.pinned (OpenSpec.ofChange fnFacesWrong)

/- THE SECOND FORM. 'bulk': how many values and letters a reading holds, each counted each time it is reached (what is shared counts as often as it is met; a slice's spare places count too). A statement '..UptoSaid' is the law's where the arguments, and the package variables that the reading takes, are together of bulk at most 1048576: NARROWER than '..Said'. Prove '..Said' where nothing that the law and all that it calls make is longer than what came in: it says more and counts as full. Else prove '..UptoSaid'. A law counts once. -/
mutual
def uptoBulk {H : Type} : DataW H → Nat
  | .lit (.string bytes) => bytes.length + 1
  | .lit _ => 1
  | .nil => 1
  | .ptr d => uptoBulk d + 1
  | .slice elems spare => uptoBulkAll elems + uptoBulkAll spare + 1
  | .agg parts => uptoBulkAll parts + 1
  | .iface _ d => uptoBulk d + 1
  | .map entries => uptoBulkEntries entries + 1
  | .held _ => 1
def uptoBulkAll {H : Type} : List (DataW H) → Nat
  | [] => 0
  | d :: r => uptoBulk d + uptoBulkAll r
def uptoBulkEntries {H : Type} : List (Lit × DataW H) → Nat
  | [] => 0
  | x :: r => uptoBulkEntry x + uptoBulkEntries r
def uptoBulkEntry {H : Type} : Lit × DataW H → Nat
  | (.string bytes, d) => bytes.length + uptoBulk d + 1
  | (_, d) => uptoBulk d + 1
 end
def uptoSmall : (H : Type) → List (DataW H) → Bool := fun _ ds => decide (uptoBulkAll ds ≤ 1048576)
def OpenSpec.upto (s : _root_.Go.ChangeSpec) : _root_.Go.OpenSpec := { _root_.Go.OpenSpec.ofChange s with cond := some uptoSmall }

/-- 'laws.FnExactSolidIn', WHERE WHAT IT READS IS OF BULK AT MOST 1048576: true; the input reads as it did. -/
def fnExactSolidInUptoRow : OpenClaim := { program := "ytbjmgcdhfoelkaa", sum := "62c6688002cc386ad556376d07393ba989e10da13e42df559ffe5fed5c9745c3", func := "loop.example/closingsticks/laws.FnExactSolidIn", spec := "fnExactSolidIn", apart := false, narrowed := true }
def FnExactSolidInUptoSaid : Prop := fnExactSolidInUptoRow.holds Try.pinned (OpenSpec.upto fnExactSolidInSpec)

/-- 'laws.FnExactSolidNumber', WHERE WHAT IT READS IS OF BULK AT MOST 1048576: true; the input reads as it did. -/
def fnExactSolidNumberUptoRow : OpenClaim := { program := "ytbjmgcdhfoelkaa", sum := "62c6688002cc386ad556376d07393ba989e10da13e42df559ffe5fed5c9745c3", func := "loop.example/closingsticks/laws.FnExactSolidNumber", spec := "fnExactSolidNumber", apart := false, narrowed := true }
def FnExactSolidNumberUptoSaid : Prop := fnExactSolidNumberUptoRow.holds Try.pinned (OpenSpec.upto fnExactSolidNumberSpec)

/-- 'laws.FnExactSolidFaces', WHERE WHAT IT READS IS OF BULK AT MOST 1048576: true; the input reads as it did. -/
def fnExactSolidFacesUptoRow : OpenClaim := { program := "ytbjmgcdhfoelkaa", sum := "62c6688002cc386ad556376d07393ba989e10da13e42df559ffe5fed5c9745c3", func := "loop.example/closingsticks/laws.FnExactSolidFaces", spec := "fnExactSolidFaces", apart := false, narrowed := true }
def FnExactSolidFacesUptoSaid : Prop := fnExactSolidFacesUptoRow.holds Try.pinned (OpenSpec.upto fnExactSolidFacesSpec)

/-- 'laws.FnSolid', WHERE WHAT IT READS IS OF BULK AT MOST 1048576: true; the input reads as it did. -/
def fnSolidUptoRow : OpenClaim := { program := "ytbjmgcdhfoelkaa", sum := "62c6688002cc386ad556376d07393ba989e10da13e42df559ffe5fed5c9745c3", func := "loop.example/closingsticks/laws.FnSolid", spec := "fnSolid", apart := false, narrowed := true }
def FnSolidUptoSaid : Prop := fnSolidUptoRow.holds Try.pinned (OpenSpec.upto fnSolidSpec)

/-- 'laws.FnExactSolidStands', WHERE WHAT IT READS IS OF BULK AT MOST 1048576: true; the input reads as it did. -/
def fnExactSolidStandsUptoRow : OpenClaim := { program := "ytbjmgcdhfoelkaa", sum := "62c6688002cc386ad556376d07393ba989e10da13e42df559ffe5fed5c9745c3", func := "loop.example/closingsticks/laws.FnExactSolidStands", spec := "fnExactSolidStands", apart := false, narrowed := true }
def FnExactSolidStandsUptoSaid : Prop := fnExactSolidStandsUptoRow.holds Try.pinned (OpenSpec.upto fnExactSolidStandsSpec)

/-- 'laws.FnNumber', WHERE WHAT IT READS IS OF BULK AT MOST 1048576: true; the input reads as it did. -/
def fnNumberUptoRow : OpenClaim := { program := "ytbjmgcdhfoelkaa", sum := "62c6688002cc386ad556376d07393ba989e10da13e42df559ffe5fed5c9745c3", func := "loop.example/closingsticks/laws.FnNumber", spec := "fnNumber", apart := false, narrowed := true }
def FnNumberUptoSaid : Prop := fnNumberUptoRow.holds Try.pinned (OpenSpec.upto fnNumberSpec)

/-- 'laws.FnExactSolidNamed', WHERE WHAT IT READS IS OF BULK AT MOST 1048576: true; the input reads as it did. -/
def fnExactSolidNamedUptoRow : OpenClaim := { program := "ytbjmgcdhfoelkaa", sum := "62c6688002cc386ad556376d07393ba989e10da13e42df559ffe5fed5c9745c3", func := "loop.example/closingsticks/laws.FnExactSolidNamed", spec := "fnExactSolidNamed", apart := false, narrowed := true }
def FnExactSolidNamedUptoSaid : Prop := fnExactSolidNamedUptoRow.holds Try.pinned (OpenSpec.upto fnExactSolidNamedSpec)

/-- 'laws.FnExactSolidLeast', WHERE WHAT IT READS IS OF BULK AT MOST 1048576: true; the input reads as it did. -/
def fnExactSolidLeastUptoRow : OpenClaim := { program := "ytbjmgcdhfoelkaa", sum := "62c6688002cc386ad556376d07393ba989e10da13e42df559ffe5fed5c9745c3", func := "loop.example/closingsticks/laws.FnExactSolidLeast", spec := "fnExactSolidLeast", apart := false, narrowed := true }
def FnExactSolidLeastUptoSaid : Prop := fnExactSolidLeastUptoRow.holds Try.pinned (OpenSpec.upto fnExactSolidLeastSpec)

/-- 'laws.FnSolidLeast', WHERE WHAT IT READS IS OF BULK AT MOST 1048576: true; the input reads as it did. -/
def fnSolidLeastUptoRow : OpenClaim := { program := "ytbjmgcdhfoelkaa", sum := "62c6688002cc386ad556376d07393ba989e10da13e42df559ffe5fed5c9745c3", func := "loop.example/closingsticks/laws.FnSolidLeast", spec := "fnSolidLeast", apart := false, narrowed := true }
def FnSolidLeastUptoSaid : Prop := fnSolidLeastUptoRow.holds Try.pinned (OpenSpec.upto fnSolidLeastSpec)

/-- 'laws.FnExactSolidFirst', WHERE WHAT IT READS IS OF BULK AT MOST 1048576: true; the input reads as it did. -/
def fnExactSolidFirstUptoRow : OpenClaim := { program := "ytbjmgcdhfoelkaa", sum := "62c6688002cc386ad556376d07393ba989e10da13e42df559ffe5fed5c9745c3", func := "loop.example/closingsticks/laws.FnExactSolidFirst", spec := "fnExactSolidFirst", apart := false, narrowed := true }
def FnExactSolidFirstUptoSaid : Prop := fnExactSolidFirstUptoRow.holds Try.pinned (OpenSpec.upto fnExactSolidFirstSpec)

/-- 'laws.FnExactSolidSame', WHERE WHAT IT READS IS OF BULK AT MOST 1048576: true; the input reads as it did. -/
def fnExactSolidSameUptoRow : OpenClaim := { program := "ytbjmgcdhfoelkaa", sum := "62c6688002cc386ad556376d07393ba989e10da13e42df559ffe5fed5c9745c3", func := "loop.example/closingsticks/laws.FnExactSolidSame", spec := "fnExactSolidSame", apart := false, narrowed := true }
def FnExactSolidSameUptoSaid : Prop := fnExactSolidSameUptoRow.holds Try.pinned (OpenSpec.upto fnExactSolidSameSpec)

/-- 'laws.FnFaces', WHERE WHAT IT READS IS OF BULK AT MOST 1048576: true; the input reads as it did. -/
def fnFacesUptoRow : OpenClaim := { program := "ytbjmgcdhfoelkaa", sum := "62c6688002cc386ad556376d07393ba989e10da13e42df559ffe5fed5c9745c3", func := "loop.example/closingsticks/laws.FnFaces", spec := "fnFaces", apart := false, narrowed := true }
def FnFacesUptoSaid : Prop := fnFacesUptoRow.holds Try.pinned (OpenSpec.upto fnFacesSpec)

end Rows
end Go.Proofs.Ytbjmgcdhfoelkaa
