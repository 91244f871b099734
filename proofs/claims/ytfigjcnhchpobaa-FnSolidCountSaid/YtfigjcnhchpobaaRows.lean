/-
  No cell of these rows narrows 'for every input' (looked for: loops, veiled, ifaces, maps, wideKeys, modest, calm, conditions, laid).
  DERIVED. THE GIVEN ROWS OF THIS SEAT. 3 by the template 'for every input the law returns true; each argument reads behind the call as it read before'; 0 by the template 'total and deterministic' (their statements: YtfigjcnhchpobaaTotals.lean).
  GIVEN WITH THE SEED: the statements are not yours to turn. If you find one false, say at which input.
  Laid BY PROGRAM, IN A SANDBOX (cutbox-rows.mjs): the forced cells as the released guide's own fill.sh prints them over the translation 117a0e3e11c5c9ab… (all of the seat's roots in one cut). By AI agents, Wed Nov 11 2026. No macro, syntax, notation, axiom, sorry.
-/
import Derived.Test.YtfigjcnhchpobaaChecked
import GoSem.Claim
import GoSem.ClaimJoined
import GoSem.ClaimMapViews
import Derived.JoinedTies
import Derived.KernelRfl
namespace Go.Proofs.Ytfigjcnhchpobaa
/- THE CELL 'sum', in the pinned program and in every row, IS THE sha256 OF THE DUMP (.gsa) THAT YtfigjcnhchpobaaProg.lean LOADS. Nothing in Lean hashes anything: it is a label: what it is worth is what the hold of that sum in a sandbox is worth. -/
noncomputable def Try.pinned : Pinned := { name := "ytfigjcnhchpobaa", sum := "117a0e3e11c5c9ab9f35cead18d17555e7056ca8b8fac2533fca4975775cb073", checked := Try.checked }
namespace Rows
def none {H : Type} : Left H := { results := [], args := [] }

/-- 'laws.FnExactSolidCount': WHATEVER THE INPUT: true; the input reads as it did. -/
def fnExactSolidCountSpec : ChangeSpec := { name := "fnExactSolidCount", fn := fun _ => fun
  | [d] => { results := [.lit (.bool true)], args := [d] }
  | _ => none }
def fnExactSolidCountRow : OpenClaim := { program := "ytfigjcnhchpobaa", sum := "117a0e3e11c5c9ab9f35cead18d17555e7056ca8b8fac2533fca4975775cb073", func := "loop.example/closingsticks/laws.FnExactSolidCount", spec := "fnExactSolidCount", unfollowed := true, recurses := true, apart := false }
def FnExactSolidCountSaid : Prop := fnExactSolidCountRow.holds Try.pinned (OpenSpec.ofChange fnExactSolidCountSpec)

/-- ITS FALSE NEIGHBOUR: 'it returns false'. Refute it at one input. -/
def fnExactSolidCountWrong : ChangeSpec := { name := "fnExactSolidCount", fn := fun _ => fun
  | [d] => { results := [.lit (.bool false)], args := [d] }
  | _ => none }
def FnExactSolidCountWrongFalsely : Prop := fnExactSolidCountRow.holds Try.pinned (OpenSpec.ofChange fnExactSolidCountWrong)

/-- 'laws.FnSolidCount': WHATEVER THE INPUT: true; the input reads as it did. -/
def fnSolidCountSpec : ChangeSpec := { name := "fnSolidCount", fn := fun _ => fun
  | [d] => { results := [.lit (.bool true)], args := [d] }
  | _ => none }
def fnSolidCountRow : OpenClaim := { program := "ytfigjcnhchpobaa", sum := "117a0e3e11c5c9ab9f35cead18d17555e7056ca8b8fac2533fca4975775cb073", func := "loop.example/closingsticks/laws.FnSolidCount", spec := "fnSolidCount", unfollowed := true, recurses := true, apart := false }
def FnSolidCountSaid : Prop := fnSolidCountRow.holds Try.pinned (OpenSpec.ofChange fnSolidCountSpec)

/-- ITS FALSE NEIGHBOUR: 'it returns false'. Refute it at one input. -/
def fnSolidCountWrong : ChangeSpec := { name := "fnSolidCount", fn := fun _ => fun
  | [d] => { results := [.lit (.bool false)], args := [d] }
  | _ => none }
def FnSolidCountWrongFalsely : Prop := fnSolidCountRow.holds Try.pinned (OpenSpec.ofChange fnSolidCountWrong)

/-- 'laws.FnEqual': WHATEVER THE INPUT: true; the input reads as it did. -/
def fnEqualSpec : ChangeSpec := { name := "fnEqual", fn := fun _ => fun
  | [d] => { results := [.lit (.bool true)], args := [d] }
  | _ => none }
def fnEqualRow : OpenClaim := { program := "ytfigjcnhchpobaa", sum := "117a0e3e11c5c9ab9f35cead18d17555e7056ca8b8fac2533fca4975775cb073", func := "loop.example/closingsticks/laws.FnEqual", spec := "fnEqual", unfollowed := true, recurses := true, apart := false }
def FnEqualSaid : Prop := fnEqualRow.holds Try.pinned (OpenSpec.ofChange fnEqualSpec)

/-- ITS FALSE NEIGHBOUR: 'it returns false'. Refute it at one input. -/
def fnEqualWrong : ChangeSpec := { name := "fnEqual", fn := fun _ => fun
  | [d] => { results := [.lit (.bool false)], args := [d] }
  | _ => none }
def FnEqualWrongFalsely : Prop := fnEqualRow.holds Try.pinned (OpenSpec.ofChange fnEqualWrong)

/- THE SECOND FORM. 'bulk': how many values and letters a reading holds, each counted each time it is reached (what is shared counts as often as it is met; a slice's spare places count too). A statement '..UptoSaid' is the law's where the arguments, and the package variables that the reading takes, are together of bulk at most 1048576: NARROWER than '..Said'. Prove '..Said' where nothing that the law and all that it calls make is longer than what came in: it says more and counts as full. Else prove '..UptoSaid'. A law counts once. -/
mutual
def uptoBulk {H : Type} : DataW H → Nat
  | .lit (.string bytes) => bytes.length + 1
  | .lit _ => 1
  | .nil => 1
  | .ptr d => uptoBulk d + 1
  | .slice elems spare => uptoBulkAll elems + uptoBulkAll spare + 1
  | .agg parts => uptoBulkAll parts + 1
  | .iface _ d => uptoBulk d + 1
  | .map entries => uptoBulkEntries entries + 1
  | .held _ => 1
def uptoBulkAll {H : Type} : List (DataW H) → Nat
  | [] => 0
  | d :: r => uptoBulk d + uptoBulkAll r
def uptoBulkEntries {H : Type} : List (Lit × DataW H) → Nat
  | [] => 0
  | x :: r => uptoBulkEntry x + uptoBulkEntries r
def uptoBulkEntry {H : Type} : Lit × DataW H → Nat
  | (.string bytes, d) => bytes.length + uptoBulk d + 1
  | (_, d) => uptoBulk d + 1
 end
def uptoSmall : (H : Type) → List (DataW H) → Bool := fun _ ds => decide (uptoBulkAll ds ≤ 1048576)
def OpenSpec.upto (s : _root_.Go.ChangeSpec) : _root_.Go.OpenSpec := { _root_.Go.OpenSpec.ofChange s with cond := some uptoSmall }

/-- 'laws.FnExactSolidCount', WHERE WHAT IT READS IS OF BULK AT MOST 1048576: true; the input reads as it did. -/
def fnExactSolidCountUptoRow : OpenClaim := { program := "ytfigjcnhchpobaa", sum := "117a0e3e11c5c9ab9f35cead18d17555e7056ca8b8fac2533fca4975775cb073", func := "loop.example/closingsticks/laws.FnExactSolidCount", spec := "fnExactSolidCount", unfollowed := true, recurses := true, apart := false, narrowed := true }
def FnExactSolidCountUptoSaid : Prop := fnExactSolidCountUptoRow.holds Try.pinned (OpenSpec.upto fnExactSolidCountSpec)

/-- 'laws.FnSolidCount', WHERE WHAT IT READS IS OF BULK AT MOST 1048576: true; the input reads as it did. -/
def fnSolidCountUptoRow : OpenClaim := { program := "ytfigjcnhchpobaa", sum := "117a0e3e11c5c9ab9f35cead18d17555e7056ca8b8fac2533fca4975775cb073", func := "loop.example/closingsticks/laws.FnSolidCount", spec := "fnSolidCount", unfollowed := true, recurses := true, apart := false, narrowed := true }
def FnSolidCountUptoSaid : Prop := fnSolidCountUptoRow.holds Try.pinned (OpenSpec.upto fnSolidCountSpec)

/-- 'laws.FnEqual', WHERE WHAT IT READS IS OF BULK AT MOST 1048576: true; the input reads as it did. -/
def fnEqualUptoRow : OpenClaim := { program := "ytfigjcnhchpobaa", sum := "117a0e3e11c5c9ab9f35cead18d17555e7056ca8b8fac2533fca4975775cb073", func := "loop.example/closingsticks/laws.FnEqual", spec := "fnEqual", unfollowed := true, recurses := true, apart := false, narrowed := true }
def FnEqualUptoSaid : Prop := fnEqualUptoRow.holds Try.pinned (OpenSpec.upto fnEqualSpec)

end Rows
end Go.Proofs.Ytfigjcnhchpobaa
