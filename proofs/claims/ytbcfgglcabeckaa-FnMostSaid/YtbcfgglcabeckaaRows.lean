/-
  No cell of these rows narrows 'for every input' (looked for: loops, veiled, ifaces, maps, wideKeys, modest, calm, conditions, laid).
  DERIVED. THE GIVEN ROWS OF THIS SEAT. 4 by the template 'for every input the law returns true; each argument reads behind the call as it read before'; 0 by the template 'total and deterministic' (their statements: YtbcfgglcabeckaaTotals.lean).
  GIVEN WITH THE SEED: the statements are not yours to turn. If you find one false, say at which input.
  Laid BY PROGRAM, IN A SANDBOX (cutbox-rows.mjs): the forced cells as the released guide's own fill.sh prints them over the translation af4d3c399fc7952d… (all of the seat's roots in one cut). By AI agents, Wed Nov 11 2026. No macro, syntax, notation, axiom, sorry.
-/
import Derived.Test.YtbcfgglcabeckaaChecked
import GoSem.Claim
import GoSem.ClaimJoined
import GoSem.ClaimMapViews
import Derived.JoinedTies
import Derived.KernelRfl
namespace Go.Proofs.Ytbcfgglcabeckaa
/- THE CELL 'sum', in the pinned program and in every row, IS THE sha256 OF THE DUMP (.gsa) THAT YtbcfgglcabeckaaProg.lean LOADS. Nothing in Lean hashes anything: it is a label: what it is worth is what the hold of that sum in a sandbox is worth. -/
noncomputable def Try.pinned : Pinned := { name := "ytbcfgglcabeckaa", sum := "af4d3c399fc7952df52d7442f7d293f16534885329557e43feab4027049e487d", checked := Try.checked }
namespace Rows
def none {H : Type} : Left H := { results := [], args := [] }

/-- 'laws.FnExactOrderMost': WHATEVER THE INPUT: true; the input reads as it did. -/
def fnExactOrderMostSpec : ChangeSpec := { name := "fnExactOrderMost", fn := fun _ => fun
  | [d] => { results := [.lit (.bool true)], args := [d] }
  | _ => none }
def fnExactOrderMostRow : OpenClaim := { program := "ytbcfgglcabeckaa", sum := "af4d3c399fc7952df52d7442f7d293f16534885329557e43feab4027049e487d", func := "loop.example/closingsticks/laws.FnExactOrderMost", spec := "fnExactOrderMost", unfollowed := true, recurses := true, apart := false }
def FnExactOrderMostSaid : Prop := fnExactOrderMostRow.holds Try.pinned (OpenSpec.ofChange fnExactOrderMostSpec)

/-- ITS FALSE NEIGHBOUR: 'it returns false'. Refute it at one input. -/
def fnExactOrderMostWrong : ChangeSpec := { name := "fnExactOrderMost", fn := fun _ => fun
  | [d] => { results := [.lit (.bool false)], args := [d] }
  | _ => none }
def FnExactOrderMostWrongFalsely : Prop := fnExactOrderMostRow.holds Try.pinned (OpenSpec.ofChange fnExactOrderMostWrong)

/-- 'laws.FnMost': WHATEVER THE INPUT: true; the input reads as it did. -/
def fnMostSpec : ChangeSpec := { name := "fnMost", fn := fun _ => fun
  | [d] => { results := [.lit (.bool true)], args := [d] }
  | _ => none }
def fnMostRow : OpenClaim := { program := "ytbcfgglcabeckaa", sum := "af4d3c399fc7952df52d7442f7d293f16534885329557e43feab4027049e487d", func := "loop.example/closingsticks/laws.FnMost", spec := "fnMost", unfollowed := true, recurses := true, apart := false }
def FnMostSaid : Prop := fnMostRow.holds Try.pinned (OpenSpec.ofChange fnMostSpec)

/-- ITS FALSE NEIGHBOUR: 'it returns false'. Refute it at one input. -/
def fnMostWrong : ChangeSpec := { name := "fnMost", fn := fun _ => fun
  | [d] => { results := [.lit (.bool false)], args := [d] }
  | _ => none }
def FnMostWrongFalsely : Prop := fnMostRow.holds Try.pinned (OpenSpec.ofChange fnMostWrong)

/-- 'laws.FnExactOrderLattice': WHATEVER THE INPUT: true; the input reads as it did. -/
def fnExactOrderLatticeSpec : ChangeSpec := { name := "fnExactOrderLattice", fn := fun _ => fun
  | [d] => { results := [.lit (.bool true)], args := [d] }
  | _ => none }
def fnExactOrderLatticeRow : OpenClaim := { program := "ytbcfgglcabeckaa", sum := "af4d3c399fc7952df52d7442f7d293f16534885329557e43feab4027049e487d", func := "loop.example/closingsticks/laws.FnExactOrderLattice", spec := "fnExactOrderLattice", unfollowed := true, recurses := true, apart := false }
def FnExactOrderLatticeSaid : Prop := fnExactOrderLatticeRow.holds Try.pinned (OpenSpec.ofChange fnExactOrderLatticeSpec)

/-- ITS FALSE NEIGHBOUR: 'it returns false'. Refute it at one input. -/
def fnExactOrderLatticeWrong : ChangeSpec := { name := "fnExactOrderLattice", fn := fun _ => fun
  | [d] => { results := [.lit (.bool false)], args := [d] }
  | _ => none }
def FnExactOrderLatticeWrongFalsely : Prop := fnExactOrderLatticeRow.holds Try.pinned (OpenSpec.ofChange fnExactOrderLatticeWrong)

/-- 'laws.FnOrderLattice': WHATEVER THE INPUT: true; the input reads as it did. -/
def fnOrderLatticeSpec : ChangeSpec := { name := "fnOrderLattice", fn := fun _ => fun
  | [d] => { results := [.lit (.bool true)], args := [d] }
  | _ => none }
def fnOrderLatticeRow : OpenClaim := { program := "ytbcfgglcabeckaa", sum := "af4d3c399fc7952df52d7442f7d293f16534885329557e43feab4027049e487d", func := "loop.example/closingsticks/laws.FnOrderLattice", spec := "fnOrderLattice", unfollowed := true, recurses := true, apart := false }
def FnOrderLatticeSaid : Prop := fnOrderLatticeRow.holds Try.pinned (OpenSpec.ofChange fnOrderLatticeSpec)

/-- ITS FALSE NEIGHBOUR: 'it returns false'. Refute it at one input. -/
def fnOrderLatticeWrong : ChangeSpec := { name := "fnOrderLattice", fn := fun _ => fun
  | [d] => { results := [.lit (.bool false)], args := [d] }
  | _ => none }
def FnOrderLatticeWrongFalsely : Prop := fnOrderLatticeRow.holds Try.pinned (OpenSpec.ofChange fnOrderLatticeWrong)

/- THE SECOND FORM. 'bulk': how many values and letters a reading holds, each counted each time it is reached (what is shared counts as often as it is met; a slice's spare places count too). A statement '..UptoSaid' is the law's where the arguments, and the package variables that the reading takes, are together of bulk at most 1048576: NARROWER than '..Said'. Prove '..Said' where nothing that the law and all that it calls make is longer than what came in: it says more and counts as full. Else prove '..UptoSaid'. A law counts once. -/
mutual
def uptoBulk {H : Type} : DataW H → Nat
  | .lit (.string bytes) => bytes.length + 1
  | .lit _ => 1
  | .nil => 1
  | .ptr d => uptoBulk d + 1
  | .slice elems spare => uptoBulkAll elems + uptoBulkAll spare + 1
  | .agg parts => uptoBulkAll parts + 1
  | .iface _ d => uptoBulk d + 1
  | .map entries => uptoBulkEntries entries + 1
  | .held _ => 1
def uptoBulkAll {H : Type} : List (DataW H) → Nat
  | [] => 0
  | d :: r => uptoBulk d + uptoBulkAll r
def uptoBulkEntries {H : Type} : List (Lit × DataW H) → Nat
  | [] => 0
  | x :: r => uptoBulkEntry x + uptoBulkEntries r
def uptoBulkEntry {H : Type} : Lit × DataW H → Nat
  | (.string bytes, d) => bytes.length + uptoBulk d + 1
  | (_, d) => uptoBulk d + 1
 end
def uptoSmall : (H : Type) → List (DataW H) → Bool := fun _ ds => decide (uptoBulkAll ds ≤ 1048576)
def OpenSpec.upto (s : _root_.Go.ChangeSpec) : _root_.Go.OpenSpec := { _root_.Go.OpenSpec.ofChange s with cond := some uptoSmall }

/-- 'laws.FnExactOrderMost', WHERE WHAT IT READS IS OF BULK AT MOST 1048576: true; the input reads as it did. -/
def fnExactOrderMostUptoRow : OpenClaim := { program := "ytbcfgglcabeckaa", sum := "af4d3c399fc7952df52d7442f7d293f16534885329557e43feab4027049e487d", func := "loop.example/closingsticks/laws.FnExactOrderMost", spec := "fnExactOrderMost", unfollowed := true, recurses := true, apart := false, narrowed := true }
def FnExactOrderMostUptoSaid : Prop := fnExactOrderMostUptoRow.holds Try.pinned (OpenSpec.upto fnExactOrderMostSpec)

/-- 'laws.FnMost', WHERE WHAT IT READS IS OF BULK AT MOST 1048576: true; the input reads as it did. -/
def fnMostUptoRow : OpenClaim := { program := "ytbcfgglcabeckaa", sum := "af4d3c399fc7952df52d7442f7d293f16534885329557e43feab4027049e487d", func := "loop.example/closingsticks/laws.FnMost", spec := "fnMost", unfollowed := true, recurses := true, apart := false, narrowed := true }
def FnMostUptoSaid : Prop := fnMostUptoRow.holds Try.pinned (OpenSpec.upto fnMostSpec)

/-- 'laws.FnExactOrderLattice', WHERE WHAT IT READS IS OF BULK AT MOST 1048576: true; the input reads as it did. -/
def fnExactOrderLatticeUptoRow : OpenClaim := { program := "ytbcfgglcabeckaa", sum := "af4d3c399fc7952df52d7442f7d293f16534885329557e43feab4027049e487d", func := "loop.example/closingsticks/laws.FnExactOrderLattice", spec := "fnExactOrderLattice", unfollowed := true, recurses := true, apart := false, narrowed := true }
def FnExactOrderLatticeUptoSaid : Prop := fnExactOrderLatticeUptoRow.holds Try.pinned (OpenSpec.upto fnExactOrderLatticeSpec)

/-- 'laws.FnOrderLattice', WHERE WHAT IT READS IS OF BULK AT MOST 1048576: true; the input reads as it did. -/
def fnOrderLatticeUptoRow : OpenClaim := { program := "ytbcfgglcabeckaa", sum := "af4d3c399fc7952df52d7442f7d293f16534885329557e43feab4027049e487d", func := "loop.example/closingsticks/laws.FnOrderLattice", spec := "fnOrderLattice", unfollowed := true, recurses := true, apart := false, narrowed := true }
def FnOrderLatticeUptoSaid : Prop := fnOrderLatticeUptoRow.holds Try.pinned (OpenSpec.upto fnOrderLatticeSpec)

end Rows
end Go.Proofs.Ytbcfgglcabeckaa
