import Derived.Test.YtdjddfeokpmfaaaPth
/- The box of a path: least and greatest coordinates of corners. No program in sight. -/
set_option linter.unusedVariables false
set_option linter.unusedSimpArgs false
namespace Go.Proofs.Ytdjddfeokpmfaaa.Box
open Go.Proofs.Ytdjddfeokpmfaaa.Pth
def lo (f : Nat → Int) : Nat → Int
  | 0 => 0
  | i + 1 => min (lo f i) (f i)
def hi (f : Nat → Int) : Nat → Int
  | 0 => 0
  | i + 1 => max (hi f i) (f i)
def px (q : List V) (i : Nat) : Int := sx (q.take i)
def py (q : List V) (i : Nat) : Int := sy (q.take i)
def wx (q : List V) : Int := hi (px q) q.length - lo (px q) q.length
def wy (q : List V) : Int := hi (py q) q.length - lo (py q) q.length
end Go.Proofs.Ytdjddfeokpmfaaa.Box
