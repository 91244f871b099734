import Derived.Test.YtdjddfeokpmfaaaPth
/- Rims: greatest common divisors, and their evenness together with areas. No program in sight. -/
set_option linter.unusedVariables false
set_option linter.unusedSimpArgs false
namespace Go.Proofs.Ytdjddfeokpmfaaa.Rim
open Go.Proofs.Ytdjddfeokpmfaaa.Pth
def dv (v : V) : Int := (Int.gcd v.1 v.2 : Nat)
def rim (q : List V) : Int := (q.map dv).sum
/-- 1 just if x or y is odd. -/
def odd (x y : Int) : Int := if x % 2 = 0 ∧ y % 2 = 0 then 0 else 1
end Go.Proofs.Ytdjddfeokpmfaaa.Rim
