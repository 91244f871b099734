import Derived.Test.YtfigjcnhchpobaaBase
import Derived.Test.YtfigjcnhchpobaaSol
/- Faces of solids. No program in sight. -/
set_option linter.unusedVariables false
set_option linter.unusedSimpArgs false
namespace Go.Proofs.Ytfigjcnhchpobaa.Face
open Go.Proofs.Ytfigjcnhchpobaa.Sol
def tri (a b c : Int) : Bool := decide (a < b + c) && (decide (b < a + c) && decide (c < a + b))
def one (b : Bool) : Int := if b = true then 1 else 0
theorem one_bound (b : Bool) : 0 ≤ one b ∧ one b ≤ 1 := by unfold one; split <;> omega
theorem one_true : one true = 1 := rfl
theorem one_false : one false = 0 := rfl
theorem one_one (b : Bool) : one b = 1 ↔ b = true := by cases b <;> simp [one]
def faces6 (a b c d e f : Int) : Int := one (tri d e f) + one (tri b c f) + one (tri a c e) + one (tri a b d)
def facesN (l : List Int) : Int := faces6 (l.getD 0 0) (l.getD 1 0) (l.getD 2 0) (l.getD 3 0) (l.getD 4 0) (l.getD 5 0)
def facesA (l : List Int) : Int × Bool := if solB l = true then (facesN l, true) else (0, false)
theorem faces_bound (a b c d e f : Int) : 0 ≤ faces6 a b c d e f ∧ faces6 a b c d e f ≤ 4 := by
  have h1 := one_bound (tri d e f); have h2 := one_bound (tri b c f); have h3 := one_bound (tri a c e); have h4 := one_bound (tri a b d)
  unfold faces6; omega
theorem faces_four (a b c d e f : Int) : faces6 a b c d e f = 4 ↔ tri d e f = true ∧ tri b c f = true ∧ tri a c e = true ∧ tri a b d = true := by
  have h1 := one_bound (tri d e f); have h2 := one_bound (tri b c f); have h3 := one_bound (tri a c e); have h4 := one_bound (tri a b d)
  rw [← one_one, ← one_one, ← one_one, ← one_one]
  unfold faces6; omega
end Go.Proofs.Ytfigjcnhchpobaa.Face
