import Derived.Test.YtpopdfffcokilaaPth
/- Rims: greatest common divisors, and their evenness together with areas. No program in sight. -/
set_option linter.unusedVariables false
set_option linter.unusedSimpArgs false
namespace Go.Proofs.Ytpopdfffcokilaa.Rim
open Go.Proofs.Ytpopdfffcokilaa.Pth
def dv (v : V) : Int := (Int.gcd v.1 v.2 : Nat)
def rim (q : List V) : Int := (q.map dv).sum
theorem rim_nil : rim [] = 0 := rfl
theorem rim_append (a b : List V) : rim (a ++ b) = rim a + rim b := by simp [rim]
theorem rim_snoc (a : List V) (v : V) : rim (a ++ [v]) = rim a + dv v := by rw [rim_append]; simp [rim]
theorem dv_rot (v : V) : dv (rot v) = dv v := by
  unfold dv rot
  dsimp only
  rw [Int.neg_gcd, Int.gcd_comm]
theorem rim_turn (q : List V) : rim (turn q) = rim q := by
  unfold rim turn
  rw [List.map_map]
  congr 1
  apply List.map_congr_left
  intro v _
  exact dv_rot v
theorem dv_pos {v : V} (h : v.1 ≠ 0 ∨ v.2 ≠ 0) : 1 ≤ dv v := by
  unfold dv
  have : 0 < Int.gcd v.1 v.2 := by
    rcases h with h | h
    · exact Int.gcd_pos_of_ne_zero_left _ h
    · exact Int.gcd_pos_of_ne_zero_right _ h
  omega
theorem dv_le {v : V} (h : stepV v) : dv v ≤ 9 := by
  unfold dv
  simp only [stepV] at h
  by_cases c : v.1 = 0
  · have d : v.2 ≠ 0 := by omega
    have := Int.gcd_le_natAbs_right v.1 d
    omega
  · have := Int.gcd_le_natAbs_left v.2 c
    omega
theorem rim_bound {q : List V} (h : ∀ v ∈ q, stepV v) : (q.length : Int) ≤ rim q ∧ rim q ≤ 9 * q.length := by
  induction q with
  | nil => simp [rim]
  | cons v t ih =>
    have h1 := h v (by simp)
    have h2 := ih (fun u hu => h u (by simp [hu]))
    have h3 := dv_le h1
    have h4 : 1 ≤ dv v := dv_pos h1.2.2.2.2
    have e : rim (v :: t) = dv v + rim t := by simp [rim]
    rw [e, List.length_cons]
    omega
/-- 1 just if x or y is odd. -/
def odd (x y : Int) : Int := if x % 2 = 0 ∧ y % 2 = 0 then 0 else 1
end Go.Proofs.Ytpopdfffcokilaa.Rim
