import Derived.Test.YtdjddfeokpmfaaaPth
/- Rims: greatest common divisors, and their evenness together with areas. No program in sight. -/
set_option linter.unusedVariables false
set_option linter.unusedSimpArgs false
namespace Go.Proofs.Ytdjddfeokpmfaaa.Rim
open Go.Proofs.Ytdjddfeokpmfaaa.Pth
def dv (v : V) : Int := (Int.gcd v.1 v.2 : Nat)
def rim (q : List V) : Int := (q.map dv).sum
theorem rim_nil : rim [] = 0 := rfl
theorem rim_append (a b : List V) : rim (a ++ b) = rim a + rim b := by simp [rim]
theorem rim_snoc (a : List V) (v : V) : rim (a ++ [v]) = rim a + dv v := by rw [rim_append]; simp [rim]
theorem dv_rot (v : V) : dv (rot v) = dv v := by
  unfold dv rot
  dsimp only
  rw [Int.neg_gcd, Int.gcd_comm]
theorem dv_neg (v : V) : dv (neg v) = dv v := by
  unfold dv neg
  dsimp only
  rw [Int.neg_gcd, Int.gcd_neg]
theorem rim_turn (q : List V) : rim (turn q) = rim q := by
  unfold rim turn
  rw [List.map_map]
  congr 1
  apply List.map_congr_left
  intro v _
  exact dv_rot v
theorem dv_pos {v : V} (h : v.1 ≠ 0 ∨ v.2 ≠ 0) : 1 ≤ dv v := by
  unfold dv
  have : 0 < Int.gcd v.1 v.2 := by
    rcases h with h | h
    · exact Int.gcd_pos_of_ne_zero_left _ h
    · exact Int.gcd_pos_of_ne_zero_right _ h
  omega
theorem dv_le {v : V} (h : stepV v) : dv v ≤ 9 := by
  unfold dv
  simp only [stepV] at h
  by_cases c : v.1 = 0
  · have d : v.2 ≠ 0 := by omega
    have := Int.gcd_le_natAbs_right v.1 d
    omega
  · have := Int.gcd_le_natAbs_left v.2 c
    omega
theorem rim_bound {q : List V} (h : ∀ v ∈ q, stepV v) : (q.length : Int) ≤ rim q ∧ rim q ≤ 9 * q.length := by
  induction q with
  | nil => simp [rim]
  | cons v t ih =>
    have h1 := h v (by simp)
    have h2 := ih (fun u hu => h u (by simp [hu]))
    have h3 := dv_le h1
    have h4 : 1 ≤ dv v := dv_pos h1.2.2.2.2
    have e : rim (v :: t) = dv v + rim t := by simp [rim]
    rw [e, List.length_cons]
    omega
/-- 1 just if x or y is odd. -/
def odd (x y : Int) : Int := if x % 2 = 0 ∧ y % 2 = 0 then 0 else 1
theorem dv_odd (v : V) : dv v % 2 = odd v.1 v.2 := by
  unfold odd
  by_cases c : v.1 % 2 = 0 ∧ v.2 % 2 = 0
  · rw [if_pos c]
    have h1 : (2 : Int) ∣ v.1 := Int.dvd_of_emod_eq_zero c.1
    have h2 : (2 : Int) ∣ v.2 := Int.dvd_of_emod_eq_zero c.2
    have := Int.dvd_coe_gcd h1 h2
    unfold dv
    omega
  · rw [if_neg c]
    have h1 : ((Int.gcd v.1 v.2 : Nat) : Int) ∣ v.1 := Int.gcd_dvd_left ..
    have h2 : ((Int.gcd v.1 v.2 : Nat) : Int) ∣ v.2 := Int.gcd_dvd_right ..
    unfold dv
    by_cases e : ((Int.gcd v.1 v.2 : Nat) : Int) % 2 = 0
    · exfalso
      apply c
      obtain ⟨m, hm⟩ := Int.dvd_of_emod_eq_zero e
      obtain ⟨a, ha⟩ := h1
      obtain ⟨b, hb⟩ := h2
      rw [hm, Int.mul_assoc] at ha hb
      omega
    · omega
theorem mul_mod2 (x y : Int) : (x * y) % 2 = ((x % 2) * (y % 2)) % 2 := by rw [Int.mul_emod]
/-- Areas and rims so far, and the point reached: even together. -/
theorem even_so_far (q : List V) : (A q + rim q + odd (sx q) (sy q)) % 2 = 0 := by
  have key : ∀ n (q : List V), q.length = n → (A q + rim q + odd (sx q) (sy q)) % 2 = 0 := by
    intro n
    induction n with
    | zero =>
      intro q hq
      obtain rfl : q = [] := List.eq_nil_of_length_eq_zero hq
      decide
    | succ n ih =>
      intro q hq
      obtain ⟨t, v, rfl⟩ : ∃ t v, q = t ++ [v] := ⟨q.dropLast, q.getLast (by intro e; subst e; simp at hq), (List.dropLast_concat_getLast _).symm⟩
      have h := ih t (by simp at hq; exact hq)
      rw [A_snoc, rim_snoc, sx_append, sy_append]
      have ev := dv_odd v
      have e1 : sx [v] = v.1 := by simp [sx]
      have e2 : sy [v] = v.2 := by simp [sy]
      rw [e1, e2]
      have m1 := mul_mod2 (sx t) v.2
      have m2 := mul_mod2 (sy t) v.1
      have cx : sx t % 2 = 0 ∨ sx t % 2 = 1 := by omega
      have cy : sy t % 2 = 0 ∨ sy t % 2 = 1 := by omega
      have c1 : v.1 % 2 = 0 ∨ v.1 % 2 = 1 := by omega
      have c2 : v.2 % 2 = 0 ∨ v.2 % 2 = 1 := by omega
      unfold odd at h ev ⊢
      generalize sx t * v.2 = M at m1 ⊢
      generalize sy t * v.1 = N at m2 ⊢
      rcases cx with a | a <;> rcases cy with b | b <;> rcases c1 with c | c <;> rcases c2 with d | d <;>
        (rw [a, d] at m1; rw [b, c] at m2; simp only [a, b, c, d] at h ev; simp at h ev m1 m2; split <;> omega)
  exact key _ q rfl
theorem even_closed {q : List V} (hx : sx q = 0) (hy : sy q = 0) : (A q + rim q) % 2 = 0 := by
  have := even_so_far q
  rw [hx, hy] at this
  have e : odd 0 0 = 0 := by decide
  rw [e] at this
  omega
end Go.Proofs.Ytdjddfeokpmfaaa.Rim
