import Derived.Test.YtpopdfffcokilaaCvx
/- Directions in half planes; areas of steps in order; no order has a greater area. No program in sight. -/
set_option linter.unusedVariables false
set_option linter.unusedSimpArgs false
namespace Go.Proofs.Ytpopdfffcokilaa.Iso
open Go.Proofs.Ytpopdfffcokilaa.Pth Go.Proofs.Ytpopdfffcokilaa.Srt Go.Proofs.Ytpopdfffcokilaa.Cvx
theorem half_zero (v : V) : half v = 0 ↔ v.2 > 0 ∨ (v.2 = 0 ∧ v.1 > 0) := by
  unfold half
  split
  · simp; omega
  · split
    · simp; omega
    · simp; omega
theorem half_one (v : V) : half v = 1 ↔ v.2 < 0 ∨ (v.2 = 0 ∧ v.1 ≤ 0) := by
  unfold half
  split
  · simp; omega
  · split
    · simp; omega
    · simp; omega
theorem half_cases (v : V) : half v = 0 ∨ half v = 1 := by
  rw [half_zero, half_one]; omega
theorem cr_swap (a b : V) : cr b a = -cr a b := by unfold cr; grind
/-- Three directions: the identity, its second coordinate. -/
theorem three (a b c : V) : cr a c * b.2 = cr a b * c.2 + cr b c * a.2 := by unfold cr; grind
theorem mul_nn {a b : Int} (ha : 0 ≤ a) (hb : 0 ≤ b) : 0 ≤ a * b := Int.mul_nonneg ha hb
theorem nn_of_mul {a b : Int} (hb : 0 < b) (h : 0 ≤ a * b) : 0 ≤ a := by
  by_cases c : 0 ≤ a
  · exact c
  · exfalso
    have := Int.mul_lt_mul_of_pos_right (show a < 0 by omega) hb
    omega
/-- In the upper half, to the left of is transitive. -/
theorem up_trans {a b c : V} (ha : half a = 0) (hb : half b = 0) (hc : half c = 0) (h1 : 0 ≤ cr a b) (h2 : 0 ≤ cr b c) : 0 ≤ cr a c := by
  rw [half_zero] at ha hb hc
  by_cases k : b.2 > 0
  · apply nn_of_mul k
    rw [three a b c]
    have := mul_nn h1 (show 0 ≤ c.2 by omega)
    have := mul_nn h2 (show 0 ≤ a.2 by omega)
    omega
  · have b2 : b.2 = 0 := by omega
    have b1 : 0 < b.1 := by omega
    have e : cr a b = -(a.2 * b.1) := by unfold cr; rw [b2]; grind
    have a2 : a.2 = 0 := by
      by_cases z : a.2 > 0
      · have := Int.mul_pos z b1; omega
      · omega
    have a1 : 0 < a.1 := by omega
    have : cr a c = a.1 * c.2 := by unfold cr; rw [a2]; grind
    rw [this]
    exact mul_nn (by omega) (by omega)
theorem lower_neg {v : V} (h : half v = 1) (hz : v.1 ≠ 0 ∨ v.2 ≠ 0) : half (neg v) = 0 := by
  rw [half_one] at h
  rw [half_zero]
  unfold neg
  dsimp only
  omega
theorem cr_neg (a b : V) : cr (neg a) (neg b) = cr a b := by unfold cr neg; grind
theorem low_trans {a b c : V} (ha : half a = 1) (hb : half b = 1) (hc : half c = 1) (za : a.1 ≠ 0 ∨ a.2 ≠ 0) (zb : b.1 ≠ 0 ∨ b.2 ≠ 0) (zc : c.1 ≠ 0 ∨ c.2 ≠ 0) (h1 : 0 ≤ cr a b) (h2 : 0 ≤ cr b c) : 0 ≤ cr a c := by
  have := up_trans (lower_neg ha za) (lower_neg hb zb) (lower_neg hc zc) (by rw [cr_neg]; exact h1) (by rw [cr_neg]; exact h2)
  rwa [cr_neg] at this
/-! ### sums of crosses -/
def cs (v : V) (l : List V) : Int := v.1 * sy l - v.2 * sx l
/-- The sum of crosses without signs. -/
def fa (v : V) : List V → Int
  | [] => 0
  | u :: l => (cr v u).natAbs + fa v l
def T : List V → Int
  | [] => 0
  | v :: l => fa v l + T l
def ups (l : List V) : List V := l.filter (fun v => half v == 0)
def lows (l : List V) : List V := l.filter (fun v => !(half v == 0))
def Sm (l : List V) : Int := T (ups l) + T (lows l)
theorem ups_cons_0 {v : V} (h : half v = 0) (t : List V) : ups (v :: t) = v :: ups t ∧ lows (v :: t) = lows t := by
  unfold ups lows
  constructor <;> simp [h]
theorem ups_cons_1 {v : V} (h : half v = 1) (t : List V) : ups (v :: t) = ups t ∧ lows (v :: t) = v :: lows t := by
  unfold ups lows
  constructor <;> simp [h]
theorem ups_half (l : List V) : ∀ v ∈ ups l, half v = 0 := by
  intro v hv
  have := (List.mem_filter.1 hv).2
  simpa using this
theorem mul_np {a b : Int} (ha : 0 ≤ a) (hb : b ≤ 0) : a * b ≤ 0 := by
  have := mul_nn ha (show 0 ≤ -b by omega)
  rw [Int.mul_neg] at this
  omega
end Go.Proofs.Ytpopdfffcokilaa.Iso
