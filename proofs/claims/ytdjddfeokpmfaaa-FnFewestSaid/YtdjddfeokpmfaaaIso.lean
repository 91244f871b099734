import Derived.Test.YtdjddfeokpmfaaaCvx
/- Directions in half planes; areas of steps in order; no order has a greater area. No program in sight. -/
set_option linter.unusedVariables false
set_option linter.unusedSimpArgs false
namespace Go.Proofs.Ytdjddfeokpmfaaa.Iso
open Go.Proofs.Ytdjddfeokpmfaaa.Pth Go.Proofs.Ytdjddfeokpmfaaa.Srt Go.Proofs.Ytdjddfeokpmfaaa.Cvx
theorem half_zero (v : V) : half v = 0 ↔ v.2 > 0 ∨ (v.2 = 0 ∧ v.1 > 0) := by
  unfold half
  split
  · simp; omega
  · split
    · simp; omega
    · simp; omega
theorem half_one (v : V) : half v = 1 ↔ v.2 < 0 ∨ (v.2 = 0 ∧ v.1 ≤ 0) := by
  unfold half
  split
  · simp; omega
  · split
    · simp; omega
    · simp; omega
theorem half_cases (v : V) : half v = 0 ∨ half v = 1 := by
  rw [half_zero, half_one]; omega
theorem cr_self (a : V) : cr a a = 0 := by unfold cr; grind
theorem cr_swap (a b : V) : cr b a = -cr a b := by unfold cr; grind
/-- Three directions: the identity, its second coordinate. -/
theorem three (a b c : V) : cr a c * b.2 = cr a b * c.2 + cr b c * a.2 := by unfold cr; grind
theorem three1 (a b c : V) : cr a c * b.1 = cr a b * c.1 + cr b c * a.1 := by unfold cr; grind
theorem mul_nn {a b : Int} (ha : 0 ≤ a) (hb : 0 ≤ b) : 0 ≤ a * b := Int.mul_nonneg ha hb
theorem nn_of_mul {a b : Int} (hb : 0 < b) (h : 0 ≤ a * b) : 0 ≤ a := by
  by_cases c : 0 ≤ a
  · exact c
  · exfalso
    have := Int.mul_lt_mul_of_pos_right (show a < 0 by omega) hb
    omega
/-- In the upper half, to the left of is transitive. -/
theorem up_trans {a b c : V} (ha : half a = 0) (hb : half b = 0) (hc : half c = 0) (h1 : 0 ≤ cr a b) (h2 : 0 ≤ cr b c) : 0 ≤ cr a c := by
  rw [half_zero] at ha hb hc
  by_cases k : b.2 > 0
  · apply nn_of_mul k
    rw [three a b c]
    have := mul_nn h1 (show 0 ≤ c.2 by omega)
    have := mul_nn h2 (show 0 ≤ a.2 by omega)
    omega
  · have b2 : b.2 = 0 := by omega
    have b1 : 0 < b.1 := by omega
    have e : cr a b = -(a.2 * b.1) := by unfold cr; rw [b2]; grind
    have a2 : a.2 = 0 := by
      by_cases z : a.2 > 0
      · have := Int.mul_pos z b1; omega
      · omega
    have a1 : 0 < a.1 := by omega
    have : cr a c = a.1 * c.2 := by unfold cr; rw [a2]; grind
    rw [this]
    exact mul_nn (by omega) (by omega)
theorem lower_neg {v : V} (h : half v = 1) (hz : v.1 ≠ 0 ∨ v.2 ≠ 0) : half (neg v) = 0 := by
  rw [half_one] at h
  rw [half_zero]
  unfold neg
  dsimp only
  omega
theorem cr_neg (a b : V) : cr (neg a) (neg b) = cr a b := by unfold cr neg; grind
theorem low_trans {a b c : V} (ha : half a = 1) (hb : half b = 1) (hc : half c = 1) (za : a.1 ≠ 0 ∨ a.2 ≠ 0) (zb : b.1 ≠ 0 ∨ b.2 ≠ 0) (zc : c.1 ≠ 0 ∨ c.2 ≠ 0) (h1 : 0 ≤ cr a b) (h2 : 0 ≤ cr b c) : 0 ≤ cr a c := by
  have := up_trans (lower_neg ha za) (lower_neg hb zb) (lower_neg hc zc) (by rw [cr_neg]; exact h1) (by rw [cr_neg]; exact h2)
  rwa [cr_neg] at this
/-- Parallel to one that isn't nothing. -/
theorem par {a b c : V} (zb : b.1 ≠ 0 ∨ b.2 ≠ 0) (h1 : cr a b = 0) (h2 : cr b c = 0) : cr a c = 0 := by
  have e1 := three a b c
  have e2 := three1 a b c
  rw [h1, h2] at e1 e2
  simp only [Int.zero_mul, Int.add_zero] at e1 e2
  rcases zb with z | z
  · rcases Int.mul_eq_zero.1 e2 with h | h
    · exact h
    · exact absurd h z
  · rcases Int.mul_eq_zero.1 e1 with h | h
    · exact h
    · exact absurd h z
theorem sq_pos {x : Int} (h : x ≠ 0) : 0 < x * x := by
  rcases Int.lt_or_gt_of_ne h with h | h
  · have := Int.mul_pos (show 0 < -x by omega) (show 0 < -x by omega)
    rwa [Int.neg_mul_neg] at this
  · exact Int.mul_pos h h
/-- Opposite directions: one upper, one lower, on one line. -/
theorem dot_opp {a w : V} (ha : half a = 0) (hw : half w = 1) (zw : w.1 ≠ 0 ∨ w.2 ≠ 0) (h : cr a w = 0) : dot a w < 0 := by
  rw [half_zero] at ha
  rw [half_one] at hw
  unfold cr at h
  unfold dot
  by_cases k : a.2 > 0
  · have e : (a.1 * w.1 + a.2 * w.2) * a.2 = (a.1 * a.1 + a.2 * a.2) * w.2 := by grind
    have w2 : w.2 < 0 := by
      by_cases z : w.2 = 0
      · exfalso
        rw [z] at h
        simp only [Int.mul_zero, Int.zero_sub, Int.neg_eq_zero] at h
        rcases Int.mul_eq_zero.1 h with h | h <;> omega
      · omega
    have p1 : 0 < a.1 * a.1 + a.2 * a.2 := by
      have := sq_pos (show a.2 ≠ 0 by omega)
      have : 0 ≤ a.1 * a.1 := by
        by_cases z : a.1 = 0
        · rw [z]; decide
        · have := sq_pos z; omega
      omega
    have p2 := Int.mul_pos p1 (show 0 < -w.2 by omega)
    rw [Int.mul_neg] at p2
    by_cases d : a.1 * w.1 + a.2 * w.2 < 0
    · exact d
    · exfalso
      have := mul_nn (show 0 ≤ a.1 * w.1 + a.2 * w.2 by omega) (show 0 ≤ a.2 by omega)
      omega
  · have a2 : a.2 = 0 := by omega
    have a1 : 0 < a.1 := by omega
    rw [a2] at h ⊢
    simp only [Int.zero_mul, Int.sub_zero, Int.add_zero] at h ⊢
    have w2 : w.2 = 0 := by
      rcases Int.mul_eq_zero.1 h with h | h
      · omega
      · exact h
    have := Int.mul_pos a1 (show 0 < -w.1 by omega)
    rw [Int.mul_neg] at this
    omega
/-! ### sums of crosses -/
def cs (v : V) (l : List V) : Int := v.1 * sy l - v.2 * sx l
theorem cs_nil (v : V) : cs v [] = 0 := by simp [cs, sx, sy]
theorem cs_cons (v u : V) (l : List V) : cs v (u :: l) = cr v u + cs v l := by
  unfold cs cr; rw [sx_cons, sy_cons]; grind
theorem A_cons' (v : V) (t : List V) : A (v :: t) = cs v t + A t := by rw [A_cons]; rfl
/-- The sum of crosses without signs. -/
def fa (v : V) : List V → Int
  | [] => 0
  | u :: l => (cr v u).natAbs + fa v l
theorem fa_perm (v : V) {l m : List V} (h : l.Perm m) : fa v l = fa v m := by
  induction h with
  | nil => rfl
  | cons x _ ih => simp only [fa, ih]
  | swap x y l => simp only [fa]; omega
  | trans _ _ h1 h2 => rw [h1, h2]
theorem fa_cs (v : V) (l : List V) : cs v l ≤ fa v l ∧ -cs v l ≤ fa v l := by
  induction l with
  | nil => rw [cs_nil]; simp [fa]
  | cons u l ih => rw [cs_cons]; simp only [fa]; omega
def T : List V → Int
  | [] => 0
  | v :: l => fa v l + T l
theorem T_perm {l m : List V} (h : l.Perm m) : T l = T m := by
  induction h with
  | nil => rfl
  | cons x h ih => simp only [T, ih, fa_perm x h]
  | swap x y l =>
    simp only [T, fa]
    rw [cr_swap x y]
    omega
  | trans _ _ h1 h2 => rw [h1, h2]
theorem T_nonneg (l : List V) : 0 ≤ T l := by
  induction l with
  | nil => exact Int.le_refl _
  | cons v l ih =>
    have := fa_cs v l
    simp only [T]; omega
def ups (l : List V) : List V := l.filter (fun v => half v == 0)
def lows (l : List V) : List V := l.filter (fun v => !(half v == 0))
def Sm (l : List V) : Int := T (ups l) + T (lows l)
theorem Sm_perm {l m : List V} (h : l.Perm m) : Sm l = Sm m := by
  unfold Sm ups lows
  rw [T_perm (h.filter _), T_perm (h.filter _)]
theorem ups_cons_0 {v : V} (h : half v = 0) (t : List V) : ups (v :: t) = v :: ups t ∧ lows (v :: t) = lows t := by
  unfold ups lows
  constructor <;> simp [h]
theorem ups_cons_1 {v : V} (h : half v = 1) (t : List V) : ups (v :: t) = ups t ∧ lows (v :: t) = v :: lows t := by
  unfold ups lows
  constructor <;> simp [h]
theorem sx_split (l : List V) : sx l = sx (ups l) + sx (lows l) := by
  induction l with
  | nil => rfl
  | cons v t ih =>
    rcases half_cases v with h | h
    · rw [(ups_cons_0 h t).1, (ups_cons_0 h t).2, sx_cons, sx_cons, ih]; omega
    · rw [(ups_cons_1 h t).1, (ups_cons_1 h t).2, sx_cons, sx_cons, ih]; omega
theorem sy_split (l : List V) : sy l = sy (ups l) + sy (lows l) := by
  induction l with
  | nil => rfl
  | cons v t ih =>
    rcases half_cases v with h | h
    · rw [(ups_cons_0 h t).1, (ups_cons_0 h t).2, sy_cons, sy_cons, ih]; omega
    · rw [(ups_cons_1 h t).1, (ups_cons_1 h t).2, sy_cons, sy_cons, ih]; omega
theorem ups_half (l : List V) : ∀ v ∈ ups l, half v = 0 := by
  intro v hv
  have := (List.mem_filter.1 hv).2
  simpa using this
theorem lows_half (l : List V) : ∀ v ∈ lows l, half v = 1 := by
  intro v hv
  have := (List.mem_filter.1 hv).2
  rcases half_cases v with h | h
  · simp [h] at this
  · exact h
theorem cr_add_l (a b u : V) : cr (a.1 + b.1, a.2 + b.2) u = cr a u + cr b u := by unfold cr; grind
theorem fa_add (a b : V) (l : List V) : fa (a.1 + b.1, a.2 + b.2) l ≤ fa a l + fa b l := by
  induction l with
  | nil => exact Int.le_refl _
  | cons u l ih =>
    simp only [fa]
    rw [cr_add_l]
    omega
theorem neg_of_mul {a b : Int} (hb : 0 < b) (h : a * b ≤ 0) : a ≤ 0 := by
  by_cases c : a ≤ 0
  · exact c
  · exfalso
    have := Int.mul_pos (show 0 < a by omega) hb
    omega
theorem mul_np {a b : Int} (ha : 0 ≤ a) (hb : b ≤ 0) : a * b ≤ 0 := by
  have := mul_nn ha (show 0 ≤ -b by omega)
  rw [Int.mul_neg] at this
  omega
/-- An upper and a lower one add up to an upper one: what lies to the left of the sum. -/
theorem up_right {a b u : V} (ha : half a = 0) (hb : half b = 1) (hu : half u = 0) (hc : half (a.1 + b.1, a.2 + b.2) = 0) (h : 0 ≤ cr a b) (h2 : 0 < cr a u + cr b u) : cr b u ≤ 0 := by
  rw [half_zero] at ha hu hc
  rw [half_one] at hb
  dsimp only at hc
  have e := three b (a.1 + b.1, a.2 + b.2) u
  have e1 : cr b (a.1 + b.1, a.2 + b.2) = -cr a b := by unfold cr; grind
  rw [e1, cr_add_l] at e
  dsimp only at e
  have p1 := mul_nn h (show 0 ≤ u.2 by omega)
  have p2 := mul_np (show 0 ≤ cr a u + cr b u by omega) (show b.2 ≤ 0 by omega)
  rw [Int.neg_mul] at e
  by_cases k : a.2 + b.2 > 0
  · exact neg_of_mul k (by omega)
  · have k0 : a.2 + b.2 = 0 := by omega
    have e3 : cr a u + cr b u = (a.1 + b.1) * u.2 := by
      rw [← cr_add_l]; unfold cr; dsimp only; rw [k0]; grind
    have u2 : 0 < u.2 := by
      by_cases z : u.2 = 0
      · rw [e3, z] at h2; omega
      · omega
    have b2 : b.2 = 0 := by
      by_cases z : b.2 = 0
      · exact z
      · have := Int.mul_pos h2 (show 0 < -b.2 by omega)
        rw [Int.mul_neg] at this
        rw [k0] at e
        omega
    have b1 : b.1 ≤ 0 := by omega
    have : cr b u = b.1 * u.2 := by unfold cr; rw [b2]; grind
    rw [this, Int.mul_comm]
    exact mul_np (by omega) b1
theorem up_left {a b u : V} (ha : half a = 0) (hb : half b = 1) (hu : half u = 0) (hc : half (a.1 + b.1, a.2 + b.2) = 0) (h : cr a b ≤ 0) (h2 : cr a u + cr b u < 0) : 0 ≤ cr b u := by
  rw [half_zero] at ha hu hc
  rw [half_one] at hb
  dsimp only at hc
  have e := three b (a.1 + b.1, a.2 + b.2) u
  have e1 : cr b (a.1 + b.1, a.2 + b.2) = -cr a b := by unfold cr; grind
  rw [e1, cr_add_l] at e
  dsimp only at e
  have p1 := mul_nn (show 0 ≤ -cr a b by omega) (show 0 ≤ u.2 by omega)
  have p2 := mul_np (show 0 ≤ -(cr a u + cr b u) by omega) (show b.2 ≤ 0 by omega)
  rw [Int.neg_mul] at p2
  by_cases k : a.2 + b.2 > 0
  · exact nn_of_mul k (by omega)
  · have k0 : a.2 + b.2 = 0 := by omega
    have e3 : cr a u + cr b u = (a.1 + b.1) * u.2 := by
      rw [← cr_add_l]; unfold cr; dsimp only; rw [k0]; grind
    exfalso
    have := mul_nn (show 0 ≤ a.1 + b.1 by omega) (show 0 ≤ u.2 by omega)
    omega
theorem low_right {a b w : V} (ha : half a = 0) (hb : half b = 1) (hw : half w = 1) (hc : half (a.1 + b.1, a.2 + b.2) = 1) (h : 0 ≤ cr a b) (h2 : cr a w + cr b w < 0) : 0 ≤ cr a w := by
  rw [half_zero] at ha
  rw [half_one] at hb hw hc
  dsimp only at hc
  have e := three a (a.1 + b.1, a.2 + b.2) w
  have e1 : cr a (a.1 + b.1, a.2 + b.2) = cr a b := by unfold cr; grind
  rw [e1, cr_add_l] at e
  dsimp only at e
  have p1 := mul_np h (show w.2 ≤ 0 by omega)
  have p2 := mul_nn (show 0 ≤ -(cr a w + cr b w) by omega) (show 0 ≤ a.2 by omega)
  rw [Int.neg_mul] at p2
  by_cases k : a.2 + b.2 < 0
  · have p3 : cr a w * (-(a.2 + b.2)) ≥ 0 := by rw [Int.mul_neg]; omega
    exact nn_of_mul (show 0 < -(a.2 + b.2) by omega) p3
  · have k0 : a.2 + b.2 = 0 := by omega
    have e3 : cr a w + cr b w = (a.1 + b.1) * w.2 := by
      rw [← cr_add_l]; unfold cr; dsimp only; rw [k0]; grind
    exfalso
    have := mul_nn (show 0 ≤ -(a.1 + b.1) by omega) (show 0 ≤ -w.2 by omega)
    rw [Int.neg_mul_neg] at this
    omega
theorem low_left {a b w : V} (ha : half a = 0) (hb : half b = 1) (hw : half w = 1) (hc : half (a.1 + b.1, a.2 + b.2) = 1) (h : cr a b < 0) (h2 : 0 < cr a w + cr b w) : cr a w ≤ 0 := by
  rw [half_zero] at ha
  rw [half_one] at hb hw hc
  dsimp only at hc
  have e := three a (a.1 + b.1, a.2 + b.2) w
  have e1 : cr a (a.1 + b.1, a.2 + b.2) = cr a b := by unfold cr; grind
  rw [e1, cr_add_l] at e
  dsimp only at e
  have p1 := mul_nn (show 0 ≤ -cr a b by omega) (show 0 ≤ -w.2 by omega)
  rw [Int.neg_mul_neg] at p1
  have p2 := mul_nn (show 0 ≤ cr a w + cr b w by omega) (show 0 ≤ a.2 by omega)
  by_cases k : a.2 + b.2 < 0
  · have p3 : cr a w * (-(a.2 + b.2)) ≤ 0 := by rw [Int.mul_neg]; omega
    exact neg_of_mul (show 0 < -(a.2 + b.2) by omega) p3
  · have k0 : a.2 + b.2 = 0 := by omega
    have e3 : cr a w + cr b w = (a.1 + b.1) * w.2 := by
      rw [← cr_add_l]; unfold cr; dsimp only; rw [k0]; grind
    exfalso
    have w2 : w.2 < 0 := by
      by_cases z : w.2 = 0
      · rw [e3, z] at h2; omega
      · omega
    have := Int.mul_pos (show 0 < -cr a b by omega) (show 0 < -w.2 by omega)
    rw [Int.neg_mul_neg] at this
    rw [k0] at e
    omega
/-- One of both halves is put together with one of the other half: no more is lost than their cross. -/
theorem mixed {a b : V} (ha : half a = 0) (hb : half b = 1) (U W : List V) (hU : ∀ u ∈ U, half u = 0) (hW : ∀ w ∈ W, half w = 1) (hx : sx U + sx W + a.1 + b.1 = 0) (hy : sy U + sy W + a.2 + b.2 = 0) :
    (cr a b).natAbs + (if half (a.1 + b.1, a.2 + b.2) = 0 then fa (a.1 + b.1, a.2 + b.2) U else fa (a.1 + b.1, a.2 + b.2) W) ≤ fa a U + fa b W := by
  have eb : cs b W = cr a b - cs b U := by
    unfold cs cr
    have h1 : sx W = -(sx U + a.1 + b.1) := by omega
    have h2 : sy W = -(sy U + a.2 + b.2) := by omega
    rw [h1, h2]; grind
  have ea : cs a U = -cs a W - cr a b := by
    unfold cs cr
    have h1 : sx U = -(sx W + a.1 + b.1) := by omega
    have h2 : sy U = -(sy W + a.2 + b.2) := by omega
    rw [h1, h2]; grind
  have fb := fa_cs b W
  have fA := fa_cs a U
  rcases half_cases (a.1 + b.1, a.2 + b.2) with hc | hc
  · rw [if_pos hc]
    by_cases h : 0 ≤ cr a b
    · have key : ∀ l : List V, (∀ u ∈ l, half u = 0) → fa (a.1 + b.1, a.2 + b.2) l ≤ fa a l - cs b l := by
        intro l
        induction l with
        | nil => intro _; rw [cs_nil]; simp [fa]
        | cons u l ih =>
          intro hl
          have ih' := ih (fun u hu => hl u (by simp [hu]))
          rw [cs_cons]
          simp only [fa]
          rw [cr_add_l]
          have := fun h2 => up_right ha hb (hl u (by simp)) hc h h2
          omega
      have := key U hU
      omega
    · have key : ∀ l : List V, (∀ u ∈ l, half u = 0) → fa (a.1 + b.1, a.2 + b.2) l ≤ fa a l + cs b l := by
        intro l
        induction l with
        | nil => intro _; rw [cs_nil]; simp [fa]
        | cons u l ih =>
          intro hl
          have ih' := ih (fun u hu => hl u (by simp [hu]))
          rw [cs_cons]
          simp only [fa]
          rw [cr_add_l]
          have := fun h2 => up_left ha hb (hl u (by simp)) hc (by omega) h2
          omega
      have := key U hU
      omega
  · rw [if_neg (by omega)]
    by_cases h : 0 ≤ cr a b
    · have key : ∀ l : List V, (∀ u ∈ l, half u = 1) → fa (a.1 + b.1, a.2 + b.2) l ≤ fa b l + cs a l := by
        intro l
        induction l with
        | nil => intro _; rw [cs_nil]; simp [fa]
        | cons u l ih =>
          intro hl
          have ih' := ih (fun u hu => hl u (by simp [hu]))
          rw [cs_cons]
          simp only [fa]
          rw [cr_add_l]
          have := fun h2 => low_right ha hb (hl u (by simp)) hc h h2
          omega
      have := key W hW
      omega
    · have key : ∀ l : List V, (∀ u ∈ l, half u = 1) → fa (a.1 + b.1, a.2 + b.2) l ≤ fa b l - cs a l := by
        intro l
        induction l with
        | nil => intro _; rw [cs_nil]; simp [fa]
        | cons u l ih =>
          intro hl
          have ih' := ih (fun u hu => hl u (by simp [hu]))
          rw [cs_cons]
          simp only [fa]
          rw [cr_add_l]
          have := fun h2 => low_left ha hb (hl u (by simp)) hc (by omega) h2
          omega
      have := key W hW
      omega
/-- No order of steps that lead back has a greater area than that by directions. -/
theorem A_le_Sm (n : Nat) : ∀ q : List V, q.length = n → sx q = 0 → sy q = 0 → A q ≤ Sm q := by
  induction n with
  | zero =>
    intro q hq _ _
    obtain rfl : q = [] := List.eq_nil_of_length_eq_zero hq
    decide
  | succ n ih =>
    intro q hq hx hy
    match q, hq with
    | [v], _ =>
      rw [A_one]
      have := T_nonneg (ups [v])
      have := T_nonneg (lows [v])
      unfold Sm; omega
    | a :: b :: t, hq =>
      have h1 := ih ((a.1 + b.1, a.2 + b.2) :: t) (by simpa using hq) (by rw [sx_cons] at hx ⊢; rw [sx_cons] at hx; dsimp only; omega) (by rw [sy_cons] at hy ⊢; rw [sy_cons] at hy; dsimp only; omega)
      have eA : A (a :: b :: t) = cr a b + A ((a.1 + b.1, a.2 + b.2) :: t) := by
        rw [A_cons', A_cons', A_cons', cs_cons]
        unfold cs; dsimp only; grind
      rw [eA]
      rw [sx_cons, sx_cons, sx_split] at hx
      rw [sy_cons, sy_cons, sy_split] at hy
      unfold Sm at h1 ⊢
      rcases half_cases a with ha | ha <;> rcases half_cases b with hb | hb
      · have hc : half (a.1 + b.1, a.2 + b.2) = 0 := by
          rw [half_zero] at ha hb ⊢; dsimp only; omega
        rw [(ups_cons_0 hc t).1, (ups_cons_0 hc t).2] at h1
        rw [(ups_cons_0 ha _).1, (ups_cons_0 ha _).2, (ups_cons_0 hb t).1, (ups_cons_0 hb t).2]
        have := fa_add a b (ups t)
        simp only [T, fa] at h1 ⊢
        omega
      · have m := mixed ha hb (ups t) (lows t) (ups_half t) (lows_half t) (by omega) (by omega)
        rw [(ups_cons_0 ha _).1, (ups_cons_0 ha _).2, (ups_cons_1 hb t).1, (ups_cons_1 hb t).2]
        rcases half_cases (a.1 + b.1, a.2 + b.2) with hc | hc
        · rw [if_pos hc] at m
          rw [(ups_cons_0 hc t).1, (ups_cons_0 hc t).2] at h1
          simp only [T] at h1 ⊢
          omega
        · rw [if_neg (by omega)] at m
          rw [(ups_cons_1 hc t).1, (ups_cons_1 hc t).2] at h1
          simp only [T] at h1 ⊢
          omega
      · have m := mixed hb ha (ups t) (lows t) (ups_half t) (lows_half t) (by omega) (by omega)
        have ec : ((b.1 + a.1, b.2 + a.2) : V) = (a.1 + b.1, a.2 + b.2) := by rw [Int.add_comm, Int.add_comm b.2]
        rw [ec, cr_swap a b] at m
        rw [(ups_cons_1 ha _).1, (ups_cons_1 ha _).2, (ups_cons_0 hb t).1, (ups_cons_0 hb t).2]
        rcases half_cases (a.1 + b.1, a.2 + b.2) with hc | hc
        · rw [if_pos hc] at m
          rw [(ups_cons_0 hc t).1, (ups_cons_0 hc t).2] at h1
          simp only [T] at h1 ⊢
          omega
        · rw [if_neg (by omega)] at m
          rw [(ups_cons_1 hc t).1, (ups_cons_1 hc t).2] at h1
          simp only [T] at h1 ⊢
          omega
      · have hc : half (a.1 + b.1, a.2 + b.2) = 1 := by
          rw [half_one] at ha hb ⊢; dsimp only; omega
        rw [(ups_cons_1 hc t).1, (ups_cons_1 hc t).2] at h1
        rw [(ups_cons_1 ha _).1, (ups_cons_1 ha _).2, (ups_cons_1 hb t).1, (ups_cons_1 hb t).2]
        have := fa_add a b (lows t)
        simp only [T, fa] at h1 ⊢
        omega
end Go.Proofs.Ytdjddfeokpmfaaa.Iso
