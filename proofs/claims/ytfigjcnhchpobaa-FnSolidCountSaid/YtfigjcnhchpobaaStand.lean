import Derived.Test.YtfigjcnhchpobaaBase
import Derived.Test.YtfigjcnhchpobaaSol
import Derived.Test.YtfigjcnhchpobaaFace
/- Solids that stand; the lengths of one edge that let a solid stand are an interval. No program in sight. -/
set_option linter.unusedVariables false
set_option linter.unusedSimpArgs false
namespace Go.Proofs.Ytfigjcnhchpobaa.Stand
open Go.RowKit Go.Proofs.YtfigjcnhchpobaaW.PrintWords Go.Proofs.YtfigjcnhchpobaaW.PrintMore Go.Proofs.Ytfigjcnhchpobaa.Sol Go.Proofs.Ytfigjcnhchpobaa.Face Go.Proofs.Ytfigjcnhchpobaa.Base
def standsB (l : List Int) : Bool := decide (facesN l = 4) && decide (wrap64 (num l) > 0)
/-- The least and the greatest of the lengths 13 - n .. 12 at the place p that let it stand; x y: those so far. -/
def leastF (l : List Int) (p : Nat) : Nat → Int → Int → Int × Int × Bool
  | 0, x, y => (x, y, decide (x > 0))
  | n + 1, x, y => if standsB (l.set p (12 - (n : Int))) = true then (if x = 0 then leastF l p n (12 - (n : Int)) (12 - (n : Int)) else leastF l p n x (12 - (n : Int))) else leastF l p n x y
def leastA (l : List Int) (p : Int) : Int × Int × Bool := if solB l = true ∧ 0 ≤ p ∧ p ≤ 5 then leastF l p.toNat 12 0 0 else (0, 0, false)
theorem set_solB {l : List Int} (h : solB l = true) (p : Nat) {x : Int} (hx : 1 ≤ x ∧ x ≤ 12) : solB (l.set p x) = true := by
  unfold solB at h ⊢
  rw [Bool.and_eq_true] at h ⊢
  refine ⟨List.all_eq_true.2 fun y hy => ?_, by rw [List.length_set]; exact h.2⟩
  rcases List.mem_or_eq_of_mem_set hy with hy | rfl
  · exact List.all_eq_true.1 h.1 y hy
  · unfold inB; simp [hx]
/-! ### the number in one edge's square -/
theorem quad {u v w X Y Z : Int} (hw : 0 ≤ w) (h1 : X < Y) (h2 : Y < Z) (hX : 0 < u + v * X - w * (X * X)) (hZ : 0 < u + v * Z - w * (Z * Z)) : 0 < u + v * Y - w * (Y * Y) := by
  have e : (Z - X) * (u + v * Y - w * (Y * Y)) = (Z - Y) * (u + v * X - w * (X * X)) + (Y - X) * (u + v * Z - w * (Z * Z)) + w * ((Y - X) * ((Z - Y) * (Z - X))) := by grind
  have p1 := Int.mul_pos (show 0 < Z - Y by omega) hX
  have p2 := Int.mul_pos (show 0 < Y - X by omega) hZ
  have p3 := Int.mul_nonneg hw (Int.le_of_lt (Int.mul_pos (show 0 < Y - X by omega) (Int.mul_pos (show 0 < Z - Y by omega) (show 0 < Z - X by omega))))
  refine Decidable.byContradiction fun hc => ?_
  have p4 := Int.mul_nonneg (show 0 ≤ Z - X by omega) (show 0 ≤ -(u + v * Y - w * (Y * Y)) by omega)
  rw [Int.mul_neg, e] at p4
  omega
theorem sq_lt {x y : Int} (h0 : 0 < x) (h : x < y) : x * x < y * y := by
  have := Int.mul_lt_mul h (Int.le_of_lt h) h0 (by omega)
  exact this
/-- A number that is a quadratic in x*x: between two places where it is positive it is so. -/
theorem between_ {f : Int → Int} {u v w : Int} (hw : 0 ≤ w) (hf : ∀ x, f x = u + v * (x * x) - w * ((x * x) * (x * x))) {x y z : Int} (h0 : 0 < x) (h1 : x < y) (h2 : y < z) (hx : 0 < f x) (hz : 0 < f z) : 0 < f y := by
  rw [hf] at hx hz ⊢
  exact quad hw (sq_lt h0 h1) (sq_lt (by omega) h2) hx hz
theorem sq_nonneg (x : Int) : 0 ≤ x * x := by
  rcases Int.le_total 0 x with h | h
  · exact Int.mul_nonneg h h
  · exact Int.mul_nonneg_of_nonpos_of_nonpos h h
theorem num_between {a b c d e f : Int} (p : Nat) {x y z : Int} (h0 : 0 < x) (h1 : x < y) (h2 : y < z)
    (hx : 0 < num ([a, b, c, d, e, f].set p x)) (hz : 0 < num ([a, b, c, d, e, f].set p z)) : 0 < num ([a, b, c, d, e, f].set p y) := by
  match p with
  | 0 => exact between_ (f := fun x => number x b c d e f) (w := f * f) (u := number 0 b c d e f) (v := number 1 b c d e f - number 0 b c d e f + f * f) (sq_nonneg f) (fun x => by unfold number; grind) h0 h1 h2 hx hz
  | 1 => exact between_ (f := fun x => number a x c d e f) (w := e * e) (u := number a 0 c d e f) (v := number a 1 c d e f - number a 0 c d e f + e * e) (sq_nonneg e) (fun x => by unfold number; grind) h0 h1 h2 hx hz
  | 2 => exact between_ (f := fun x => number a b x d e f) (w := d * d) (u := number a b 0 d e f) (v := number a b 1 d e f - number a b 0 d e f + d * d) (sq_nonneg d) (fun x => by unfold number; grind) h0 h1 h2 hx hz
  | 3 => exact between_ (f := fun x => number a b c x e f) (w := c * c) (u := number a b c 0 e f) (v := number a b c 1 e f - number a b c 0 e f + c * c) (sq_nonneg c) (fun x => by unfold number; grind) h0 h1 h2 hx hz
  | 4 => exact between_ (f := fun x => number a b c d x f) (w := b * b) (u := number a b c d 0 f) (v := number a b c d 1 f - number a b c d 0 f + b * b) (sq_nonneg b) (fun x => by unfold number; grind) h0 h1 h2 hx hz
  | 5 => exact between_ (f := fun x => number a b c d e x) (w := a * a) (u := number a b c d e 0) (v := number a b c d e 1 - number a b c d e 0 + a * a) (sq_nonneg a) (fun x => by unfold number; grind) h0 h1 h2 hx hz
  | p + 6 => exact hx
theorem tri_iff (a b c : Int) : tri a b c = true ↔ a < b + c ∧ b < a + c ∧ c < a + b := by
  unfold tri; rw [Bool.and_eq_true, Bool.and_eq_true, decide_eq_true_eq, decide_eq_true_eq, decide_eq_true_eq]
theorem faces_between {a b c d e f : Int} (p : Nat) {x y z : Int} (h1 : x < y) (h2 : y < z)
    (hx : facesN ([a, b, c, d, e, f].set p x) = 4) (hz : facesN ([a, b, c, d, e, f].set p z) = 4) : facesN ([a, b, c, d, e, f].set p y) = 4 := by
  match p with
  | 0 | 1 | 2 | 3 | 4 | 5 =>
    all_goals
      simp only [facesN, List.set_cons_zero, List.set_cons_succ, List.getD_cons_zero, List.getD_cons_succ, faces_four, tri_iff] at hx hz ⊢
      omega
  | p + 6 => exact hx
/-! ### the number's size -/
theorem bnd {x y A B : Int} (hA : 0 ≤ A) (hx : -A ≤ x ∧ x ≤ A) (hy : -B ≤ y ∧ y ≤ B) : -(A * B) ≤ x * y ∧ x * y ≤ A * B := by
  have hB : 0 ≤ B := by omega
  have n1 : x.natAbs ≤ A.natAbs := by omega
  have n2 : y.natAbs ≤ B.natAbs := by omega
  have n3 := Nat.mul_le_mul n1 n2
  rw [← Int.natAbs_mul, ← Int.natAbs_mul] at n3
  have n4 := Int.mul_nonneg hA hB
  omega
theorem sq_b {x : Int} (h : 1 ≤ x ∧ x ≤ 12) : -144 ≤ x * x ∧ x * x ≤ 144 := bnd (A := 12) (B := 12) (by decide) (by omega) (by omega)
theorem number_b {a b c d e f : Int} (ha : 1 ≤ a ∧ a ≤ 12) (hb : 1 ≤ b ∧ b ≤ 12) (hc : 1 ≤ c ∧ c ≤ 12) (hd : 1 ≤ d ∧ d ≤ 12) (he : 1 ≤ e ∧ e ≤ 12) (hf : 1 ≤ f ∧ f ≤ 12) :
    -9223372036854775808 ≤ number a b c d e f ∧ number a b c d e f < 9223372036854775808 := by
  have a2 := sq_b ha; have b2 := sq_b hb; have c2 := sq_b hc; have d2 := sq_b hd; have e2 := sq_b he; have f2 := sq_b hf
  unfold number
  generalize a * a = A at *; generalize b * b = B at *; generalize c * c = C at *; generalize d * d = D at *; generalize e * e = E at *; generalize f * f = F at *
  have u1 : -432 ≤ A + B - D ∧ A + B - D ≤ 432 := by omega
  have u2 : -432 ≤ A + C - E ∧ A + C - E ≤ 432 := by omega
  have u3 : -432 ≤ B + C - F ∧ B + C - F ≤ 432 := by omega
  generalize A + B - D = U at *; generalize A + C - E = V at *; generalize B + C - F = W at *
  have t1 := bnd (x := 4 * A) (A := 576) (y := B) (B := 144) (by decide) (by omega) b2
  have t2 := bnd (A := 576 * 144) (y := C) (B := 144) (by decide) t1 c2
  have t3 := bnd (x := U) (A := 432) (y := V) (B := 432) (by decide) u1 u2
  have t4 := bnd (A := 432 * 432) (y := W) (B := 432) (by decide) t3 u3
  have s1 := bnd (x := A) (A := 144) (y := W) (B := 432) (by decide) a2 u3
  have s2 := bnd (A := 144 * 432) (y := W) (B := 432) (by decide) s1 u3
  have s3 := bnd (x := B) (A := 144) (y := V) (B := 432) (by decide) b2 u2
  have s4 := bnd (A := 144 * 432) (y := V) (B := 432) (by decide) s3 u2
  have s5 := bnd (x := C) (A := 144) (y := U) (B := 432) (by decide) c2 u1
  have s6 := bnd (A := 144 * 432) (y := U) (B := 432) (by decide) s5 u1
  omega
theorem num_w {l : List Int} (h : solB l = true) : wrap64 (num l) = num l := by
  obtain ⟨a, b, c, d, e, f, rfl, ha, hb, hc, hd, he, hf⟩ := sol_six h
  exact w64 (number_b ha hb hc hd he hf)
theorem stands_between {l : List Int} (h : solB l = true) (p : Nat) {x y z : Int} (h0 : 1 ≤ x) (h1 : x < y) (h2 : y < z) (h3 : z ≤ 12)
    (hx : standsB (l.set p x) = true) (hz : standsB (l.set p z) = true) : standsB (l.set p y) = true := by
  have w1 := num_w (set_solB h p (x := x) (by omega))
  have w2 := num_w (set_solB h p (x := y) (by omega))
  have w3 := num_w (set_solB h p (x := z) (by omega))
  obtain ⟨a, b, c, d, e, f, rfl, _⟩ := sol_six h
  unfold standsB at hx hz ⊢
  rw [w1, Bool.and_eq_true, decide_eq_true_eq, decide_eq_true_eq] at hx
  rw [w3, Bool.and_eq_true, decide_eq_true_eq, decide_eq_true_eq] at hz
  rw [w2, Bool.and_eq_true, decide_eq_true_eq, decide_eq_true_eq]
  exact ⟨faces_between p h1 h2 hx.1 hz.1, num_between p (by omega) h1 h2 hx.2 hz.2⟩
/-! ### the least and the greatest -/
theorem leastF_spec (l : List Int) (p : Nat) : ∀ (n : Nat) (x y : Int), n ≤ 12 →
    ((x = 0 ∧ y = 0 ∧ ∀ t : Int, 1 ≤ t → t ≤ 12 - n → standsB (l.set p t) = false) ∨ (1 ≤ x ∧ x ≤ y ∧ y ≤ 12 - n ∧ standsB (l.set p x) = true ∧ standsB (l.set p y) = true ∧ (∀ t : Int, 1 ≤ t → t < x → standsB (l.set p t) = false) ∧ ∀ t : Int, y < t → t ≤ 12 - n → standsB (l.set p t) = false)) →
    (leastF l p n x y).2.2 = true →
    1 ≤ (leastF l p n x y).1 ∧ (leastF l p n x y).1 ≤ (leastF l p n x y).2.1 ∧ (leastF l p n x y).2.1 ≤ 12 ∧ standsB (l.set p (leastF l p n x y).1) = true ∧ standsB (l.set p (leastF l p n x y).2.1) = true ∧
      (∀ t : Int, 1 ≤ t → t < (leastF l p n x y).1 → standsB (l.set p t) = false) ∧ ∀ t : Int, (leastF l p n x y).2.1 < t → t ≤ 12 → standsB (l.set p t) = false := by
  intro n
  induction n with
  | zero =>
    intro x y _ h hr
    simp only [leastF] at hr ⊢
    have hx := of_decide_eq_true hr
    rcases h with ⟨h1, _⟩ | ⟨h1, h2, h3, h4, h5, h6, h7⟩
    · omega
    · exact ⟨h1, h2, by omega, h4, h5, h6, fun t ht ht2 => h7 t ht (by omega)⟩
  | succ n ih =>
    intro x y hn h hr
    simp only [leastF] at hr ⊢
    by_cases c : standsB (l.set p (12 - (n : Int))) = true
    · rw [if_pos c] at hr ⊢
      by_cases z : x = 0
      · rw [if_pos z] at hr ⊢
        refine ih _ _ (by omega) (Or.inr ⟨by omega, by omega, by omega, c, c, ?_, fun t ht ht2 => by omega⟩) hr
        intro t ht ht2
        rcases h with ⟨h1, h2, h3⟩ | ⟨h1, _⟩
        · exact h3 t ht (by omega)
        · omega
      · rw [if_neg z] at hr ⊢
        rcases h with ⟨h1, _⟩ | ⟨h1, h2, h3, h4, h5, h6, h7⟩
        · omega
        · exact ih _ _ (by omega) (Or.inr ⟨h1, by omega, by omega, h4, c, h6, fun t ht ht2 => by omega⟩) hr
    · rw [if_neg c] at hr ⊢
      have c' := Bool.eq_false_iff.2 c
      refine ih _ _ (by omega) ?_ hr
      rcases h with ⟨h1, h2, h3⟩ | ⟨h1, h2, h3, h4, h5, h6, h7⟩
      · refine Or.inl ⟨h1, h2, fun t ht ht2 => ?_⟩
        by_cases e : t = 12 - (n : Int)
        · rw [e]; exact c'
        · exact h3 t ht (by omega)
      · refine Or.inr ⟨h1, h2, by omega, h4, h5, h6, fun t ht ht2 => ?_⟩
        by_cases e : t = 12 - (n : Int)
        · rw [e]; exact c'
        · exact h7 t ht (by omega)
theorem least_exact {l : List Int} (h : solB l = true) (p : Nat) (hr : (leastF l p 12 0 0).2.2 = true) :
    1 ≤ (leastF l p 12 0 0).1 ∧ (leastF l p 12 0 0).1 ≤ (leastF l p 12 0 0).2.1 ∧ ∀ t : Int, 1 ≤ t → t ≤ 12 → standsB (l.set p t) = decide ((leastF l p 12 0 0).1 ≤ t ∧ t ≤ (leastF l p 12 0 0).2.1) := by
  obtain ⟨h1, h2, h3, h4, h5, h6, h7⟩ := leastF_spec l p 12 0 0 (by decide) (Or.inl ⟨rfl, rfl, fun t ht ht2 => by omega⟩) hr
  generalize leastF l p 12 0 0 = r at *
  refine ⟨h1, h2, fun t ht ht2 => ?_⟩
  by_cases c1 : t < r.1
  · rw [h6 t ht c1, decide_eq_false (by omega)]
  · by_cases c2 : r.2.1 < t
    · rw [h7 t c2 ht2, decide_eq_false (by omega)]
    · rw [decide_eq_true (by omega)]
      by_cases e1 : t = r.1
      · rw [e1]; exact h4
      · by_cases e2 : t = r.2.1
        · rw [e2]; exact h5
        · exact stands_between h p h1 (by omega) (by omega) h3 h4 h5
end Go.Proofs.Ytfigjcnhchpobaa.Stand
