/- Paths as lists of pairs: sums, areas, corners. No program in sight. -/
set_option linter.unusedVariables false
set_option linter.unusedSimpArgs false
namespace Go.Proofs.Ytdjddfeokpmfaaa.Pth
abbrev V := Int × Int
def ofV (v : V) : List Int := [v.1, v.2]
def L (q : List V) : List (List Int) := q.map ofV
def cr (a b : V) : Int := a.1 * b.2 - a.2 * b.1
def sx (q : List V) : Int := (q.map Prod.fst).sum
def sy (q : List V) : Int := (q.map Prod.snd).sum
/-- Twice the area, from the point x y on. -/
def AF (x y : Int) : List V → Int
  | [] => 0
  | v :: t => (x * v.2 - y * v.1) + AF (x + v.1) (y + v.2) t
def A (q : List V) : Int := AF 0 0 q
def stepB : List Int → Bool
  | [x, y] => decide (-9 ≤ x ∧ x ≤ 9 ∧ -9 ≤ y ∧ y ≤ 9 ∧ (x ≠ 0 ∨ y ≠ 0))
  | _ => false
theorem stepB_two (x y : Int) : stepB [x, y] = decide (-9 ≤ x ∧ x ≤ 9 ∧ -9 ≤ y ∧ y ≤ 9 ∧ (x ≠ 0 ∨ y ≠ 0)) := rfl
def gx (p : List (List Int)) : Int := (p.map (fun s => s.getD 0 0)).sum
def gy (p : List (List Int)) : Int := (p.map (fun s => s.getD 1 0)).sum
def pathB (p : List (List Int)) : Bool := decide (3 ≤ p.length) && decide (p.length ≤ 8) && p.all stepB && decide (gx p = 0) && decide (gy p = 0)
def stepV (v : V) : Prop := -9 ≤ v.1 ∧ v.1 ≤ 9 ∧ -9 ≤ v.2 ∧ v.2 ≤ 9 ∧ (v.1 ≠ 0 ∨ v.2 ≠ 0)
structure Path (q : List V) : Prop where
  lo : 3 ≤ q.length
  hi : q.length ≤ 8
  st : ∀ v ∈ q, stepV v
  x0 : sx q = 0
  y0 : sy q = 0
theorem stepB_of (s : List Int) : stepB s = true → ∃ v : V, s = ofV v ∧ stepV v := by
  intro h
  match s, h with
  | [x, y], h =>
    simp only [stepB, decide_eq_true_eq] at h
    exact ⟨(x, y), rfl, h⟩
theorem stepB_ofV (v : V) : stepB (ofV v) = true ↔ stepV v := by simp [stepB, ofV, stepV]
theorem gx_L (q : List V) : gx (L q) = sx q := by simp [gx, L, sx, ofV, Function.comp_def]
theorem gy_L (q : List V) : gy (L q) = sy q := by simp [gy, L, sy, ofV, Function.comp_def]
theorem L_length (q : List V) : (L q).length = q.length := by simp [L]
theorem all_steps (p : List (List Int)) (h : p.all stepB = true) : ∃ q : List V, p = L q ∧ ∀ v ∈ q, stepV v := by
  induction p with
  | nil => exact ⟨[], rfl, fun v hv => by cases hv⟩
  | cons s t ih =>
    rw [List.all_cons, Bool.and_eq_true] at h
    obtain ⟨v, rfl, hv⟩ := stepB_of s h.1
    obtain ⟨q, rfl, hq⟩ := ih h.2
    refine ⟨v :: q, rfl, fun u hu => ?_⟩
    rcases List.mem_cons.1 hu with rfl | hu
    · exact hv
    · exact hq u hu
theorem path_of {p : List (List Int)} (h : pathB p = true) : ∃ q, p = L q ∧ Path q := by
  simp only [pathB, Bool.and_eq_true, decide_eq_true_eq] at h
  obtain ⟨⟨⟨⟨h1, h2⟩, h3⟩, h4⟩, h5⟩ := h
  obtain ⟨q, rfl, hq⟩ := all_steps p h3
  rw [L_length] at h1 h2
  rw [gx_L] at h4
  rw [gy_L] at h5
  exact ⟨q, rfl, h1, h2, hq, h4, h5⟩
theorem pathB_L {q : List V} (h : Path q) : pathB (L q) = true := by
  simp only [pathB, Bool.and_eq_true, decide_eq_true_eq, L_length, gx_L, gy_L]
  refine ⟨⟨⟨⟨h.lo, h.hi⟩, ?_⟩, h.x0⟩, h.y0⟩
  rw [List.all_eq_true]
  intro s hs
  obtain ⟨v, hv, rfl⟩ := List.mem_map.1 hs
  exact (stepB_ofV v).2 (h.st v hv)
theorem sx_append (a b : List V) : sx (a ++ b) = sx a + sx b := by simp [sx]
theorem sy_append (a b : List V) : sy (a ++ b) = sy a + sy b := by simp [sy]
theorem sx_cons (v : V) (t : List V) : sx (v :: t) = v.1 + sx t := by simp [sx]
theorem sy_cons (v : V) (t : List V) : sy (v :: t) = v.2 + sy t := by simp [sy]
theorem AF_shift (x y : Int) (q : List V) : AF x y q = x * sy q - y * sx q + A q := by
  unfold A
  have key : ∀ (q : List V) (x y a b : Int), AF (x + a) (y + b) q = x * sy q - y * sx q + AF a b q := by
    intro q
    induction q with
    | nil => intro x y a b; simp [AF, sx, sy]
    | cons v t ih =>
      intro x y a b
      simp only [AF]
      rw [show x + a + v.1 = x + (a + v.1) from by omega, show y + b + v.2 = y + (b + v.2) from by omega, ih, sx_cons, sy_cons]
      grind
  have := key q x y 0 0
  simpa using this
theorem A_append (a b : List V) : A (a ++ b) = A a + (sx a * sy b - sy a * sx b) + A b := by
  unfold A
  have key : ∀ (a : List V) (x y : Int), AF x y (a ++ b) = AF x y a + AF (x + sx a) (y + sy a) b := by
    intro a
    induction a with
    | nil => intro x y; simp [AF, sx, sy]
    | cons v t ih =>
      intro x y
      simp only [List.cons_append, AF]
      rw [ih, sx_cons, sy_cons, show x + v.1 + sx t = x + (v.1 + sx t) from by omega, show y + v.2 + sy t = y + (v.2 + sy t) from by omega]
      omega
  rw [key a 0 0, AF_shift (0 + sx a)]
  unfold A
  rw [Int.zero_add, Int.zero_add]
  omega
theorem A_nil : A [] = 0 := rfl
theorem A_one (v : V) : A [v] = 0 := by simp [A, AF]
theorem A_snoc (a : List V) (v : V) : A (a ++ [v]) = A a + (sx a * v.2 - sy a * v.1) := by
  rw [A_append, A_one]; simp [sx, sy]
theorem A_cons (v : V) (t : List V) : A (v :: t) = (v.1 * sy t - v.2 * sx t) + A t := by
  have := A_append [v] t
  simp only [List.singleton_append, A_one] at this
  rw [this]
  simp [sx, sy]
/-! ### backwards, turned, begun elsewhere -/
def neg (v : V) : V := (-v.1, -v.2)
def rot (v : V) : V := (-v.2, v.1)
def back (q : List V) : List V := (q.map neg).reverse
def turn (q : List V) : List V := q.map rot
def begin_ (q : List V) (k : Nat) : List V := q.drop k ++ q.take k
theorem sx_reverse (q : List V) : sx q.reverse = sx q := by
  induction q with
  | nil => rfl
  | cons v t ih => rw [List.reverse_cons, sx_append, ih, sx_cons]; simp [sx]; omega
theorem sy_reverse (q : List V) : sy q.reverse = sy q := by
  induction q with
  | nil => rfl
  | cons v t ih => rw [List.reverse_cons, sy_append, ih, sy_cons]; simp [sy]; omega
theorem A_reverse (q : List V) : A q.reverse = -A q := by
  induction q with
  | nil => rfl
  | cons v t ih => rw [List.reverse_cons, A_snoc, ih, A_cons, sx_reverse, sy_reverse]; grind
theorem A_begin {q : List V} (hx : sx q = 0) (hy : sy q = 0) (k : Nat) : A (begin_ q k) = A q := by
  have e : q = q.take k ++ q.drop k := (List.take_append_drop k q).symm
  have h1 : sx q = sx (q.take k) + sx (q.drop k) := by rw [← sx_append, ← e]
  have h2 : sy q = sy (q.take k) + sy (q.drop k) := by rw [← sy_append, ← e]
  have h3 : A q = A (q.take k ++ q.drop k) := by rw [← e]
  rw [h3, begin_, A_append, A_append]
  have hxx : sx (q.drop k) = -sx (q.take k) := by omega
  have hyy : sy (q.drop k) = -sy (q.take k) := by omega
  rw [hxx, hyy]
  grind
theorem path_begin {q : List V} (h : Path q) (k : Nat) : Path (begin_ q k) where
  lo := by have := h.lo; simp [begin_]; omega
  hi := by have := h.hi; simp [begin_]; omega
  st := fun v hv => by
    simp only [begin_, List.mem_append] at hv
    rcases hv with hv | hv
    · exact h.st v (List.mem_of_mem_drop hv)
    · exact h.st v (List.mem_of_mem_take hv)
  x0 := by rw [begin_, sx_append, Int.add_comm, ← sx_append, List.take_append_drop, h.x0]
  y0 := by rw [begin_, sy_append, Int.add_comm, ← sy_append, List.take_append_drop, h.y0]
/-! ### bounds -/
theorem mul9 {x v M : Int} (hx : -M ≤ x ∧ x ≤ M) (hv : -9 ≤ v ∧ v ≤ 9) : -(9 * M) ≤ x * v ∧ x * v ≤ 9 * M := by
  have : v = -9 ∨ v = -8 ∨ v = -7 ∨ v = -6 ∨ v = -5 ∨ v = -4 ∨ v = -3 ∨ v = -2 ∨ v = -1 ∨ v = 0 ∨ v = 1 ∨ v = 2 ∨ v = 3 ∨ v = 4 ∨ v = 5 ∨ v = 6 ∨ v = 7 ∨ v = 8 ∨ v = 9 := by omega
  rcases this with rfl | rfl | rfl | rfl | rfl | rfl | rfl | rfl | rfl | rfl | rfl | rfl | rfl | rfl | rfl | rfl | rfl | rfl | rfl <;> omega
theorem sx_bound {q : List V} (h : ∀ v ∈ q, stepV v) : -(9 * (q.length : Int)) ≤ sx q ∧ sx q ≤ 9 * q.length := by
  induction q with
  | nil => simp [sx]
  | cons v t ih =>
    have h1 := h v (by simp)
    have h2 := ih (fun u hu => h u (by simp [hu]))
    rw [sx_cons, List.length_cons]
    simp only [stepV] at h1
    omega
theorem sy_bound {q : List V} (h : ∀ v ∈ q, stepV v) : -(9 * (q.length : Int)) ≤ sy q ∧ sy q ≤ 9 * q.length := by
  induction q with
  | nil => simp [sy]
  | cons v t ih =>
    have h1 := h v (by simp)
    have h2 := ih (fun u hu => h u (by simp [hu]))
    rw [sy_cons, List.length_cons]
    simp only [stepV] at h1
    omega
theorem take_mem {q : List V} (h : ∀ v ∈ q, stepV v) (i : Nat) : ∀ v ∈ q.take i, stepV v := fun v hv => h v (List.mem_of_mem_take hv)
theorem A_bound {q : List V} (h : ∀ v ∈ q, stepV v) (n : Nat) (hn : q.length ≤ n) : -(162 * (n : Int) * q.length) ≤ A q ∧ A q ≤ 162 * (n : Int) * q.length := by
  induction q with
  | nil => simp [A_nil]
  | cons v t ih =>
    have h1 := h v (by simp)
    have ht : ∀ u ∈ t, stepV u := fun u hu => h u (by simp [hu])
    simp only [List.length_cons] at hn
    have h2 := ih ht (by omega)
    have hx := sx_bound ht
    have hy := sy_bound ht
    rw [A_cons, List.length_cons]
    simp only [stepV] at h1
    have m1 := mul9 (x := sy t) (v := v.1) (M := 9 * (t.length : Int)) hy ⟨h1.1, h1.2.1⟩
    have m2 := mul9 (x := sx t) (v := v.2) (M := 9 * (t.length : Int)) hx ⟨h1.2.2.1, h1.2.2.2.1⟩
    rw [Int.mul_comm v.1, Int.mul_comm v.2]
    have e : 162 * (n : Int) * ((t.length + 1 : Nat) : Int) = 162 * (n : Int) * (t.length : Int) + 162 * (n : Int) := by
      push_cast; rw [Int.mul_add, Int.mul_one]
    rw [e]
    omega
end Go.Proofs.Ytdjddfeokpmfaaa.Pth
