/- Solids as plain lists: what a solid is, its number, faces and names. No program in sight. -/
set_option linter.unusedVariables false
set_option linter.unusedSimpArgs false
namespace Go.Proofs.Ytfigjcnhchpobaa.Sol
def inB (x : Int) : Bool := decide (1 ≤ x) && decide (x ≤ 12)
def solB (l : List Int) : Bool := l.all inB && l.length == 6
theorem sol_six {l : List Int} (h : solB l = true) : ∃ a b c d e f : Int, l = [a, b, c, d, e, f] ∧ (1 ≤ a ∧ a ≤ 12) ∧ (1 ≤ b ∧ b ≤ 12) ∧ (1 ≤ c ∧ c ≤ 12) ∧ (1 ≤ d ∧ d ≤ 12) ∧ (1 ≤ e ∧ e ≤ 12) ∧ (1 ≤ f ∧ f ≤ 12) := by
  unfold solB at h
  rw [Bool.and_eq_true] at h
  obtain ⟨h1, h2⟩ := h
  match l, h1, h2 with
  | [a, b, c, d, e, f], h1, _ =>
    simp only [List.all_cons, List.all_nil, Bool.and_true, Bool.and_eq_true, inB, decide_eq_true_eq] at h1
    exact ⟨a, b, c, d, e, f, rfl, h1.1, h1.2.1, h1.2.2.1, h1.2.2.2.1, h1.2.2.2.2.1, h1.2.2.2.2.2⟩
  | [], _, h2 => simp at h2
  | [_], _, h2 => simp at h2
  | [_, _], _, h2 => simp at h2
  | [_, _, _], _, h2 => simp at h2
  | [_, _, _, _], _, h2 => simp at h2
  | [_, _, _, _, _], _, h2 => simp at h2
  | _ :: _ :: _ :: _ :: _ :: _ :: _ :: _, _, h2 => simp at h2
theorem solB_six (a b c d e f : Int) : solB [a, b, c, d, e, f] = (inB a && (inB b && (inB c && (inB d && (inB e && inB f))))) := by
  simp [solB]
/-- The place of the edge of two corners. -/
def E (i k : Int) : Int := if min i k = 0 then max i k - 1 else if min i k = 1 then max i k + 1 else 5
/-- The solid s, its corners called otherwise. -/
def named (s c : List Int) : List Int :=
  let x := fun i => c.getD i 0
  let g := fun i k => s.getD (E (x i) (x k)).toNat 0
  [g 0 1, g 0 2, g 0 3, g 1 2, g 1 3, g 2 3]
def perms : List (List Int) :=
  [[0, 1, 2, 3], [0, 1, 3, 2], [0, 2, 1, 3], [0, 2, 3, 1], [0, 3, 1, 2], [0, 3, 2, 1],
   [1, 0, 2, 3], [1, 0, 3, 2], [1, 2, 0, 3], [1, 2, 3, 0], [1, 3, 0, 2], [1, 3, 2, 0],
   [2, 0, 1, 3], [2, 0, 3, 1], [2, 1, 0, 3], [2, 1, 3, 0], [2, 3, 0, 1], [2, 3, 1, 0],
   [3, 0, 1, 2], [3, 0, 2, 1], [3, 1, 0, 2], [3, 1, 2, 0], [3, 2, 0, 1], [3, 2, 1, 0]]
/-- From place i on: each number from 0 to 3, none met before; and four of them in all. -/
def ordB (l : List Int) (i : Nat) : Bool := (List.range' i (l.length - i)).all (fun j => decide (0 ≤ l.getD j 0) && decide (l.getD j 0 ≤ 3) && !(l.take j).contains (l.getD j 0)) && l.length == 4
theorem ordB_end (l : List Int) : ordB l l.length = (l.length == 4) := by simp [ordB]
theorem ordB_step {l : List Int} {i : Nat} (h : i < l.length) : ordB l i = if l[i] < 0 ∨ l[i] > 3 ∨ (l.take i).contains l[i] = true then false else ordB l (i + 1) := by
  unfold ordB
  rw [show l.length - i = (l.length - (i + 1)) + 1 from by omega, List.range'_succ, List.all_cons]
  have e : l.getD i 0 = l[i] := by simp [h]
  rw [e]
  by_cases c : l[i] < 0 ∨ l[i] > 3 ∨ (l.take i).contains l[i] = true
  · rw [if_pos c]
    have : (decide (0 ≤ l[i]) && decide (l[i] ≤ 3) && !(l.take i).contains l[i]) = false := by
      rcases c with c | c | c
      · rw [decide_eq_false (by omega)]; rfl
      · rw [decide_eq_false (p := l[i] ≤ 3) (by omega)]; simp
      · rw [c]; simp
    rw [this]; simp
  · rw [if_neg c]
    simp only [not_or] at c
    have : (decide (0 ≤ l[i]) && decide (l[i] ≤ 3) && !(l.take i).contains l[i]) = true := by
      rw [decide_eq_true (by omega), decide_eq_true (by omega), Bool.eq_false_iff.2 c.2.2]; rfl
    rw [this]; simp
theorem four_of {l : List Int} (h : l.length = 4) : ∃ a b c d, l = [a, b, c, d] := by
  match l, h with
  | [a, b, c, d], _ => exact ⟨a, b, c, d, rfl⟩
theorem in4 {x : Int} (h0 : 0 ≤ x) (h1 : x ≤ 3) : x ∈ ([0, 1, 2, 3] : List Int) := by
  have : x = 0 ∨ x = 1 ∨ x = 2 ∨ x = 3 := by omega
  rcases this with rfl | rfl | rfl | rfl <;> decide
theorem all256 : ∀ a ∈ ([0, 1, 2, 3] : List Int), ∀ b ∈ ([0, 1, 2, 3] : List Int), ∀ c ∈ ([0, 1, 2, 3] : List Int), ∀ d ∈ ([0, 1, 2, 3] : List Int), ordB [a, b, c, d] 0 = perms.contains [a, b, c, d] := by decide +kernel
theorem ordB_iff (l : List Int) : ordB l 0 = true ↔ l ∈ perms := by
  constructor
  · intro h
    have h4 : l.length = 4 := by
      unfold ordB at h
      rw [Bool.and_eq_true] at h
      simpa using h.2
    obtain ⟨a, b, c, d, rfl⟩ := four_of h4
    have hh := h
    simp only [ordB, List.length_cons, List.length_nil, Bool.and_eq_true, List.all_eq_true, decide_eq_true_eq] at h
    have k0 := h.1 0 (by decide)
    have k1 := h.1 1 (by decide)
    have k2 := h.1 2 (by decide)
    have k3 := h.1 3 (by decide)
    simp only [List.getD_cons_zero, List.getD_cons_succ] at k0 k1 k2 k3
    have := all256 a (in4 k0.1.1 k0.1.2) b (in4 k1.1.1 k1.1.2) c (in4 k2.1.1 k2.1.2) d (in4 k3.1.1 k3.1.2)
    rw [hh] at this
    simpa using this.symm
  · intro h
    revert l
    decide +kernel
def number (a b c d e f : Int) : Int :=
  4 * (a * a) * (b * b) * (c * c) + (a * a + b * b - d * d) * (a * a + c * c - e * e) * (b * b + c * c - f * f)
    - (a * a) * (b * b + c * c - f * f) * (b * b + c * c - f * f) - (b * b) * (a * a + c * c - e * e) * (a * a + c * c - e * e)
    - (c * c) * (a * a + b * b - d * d) * (a * a + b * b - d * d)
def num (s : List Int) : Int := number (s.getD 0 0) (s.getD 1 0) (s.getD 2 0) (s.getD 3 0) (s.getD 4 0) (s.getD 5 0)
end Go.Proofs.Ytfigjcnhchpobaa.Sol
