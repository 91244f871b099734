import Derived.Test.YtdjddfeokpmfaaaPth
/- The box of a path: least and greatest coordinates of corners. No program in sight. -/
set_option linter.unusedVariables false
set_option linter.unusedSimpArgs false
namespace Go.Proofs.Ytdjddfeokpmfaaa.Box
open Go.Proofs.Ytdjddfeokpmfaaa.Pth
def lo (f : Nat → Int) : Nat → Int
  | 0 => 0
  | i + 1 => min (lo f i) (f i)
def hi (f : Nat → Int) : Nat → Int
  | 0 => 0
  | i + 1 => max (hi f i) (f i)
theorem lo_le (f : Nat → Int) (n : Nat) : lo f n ≤ 0 ∧ ∀ j, j < n → lo f n ≤ f j := by
  induction n with
  | zero => exact ⟨Int.le_refl _, fun j hj => by omega⟩
  | succ n ih =>
    unfold lo
    refine ⟨by omega, fun j hj => ?_⟩
    by_cases h : j = n
    · subst h; omega
    · have := ih.2 j (by omega); omega
theorem lo_at (f : Nat → Int) (n : Nat) : lo f n = 0 ∨ ∃ j, j < n ∧ lo f n = f j := by
  induction n with
  | zero => exact Or.inl rfl
  | succ n ih =>
    unfold lo
    by_cases h : lo f n ≤ f n
    · rw [Int.min_eq_left h]
      rcases ih with ih | ⟨j, hj, e⟩
      · exact Or.inl ih
      · exact Or.inr ⟨j, by omega, e⟩
    · rw [Int.min_eq_right (by omega)]
      exact Or.inr ⟨n, by omega, rfl⟩
theorem hi_lo (f : Nat → Int) (n : Nat) : hi f n = -lo (fun i => -f i) n := by
  induction n with
  | zero => rfl
  | succ n ih => unfold hi lo; rw [ih]; omega
theorem lo_same {f g : Nat → Int} {n : Nat} (h : ∀ j, j < n → f j = 0 ∨ ∃ i, i < n ∧ f j = g i) (k : ∀ j, j < n → g j = 0 ∨ ∃ i, i < n ∧ g j = f i) : lo f n = lo g n := by
  have hf := lo_le f n
  have hg := lo_le g n
  have a : lo g n ≤ lo f n := by
    rcases lo_at f n with e | ⟨j, hj, e⟩
    · omega
    · rcases h j hj with e2 | ⟨i, hi, e2⟩
      · omega
      · have := hg.2 i hi; omega
  have b : lo f n ≤ lo g n := by
    rcases lo_at g n with e | ⟨j, hj, e⟩
    · omega
    · rcases k j hj with e2 | ⟨i, hi, e2⟩
      · omega
      · have := hf.2 i hi; omega
  omega
theorem hi_same {f g : Nat → Int} {n : Nat} (h : ∀ j, j < n → f j = 0 ∨ ∃ i, i < n ∧ f j = g i) (k : ∀ j, j < n → g j = 0 ∨ ∃ i, i < n ∧ g j = f i) : hi f n = hi g n := by
  rw [hi_lo, hi_lo, lo_same (f := fun i => -f i) (g := fun i => -g i)]
  · intro j hj
    rcases h j hj with e | ⟨i, hi, e⟩
    · exact Or.inl (by omega)
    · exact Or.inr ⟨i, hi, by omega⟩
  · intro j hj
    rcases k j hj with e | ⟨i, hi, e⟩
    · exact Or.inl (by omega)
    · exact Or.inr ⟨i, hi, by omega⟩
def px (q : List V) (i : Nat) : Int := sx (q.take i)
def py (q : List V) (i : Nat) : Int := sy (q.take i)
def wx (q : List V) : Int := hi (px q) q.length - lo (px q) q.length
def wy (q : List V) : Int := hi (py q) q.length - lo (py q) q.length
theorem px_back {q : List V} (h : sx q = 0) (j : Nat) (_hj : j ≤ q.length) : px (back q) j = px q (q.length - j) := by
  unfold px back
  rw [List.take_reverse, sx_reverse, List.length_map, ← List.map_drop, sx_neg]
  have e : sx q = sx (q.take (q.length - j)) + sx (q.drop (q.length - j)) := by rw [← sx_append, List.take_append_drop]
  omega
theorem py_back {q : List V} (h : sy q = 0) (j : Nat) (_hj : j ≤ q.length) : py (back q) j = py q (q.length - j) := by
  unfold py back
  rw [List.take_reverse, sy_reverse, List.length_map, ← List.map_drop, sy_neg]
  have e : sy q = sy (q.take (q.length - j)) + sy (q.drop (q.length - j)) := by rw [← sy_append, List.take_append_drop]
  omega
theorem back_length (q : List V) : (back q).length = q.length := by simp [back]
theorem same_back {f g : Nat → Int} {n : Nat} (h : ∀ j, j ≤ n → f j = g (n - j)) (g0 : g 0 = 0) (gn : g n = 0) :
    (∀ j, j < n → f j = 0 ∨ ∃ i, i < n ∧ f j = g i) ∧ (∀ j, j < n → g j = 0 ∨ ∃ i, i < n ∧ g j = f i) := by
  refine ⟨fun j hj => ?_, fun j hj => ?_⟩
  · by_cases c : j = 0
    · subst c; rw [h 0 (by omega)]; exact Or.inl gn
    · exact Or.inr ⟨n - j, by omega, h j (by omega)⟩
  · by_cases c : j = 0
    · subst c; exact Or.inl g0
    · refine Or.inr ⟨n - j, by omega, ?_⟩
      rw [h _ (by omega), show n - (n - j) = j from by omega]
theorem wx_back {q : List V} (h : Path q) : wx (back q) = wx q := by
  obtain ⟨a, b⟩ := same_back (f := px (back q)) (g := px q) (n := q.length) (px_back h.x0) rfl (by unfold px; rw [List.take_length]; exact h.x0)
  unfold wx
  rw [back_length, lo_same a b, hi_same a b]
theorem wy_back {q : List V} (h : Path q) : wy (back q) = wy q := by
  obtain ⟨a, b⟩ := same_back (f := py (back q)) (g := py q) (n := q.length) (py_back h.y0) rfl (by unfold py; rw [List.take_length]; exact h.y0)
  unfold wy
  rw [back_length, lo_same a b, hi_same a b]
theorem turn_length (q : List V) : (turn q).length = q.length := by simp [turn]
theorem px_turn (q : List V) : px (turn q) = fun i => -py q i := by
  funext i; unfold px py turn; rw [← List.map_take, sx_rot]
theorem py_turn (q : List V) : py (turn q) = px q := by
  funext i; unfold px py turn; rw [← List.map_take, sy_rot]
theorem wx_turn (q : List V) : wx (turn q) = wy q := by
  unfold wx wy
  rw [turn_length, px_turn, hi_lo, hi_lo]
  have : (fun i => - -py q i) = py q := by funext i; omega
  rw [this]; omega
theorem wy_turn (q : List V) : wy (turn q) = wx q := by
  unfold wx wy
  rw [turn_length, py_turn]
end Go.Proofs.Ytdjddfeokpmfaaa.Box
