import Derived.Test.YtdjddfeokpmfaaaHRaw
import Derived.Test.YtdjddfeokpmfaaaOrd
import Derived.Test.YtdjddfeokpmfaaaRim
/- A path with a run of its steps in opposite order. No program in sight. -/
set_option linter.unusedVariables false
set_option linter.unusedSimpArgs false
namespace Go.Proofs.Ytdjddfeokpmfaaa.Turn
open Go.Proofs.Ytdjddfeokpmfaaa.Pth Go.Proofs.Ytdjddfeokpmfaaa.Ord Go.Proofs.Ytdjddfeokpmfaaa.Rim Go.Proofs.Ytdjddfeokpmfaaa.HRaw
theorem L_turned (q : List V) (i j : Nat) : turned (L q) i j = L (turned q i j) := by simp [turned, L]
theorem turned_perm {β : Type} (l : List β) {i j : Nat} (h : i ≤ j) : (turned l i j).Perm l := by
  have e : l = l.take i ++ ((l.drop i).take (j + 1 - i) ++ l.drop (j + 1)) := by
    have h1 : l.drop (j + 1) = (l.drop i).drop (j + 1 - i) := by rw [List.drop_drop]; congr 1; omega
    rw [h1, List.take_append_drop, List.take_append_drop]
  have h2 : (turned l i j).Perm (l.take i ++ ((l.drop i).take (j + 1 - i) ++ l.drop (j + 1))) := ((List.reverse_perm _).append_right _).append_left _
  rw [← e] at h2
  exact h2
theorem turned_turned {β : Type} (l : List β) {i j : Nat} (h : i ≤ j) (hj : j < l.length) : turned (turned l i j) i j = l := by
  refine List.ext_getElem? fun m => ?_
  rw [turned_get h (by rw [turned_length h hj]; exact hj), turned_get h hj, turned_get h hj]
  by_cases c : i ≤ m ∧ m ≤ j
  · rw [if_pos c, if_pos (by omega)]; congr 1; omega
  · rw [if_neg c, if_neg c]
theorem path_turned {q : List V} (h : Path q) {i j : Nat} (hij : i ≤ j) : Path (turned q i j) := path_perm h (turned_perm q hij)
theorem A_turned (q : List V) {i j : Nat} (h : i ≤ j) : A (turned q i j) = A q - 2 * A ((q.drop i).take (j + 1 - i)) := by
  have e : q = q.take i ++ ((q.drop i).take (j + 1 - i) ++ q.drop (j + 1)) := by
    have h1 : q.drop (j + 1) = (q.drop i).drop (j + 1 - i) := by rw [List.drop_drop]; congr 1; omega
    rw [h1, List.take_append_drop, List.take_append_drop]
  have e2 : A q = A (q.take i ++ ((q.drop i).take (j + 1 - i) ++ q.drop (j + 1))) := by rw [← e]
  rw [e2]
  unfold turned
  rw [A_append, A_append, A_append, A_append, sx_append, sy_append, sx_append, sy_append, A_reverse, sx_reverse, sy_reverse]
  omega
theorem rim_perm {a b : List V} (h : a.Perm b) : rim a = rim b := perm_sum (h.map dv)
theorem rim_turned (q : List V) {i j : Nat} (h : i ≤ j) : rim (turned q i j) = rim q := rim_perm (turned_perm q h)
end Go.Proofs.Ytdjddfeokpmfaaa.Turn
