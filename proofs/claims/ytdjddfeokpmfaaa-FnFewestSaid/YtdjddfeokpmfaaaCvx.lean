import Derived.Test.YtdjddfeokpmfaaaSrt
/- Convex paths: turns to the left, one full turn in all; their areas. No program in sight. -/
set_option linter.unusedVariables false
set_option linter.unusedSimpArgs false
namespace Go.Proofs.Ytdjddfeokpmfaaa.Cvx
open Go.Proofs.Ytdjddfeokpmfaaa.Pth Go.Proofs.Ytdjddfeokpmfaaa.Srt
def dot (a b : V) : Int := a.1 * b.1 + a.2 * b.2
/-- A turn to the right, or half a turn. -/
def bad (a b : V) : Bool := decide (cr a b < 0) || (decide (cr a b = 0) && decide (dot a b < 0))
/-- The directions begin again. -/
def desc (a b : V) : Bool := before b a
def prs (q : List V) : List (V × V) := q.zip (q.drop 1 ++ q.take 1)
def good (x : V × V) : Bool := !bad x.1 x.2
def dsc (x : V × V) : Bool := desc x.1 x.2
def cvx (q : List V) : Bool := (prs q).all good && decide ((prs q).countP dsc = 1)
theorem prs_length (q : List V) : (prs q).length = q.length := by simp [prs]; omega
theorem prs_get {q : List V} {i : Nat} (h : i < q.length) : (prs q)[i]'(by rw [prs_length]; exact h) = (q[i], q[(i + 1) % q.length]'(Nat.mod_lt _ (by omega))) := by
  simp only [prs, List.getElem_zip]
  congr 1
  by_cases c : i + 1 < q.length
  · rw [List.getElem_append_left (by simp; omega)]
    simp only [List.getElem_drop]
    congr 1
    rw [Nat.mod_eq_of_lt c]; omega
  · have e : i + 1 = q.length := by omega
    rw [List.getElem_append_right (by simp; omega)]
    simp only [List.getElem_take]
    congr 1
    rw [e, Nat.mod_self]; simp; omega
theorem begin_length (q : List V) (k : Nat) : (begin_ q k).length = q.length := by simp [begin_]; omega
theorem begin_get {q : List V} {k i : Nat} (hk : k ≤ q.length) (h : i < q.length) : (begin_ q k)[i]'(by rw [begin_length]; exact h) = q[(i + k) % q.length]'(Nat.mod_lt _ (by omega)) := by
  simp only [begin_]
  by_cases c : i < q.length - k
  · rw [List.getElem_append_left (by simp; omega)]
    simp only [List.getElem_drop]
    congr 1
    rw [Nat.mod_eq_of_lt (by omega)]; omega
  · rw [List.getElem_append_right (by simp; omega)]
    simp only [List.getElem_take]
    congr 1
    rw [List.length_drop]
    have : i + k = q.length + (i - (q.length - k)) := by omega
    rw [this, Nat.add_mod_left, Nat.mod_eq_of_lt (by omega)]
theorem prs_begin {q : List V} {k : Nat} (hk : k ≤ q.length) : prs (begin_ q k) = (prs q).drop k ++ (prs q).take k := by
  apply List.ext_getElem
  · rw [prs_length, begin_length]; simp [prs_length]; omega
  · intro i h1 h2
    have hi : i < q.length := by rw [prs_length, begin_length] at h1; exact h1
    rw [prs_get (by rw [begin_length]; exact hi)]
    have e1 : ((prs q).drop k ++ (prs q).take k)[i] = (prs q)[(i + k) % q.length]'(by rw [prs_length]; exact Nat.mod_lt _ (by omega)) := by
      by_cases c : i < q.length - k
      · rw [List.getElem_append_left (by simp [prs_length]; omega)]
        simp only [List.getElem_drop]
        congr 1
        rw [Nat.mod_eq_of_lt (by omega)]; omega
      · rw [List.getElem_append_right (by simp [prs_length]; omega)]
        simp only [List.getElem_take]
        congr 1
        rw [List.length_drop, prs_length]
        have : i + k = q.length + (i - (q.length - k)) := by omega
        rw [this, Nat.add_mod_left, Nat.mod_eq_of_lt (by omega)]
    rw [e1, prs_get (Nat.mod_lt _ (by omega)), begin_get hk hi]
    congr 1
    have hm : (i + 1) % (begin_ q k).length < q.length := by rw [begin_length]; exact Nat.mod_lt _ (by omega)
    rw [begin_get hk hm]
    congr 1
    rw [begin_length, Nat.mod_add_mod, Nat.mod_add_mod]
    congr 1; omega
theorem cvx_begin {q : List V} {k : Nat} (hk : k ≤ q.length) : cvx (begin_ q k) = cvx q := by
  unfold cvx
  rw [prs_begin hk]
  have p : ((prs q).drop k ++ (prs q).take k).Perm (prs q) := by
    have := (List.perm_append_comm (l₁ := (prs q).drop k) (l₂ := (prs q).take k))
    rwa [List.take_append_drop] at this
  rw [p.countP_eq, p.all_eq]
theorem begin_back {q : List V} {k : Nat} (h0 : 0 < q.length) (hk : k < q.length) : begin_ (begin_ q k) ((q.length - k) % q.length) = q := by
  by_cases c : k = 0
  · subst c
    simp [begin_]
  · rw [Nat.mod_eq_of_lt (by omega)]
    unfold begin_
    have hl : (q.drop k).length = q.length - k := by simp
    rw [← hl, List.drop_left, List.take_left, List.take_append_drop]
end Go.Proofs.Ytdjddfeokpmfaaa.Cvx
