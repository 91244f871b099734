import Derived.Test.YtdjddfeokpmfaaaPth
/- Steps put in order by their directions, by insertion. No program in sight. -/
set_option linter.unusedVariables false
set_option linter.unusedSimpArgs false
namespace Go.Proofs.Ytdjddfeokpmfaaa.Srt
open Go.Proofs.Ytdjddfeokpmfaaa.Pth
/-- The half of a direction: 0 from rightwards on to the left, 1 behind it. -/
def half (v : V) : Int := if v.2 > 0 then 0 else if v.2 = 0 ∧ v.1 > 0 then 0 else 1
def before (a b : V) : Bool := if half a = half b then decide (cr a b > 0) else decide (half a < half b)
/-- Where v is put: behind the last one of out's first k that it isn't before. -/
def pos (v : V) (out : List V) : Nat → Nat
  | 0 => 0
  | k + 1 => if before v (out.getD k (0, 0)) = true then pos v out k else k + 1
theorem pos_succ (v : V) (out : List V) (k : Nat) : pos v out (k + 1) = if before v (out.getD k (0, 0)) = true then pos v out k else k + 1 := rfl
theorem pos_le (v : V) (out : List V) (k : Nat) : pos v out k ≤ k := by
  induction k with
  | zero => exact Nat.le_refl _
  | succ k ih => unfold pos; split <;> omega
def ins (v : V) (out : List V) : List V := out.take (pos v out out.length) ++ [v] ++ out.drop (pos v out out.length)
theorem ins_length (v : V) (out : List V) : (ins v out).length = out.length + 1 := by
  have := pos_le v out out.length
  simp [ins]; omega
theorem ins_perm (v : V) (out : List V) : (ins v out).Perm (v :: out) := by
  unfold ins
  have h : (out.take (pos v out out.length) ++ [v] ++ out.drop (pos v out out.length)).Perm ([v] ++ out.take (pos v out out.length) ++ out.drop (pos v out out.length)) := (List.perm_append_comm).append_right _
  rw [List.append_assoc [v], List.take_append_drop] at h
  exact h
def srt (q : List V) : List V := q.foldl (fun out v => ins v out) []
theorem srt_nil : srt [] = [] := rfl
theorem srt_snoc (q : List V) (v : V) : srt (q ++ [v]) = ins v (srt q) := by simp [srt]
theorem srt_perm (q : List V) : (srt q).Perm q := by
  have key : ∀ (q out : List V), (q.foldl (fun out v => ins v out) out).Perm (out ++ q) := by
    intro q
    induction q with
    | nil => intro out; simp
    | cons v t ih =>
      intro out
      rw [List.foldl_cons]
      refine (ih (ins v out)).trans ?_
      refine ((ins_perm v out).append_right t).trans ?_
      rw [List.cons_append]
      exact (List.perm_middle).symm
  exact key q []
theorem srt_length (q : List V) : (srt q).length = q.length := (srt_perm q).length_eq
theorem srt_take {q : List V} {i : Nat} (h : i < q.length) : srt (q.take (i + 1)) = ins q[i] (srt (q.take i)) := by
  rw [List.take_succ_eq_append_getElem h, srt_snoc]
theorem srt_mem {q : List V} {v : V} : v ∈ srt q ↔ v ∈ q := (srt_perm q).mem_iff
end Go.Proofs.Ytdjddfeokpmfaaa.Srt
