import Derived.Test.YtpopdfffcokilaaOrd
import Derived.Test.YtpopdfffcokilaaBox
/- Convex paths stay convex when turned, and fit into their boxes. No program in sight. -/
set_option linter.unusedVariables false
set_option linter.unusedSimpArgs false
namespace Go.Proofs.Ytpopdfffcokilaa.Wide
open Go.Proofs.Ytpopdfffcokilaa.Pth Go.Proofs.Ytpopdfffcokilaa.Srt Go.Proofs.Ytpopdfffcokilaa.Cvx Go.Proofs.Ytpopdfffcokilaa.Iso Go.Proofs.Ytpopdfffcokilaa.Ord Go.Proofs.Ytpopdfffcokilaa.Box
def dI (a b : V) : Int := if half b < half a then 1 else 0
/-- Rightwards below. -/
def q3 (v : V) : Int := if 0 ≤ v.1 ∧ v.2 < 0 then 1 else 0
theorem good_cr {a b : V} (h : good (a, b) = true) : 0 ≤ cr a b := by
  unfold good bad at h
  by_cases c : cr a b < 0
  · rw [decide_eq_true (show cr (a, b).1 (a, b).2 < 0 from c)] at h
    cases h
  · omega
theorem good_desc {a b : V} (h : good (a, b) = true) : desc a b = decide (half b < half a) := by
  have := good_cr h
  unfold desc before
  by_cases c : half b = half a
  · rw [if_pos c, cr_swap a b, decide_eq_false (by omega), decide_eq_false (by omega)]
  · rw [if_neg c]
theorem cr_rot (a b : V) : cr (rot a) (rot b) = cr a b := by unfold cr rot; grind
theorem dot_rot (a b : V) : dot (rot a) (rot b) = dot a b := by unfold dot rot; grind
theorem good_rot (a b : V) : good (rot a, rot b) = good (a, b) := by
  unfold good bad
  rw [cr_rot, dot_rot]
theorem q3_cases {v : V} (h : nz v) : (v.1 > 0 ∧ v.2 ≥ 0 ∧ half v = 0 ∧ half (rot v) = 0 ∧ q3 v = 0) ∨ (v.1 ≤ 0 ∧ v.2 > 0 ∧ half v = 0 ∧ half (rot v) = 1 ∧ q3 v = 0) ∨ (v.1 < 0 ∧ v.2 ≤ 0 ∧ half v = 1 ∧ half (rot v) = 1 ∧ q3 v = 0) ∨ (v.1 ≥ 0 ∧ v.2 < 0 ∧ half v = 1 ∧ half (rot v) = 0 ∧ q3 v = 1) := by
  unfold nz at h
  have e0 := half_zero v
  have e1 := half_one v
  have r0 := half_zero (rot v)
  have r1 := half_one (rot v)
  unfold rot at r0 r1 ⊢
  dsimp only at r0 r1
  unfold q3
  split <;> omega
theorem cr_neg_of {a b : V} (h : (a.1 * b.2 ≤ 0 ∧ 0 < a.2 * b.1) ∨ (a.1 * b.2 < 0 ∧ 0 ≤ a.2 * b.1)) : cr a b < 0 := by
  unfold cr; omega
theorem mul_nn' {a b : Int} (ha : a ≤ 0) (hb : b ≤ 0) : 0 ≤ a * b := by
  have := mul_nn (show 0 ≤ -a by omega) (show 0 ≤ -b by omega)
  rwa [Int.neg_mul_neg] at this
theorem mul_pn {a b : Int} (ha : 0 < a) (hb : b < 0) : a * b < 0 := by
  have := Int.mul_pos ha (show 0 < -b by omega)
  rw [Int.mul_neg] at this
  omega
theorem mul_np' {a b : Int} (ha : a ≤ 0) (hb : 0 ≤ b) : a * b ≤ 0 := by
  rw [Int.mul_comm]; exact mul_np hb ha
theorem dI_rot {a b : V} (ha : nz a) (hb : nz b) (h : good (a, b) = true) : dI (rot a) (rot b) = dI a b + q3 b - q3 a := by
  have hc := good_cr h
  unfold dI
  rcases q3_cases ha with ⟨a1, a2, a3, a4, a5⟩ | ⟨a1, a2, a3, a4, a5⟩ | ⟨a1, a2, a3, a4, a5⟩ | ⟨a1, a2, a3, a4, a5⟩ <;>
    rcases q3_cases hb with ⟨b1, b2, b3, b4, b5⟩ | ⟨b1, b2, b3, b4, b5⟩ | ⟨b1, b2, b3, b4, b5⟩ | ⟨b1, b2, b3, b4, b5⟩ <;>
    rw [a3, a4, a5, b3, b4, b5]
  · decide
  · decide
  · decide
  · exfalso
    have := cr_neg_of (a := a) (b := b) (Or.inr ⟨mul_pn a1 b2, mul_nn a2 b1⟩)
    omega
  · exfalso
    have := cr_neg_of (a := a) (b := b) (Or.inl ⟨mul_np' a1 b2, Int.mul_pos a2 b1⟩)
    omega
  · decide
  · decide
  · decide
  · decide
  · exfalso
    have := cr_neg_of (a := a) (b := b) (Or.inr ⟨by rw [Int.mul_comm]; exact mul_pn b2 a1, mul_nn' a2 b1⟩)
    omega
  · decide
  · decide
  · decide
  · decide
  · exfalso
    have := cr_neg_of (a := a) (b := b) (Or.inl ⟨mul_np a1 b2, by
      have := Int.mul_pos (show 0 < -a.2 by omega) (show 0 < -b.1 by omega)
      rwa [Int.neg_mul_neg] at this⟩)
    omega
  · decide
theorem countP_sum {α : Type} (p : α → Bool) (f : α → Int) (l : List α) (h : ∀ x ∈ l, f x = if p x = true then 1 else 0) : (l.countP p : Int) = (l.map f).sum := by
  induction l with
  | nil => rfl
  | cons x l ih =>
    rw [List.countP_cons, List.map_cons, List.sum_cons, ← ih (fun y hy => h y (by simp [hy])), h x (by simp)]
    by_cases c : p x = true
    · rw [if_pos c, if_pos c]; omega
    · rw [if_neg c, if_neg c]; omega
theorem sum_add {α : Type} (f g : α → Int) (l : List α) : (l.map (fun x => f x + g x)).sum = (l.map f).sum + (l.map g).sum := by
  induction l with
  | nil => rfl
  | cons x l ih => rw [List.map_cons, List.map_cons, List.map_cons, List.sum_cons, List.sum_cons, List.sum_cons, ih]; omega
theorem sum_congr {α : Type} {f g : α → Int} {l : List α} (h : ∀ x ∈ l, f x = g x) : (l.map f).sum = (l.map g).sum := by
  rw [List.map_congr_left h]
theorem prs_fst (q : List V) (g : V → Int) : ((prs q).map (fun x => g x.1)).sum = (q.map g).sum := by
  have : (prs q).map (fun x => g x.1) = ((prs q).map Prod.fst).map g := by rw [List.map_map]; rfl
  rw [this]
  unfold prs
  rw [List.map_fst_zip (by simp; omega)]
theorem prs_snd (q : List V) (g : V → Int) : ((prs q).map (fun x => g x.2)).sum = (q.map g).sum := by
  have : (prs q).map (fun x => g x.2) = ((prs q).map Prod.snd).map g := by rw [List.map_map]; rfl
  rw [this]
  unfold prs
  rw [List.map_snd_zip (by simp; omega), List.map_append, List.sum_append, Int.add_comm, ← List.sum_append, ← List.map_append, List.take_append_drop]
theorem prs_turn (q : List V) : prs (turn q) = (prs q).map (fun x => (rot x.1, rot x.2)) := by
  unfold prs turn
  rw [← List.map_drop, ← List.map_take, ← List.map_append, List.zip_map]
  rfl
theorem prs_mem {q : List V} {x : V × V} (h : x ∈ prs q) : x.1 ∈ q ∧ x.2 ∈ q := by
  have := List.of_mem_zip (a := x.1) (b := x.2) h
  refine ⟨this.1, ?_⟩
  rcases List.mem_append.1 this.2 with h | h
  · exact List.mem_of_mem_drop h
  · exact List.mem_of_mem_take h
theorem cvx_turn {q : List V} (hz : ∀ v ∈ q, nz v) (h : cvx q = true) : cvx (turn q) = true := by
  unfold cvx at h ⊢
  rw [Bool.and_eq_true, decide_eq_true_eq] at h
  obtain ⟨hg, hc⟩ := h
  rw [List.all_eq_true] at hg
  rw [prs_turn, Bool.and_eq_true, decide_eq_true_eq]
  refine ⟨?_, ?_⟩
  · rw [List.all_eq_true]
    intro x hx
    obtain ⟨y, hy, rfl⟩ := List.mem_map.1 hx
    rw [good_rot]
    exact hg y hy
  · have e1 : ((prs q).countP dsc : Int) = ((prs q).map (fun x => dI x.1 x.2)).sum := by
      apply countP_sum
      intro x hx
      unfold dI dsc
      rw [good_desc (hg x hx)]
      simp
    have e2 : (((prs q).map (fun x => (rot x.1, rot x.2))).countP dsc : Int) = ((prs q).map (fun x => dI (rot x.1) (rot x.2))).sum := by
      rw [List.countP_map]
      apply countP_sum
      intro x hx
      unfold dI
      have : (dsc ∘ fun x : V × V => (rot x.1, rot x.2)) x = desc (rot x.1) (rot x.2) := rfl
      rw [this, good_desc (by rw [good_rot]; exact hg x hx)]
      simp
    have e3 : ((prs q).map (fun x => dI (rot x.1) (rot x.2))).sum = ((prs q).map (fun x => dI x.1 x.2 + (q3 x.2 + -q3 x.1))).sum := by
      apply sum_congr
      intro x hx
      have m := prs_mem hx
      rw [dI_rot (hz _ m.1) (hz _ m.2) (hg x hx)]
      omega
    rw [sum_add, sum_add, prs_snd q q3] at e3
    have e4 : ((prs q).map (fun x => -q3 x.1)).sum = (q.map (fun v => -q3 v)).sum := prs_fst q (fun v => -q3 v)
    have e5 : ∀ m : List V, (m.map q3).sum + (m.map (fun v => -q3 v)).sum = 0 := by
      intro m
      induction m with
      | nil => rfl
      | cons v t ih => rw [List.map_cons, List.map_cons, List.sum_cons, List.sum_cons]; omega
    have := e5 q
    omega
/-! ### boxes -/
def G (x : Int) : List V → Int
  | [] => 0
  | v :: t => (2 * x + v.1) * v.2 + G (x + v.1) t
def up (l : List V) : Int := (l.map (fun v => max v.2 0)).sum
def dn (l : List V) : Int := (l.map (fun v => max (-v.2) 0)).sum
end Go.Proofs.Ytpopdfffcokilaa.Wide
