import Derived.Test.YtpopdfffcokilaaBase
import Derived.Test.YtpopdfffcokilaaPth
/- Points inside of a path, counted: sums over a square. No program in sight. -/
set_option linter.unusedVariables false
set_option linter.unusedSimpArgs false
namespace Go.Proofs.Ytpopdfffcokilaa.Inn
open Go.Proofs.Ytpopdfffcokilaa.Pth Go.Proofs.Ytpopdfffcokilaa.Base
/-- g lo + .. + g (lo + n - 1). -/
def S (g : Int → Int) (lo : Int) : Nat → Int
  | 0 => 0
  | n + 1 => S g lo n + g (lo + n)
theorem S_bound {g : Int → Int} {M : Int} (h : ∀ x, 0 ≤ g x ∧ g x ≤ M) (lo : Int) (n : Nat) : 0 ≤ S g lo n ∧ S g lo n ≤ M * n := by
  induction n with
  | zero => simp [S]
  | succ n ih =>
    have := h (lo + n)
    have e : M * ((n + 1 : Nat) : Int) = M * (n : Int) + M := by push_cast; rw [Int.mul_add, Int.mul_one]
    rw [e]; simp only [S]; omega
theorem S_add (g : Int → Int) (lo : Int) (m n : Nat) : S g lo (m + n) = S g lo m + S g (lo + m) n := by
  induction n with
  | zero => simp [S]
  | succ n ih =>
    rw [← Nat.add_assoc]
    simp only [S]
    rw [ih, show lo + ((m + n : Nat) : Int) = lo + m + n from by omega]
    omega
theorem S_zero {g : Int → Int} {lo : Int} {n : Nat} (h : ∀ i : Nat, i < n → g (lo + i) = 0) : S g lo n = 0 := by
  induction n with
  | zero => rfl
  | succ n ih => simp only [S]; rw [ih (fun i hi => h i (by omega)), h n (by omega)]; rfl
theorem S_congr {f g : Int → Int} {lo : Int} {n : Nat} (h : ∀ i : Nat, i < n → f (lo + i) = g (lo + i)) : S f lo n = S g lo n := by
  induction n with
  | zero => rfl
  | succ n ih => simp only [S]; rw [ih (fun i hi => h i (by omega)), h n (by omega)]
theorem S_in {g : Int → Int} (h : ∀ x, x < -72 ∨ 72 < x → g x = 0) : S g (-80) 161 = S g (-72) 145 := by
  have e1 := S_add g (-80) 8 153
  have e2 := S_add g (-72) 145 8
  have z1 : S g (-80) 8 = 0 := S_zero (fun i hi => h _ (by omega))
  have z2 : S g (-72 + ((145 : Nat) : Int)) 8 = 0 := S_zero (fun i hi => h _ (by omega))
  have e3 : (-80 : Int) + ((8 : Nat) : Int) = -72 := by decide
  rw [e3] at e1
  show S g (-80) (8 + 153) = _
  rw [e1, z1]
  show 0 + S g (-72) (145 + 8) = _
  rw [e2, z2]
  omega
def edge (q : List V) (x y : Int) (e : Nat) : Int := cr (q.getD e (0, 0)) (x - sx (q.take e), y - sy (q.take e))
def posE (q : List V) (x y : Int) (e : Nat) : Bool := decide (0 < edge q x y e)
def rest (q : List V) (x y : Int) (e : Nat) : Bool := ((List.range q.length).drop e).all (posE q x y)
def inB (q : List V) (x y : Int) : Bool := (List.range q.length).all (posE q x y)
theorem rest_zero (q : List V) (x y : Int) : rest q x y 0 = inB q x y := rfl
theorem rest_end (q : List V) (x y : Int) : rest q x y q.length = true := by unfold rest; rw [List.drop_eq_nil_of_le (by simp)]; rfl
theorem rest_step (q : List V) (x y : Int) {e : Nat} (h : e < q.length) : rest q x y e = (posE q x y e && rest q x y (e + 1)) := by
  unfold rest
  rw [drop_cons (l := List.range q.length) (i := e) (by simp; exact h), List.all_cons, List.getElem_range]
def pt (q : List V) (x y : Int) : Int := if inB q x y = true then 1 else 0
theorem pt_bound (q : List V) (x y : Int) : 0 ≤ pt q x y ∧ pt q x y ≤ 1 := by unfold pt; split <;> omega
def row (q : List V) (lo : Int) (n : Nat) (x : Int) : Int := S (pt q x) lo n
theorem row_bound (q : List V) (lo : Int) (n : Nat) (x : Int) : 0 ≤ row q lo n x ∧ row q lo n x ≤ n := by
  have := S_bound (pt_bound q x) lo n
  unfold row; omega
def count (q : List V) (lo : Int) (n : Nat) : Int := S (row q lo n) lo n
/-! ### a point inside lies between the corners -/
def a (q : List V) (x y : Int) (i : Nat) : V := (sx (q.take i) - x, sy (q.take i) - y)
theorem edge_a (q : List V) (x y : Int) {e : Nat} (h : e < q.length) : edge q x y e = cr (a q x y e) (a q x y (e + 1)) := by
  have e1 : sx (q.take (e + 1)) = sx (q.take e) + q[e].1 := by rw [List.take_succ_eq_append_getElem h, sx_append]; simp [sx]
  have e2 : sy (q.take (e + 1)) = sy (q.take e) + q[e].2 := by rw [List.take_succ_eq_append_getElem h, sy_append]; simp [sy]
  have e3 : q.getD e (0, 0) = q[e] := by simp [h]
  unfold edge cr a
  rw [e3]
  dsimp only
  rw [e1, e2]
  grind
def lin (α β : Int) (v : V) : Int := α * v.1 + β * v.2
theorem plucker (α β : Int) (u v w : V) : lin α β v * cr u w = lin α β u * cr v w + lin α β w * cr u v := by unfold lin cr; grind
theorem half_plane {q : List V} {x y : Int} (hn : 2 ≤ q.length) (hx : sx q = 0) (hy : sy q = 0) (α β : Int) (hneg : ∀ i, i ≤ q.length → lin α β (a q x y i) < 0) : inB q x y = false := by
  refine Bool.eq_false_iff.2 fun hin => ?_
  have hpos : ∀ e, e < q.length → 0 < cr (a q x y e) (a q x y (e + 1)) := by
    intro e he
    unfold inB at hin
    have := List.all_eq_true.1 hin e (List.mem_range.2 he)
    unfold posE at this
    rw [decide_eq_true_eq, edge_a q x y he] at this
    exact this
  have chain : ∀ i, 1 ≤ i → i ≤ q.length → 0 < cr (a q x y 0) (a q x y i) := by
    intro i
    induction i with
    | zero => intro h; omega
    | succ i ih =>
      intro _ hi
      rcases Nat.eq_zero_or_pos i with rfl | hi0
      · exact hpos 0 (by omega)
      · have h1 := ih hi0 (by omega)
        have h2 := hpos i (by omega)
        have hp := plucker α β (a q x y 0) (a q x y i) (a q x y (i + 1))
        have n0 := hneg 0 (by omega)
        have n1 := hneg i (by omega)
        have n2 := hneg (i + 1) (by omega)
        have m1 := Int.mul_neg_of_neg_of_pos n0 h2
        have m2 := Int.mul_neg_of_neg_of_pos n2 h1
        refine Decidable.byContradiction fun hc => ?_
        have m3 := Int.mul_nonneg_of_nonpos_of_nonpos (a := lin α β (a q x y i)) (b := cr (a q x y 0) (a q x y (i + 1))) (by omega) (by omega)
        omega
  have hl := chain q.length (by omega) (by omega)
  have e : a q x y q.length = a q x y 0 := by
    unfold a
    rw [List.take_length, hx, hy]
    simp [sx, sy]
  rw [e] at hl
  have : cr (a q x y 0) (a q x y 0) = 0 := by unfold cr; grind
  omega
theorem inB_box {q : List V} (h : Path q) {x y : Int} (hin : inB q x y = true) : (-72 ≤ x ∧ x ≤ 72) ∧ -72 ≤ y ∧ y ≤ 72 := by
  have hb : ∀ i, (-72 ≤ sx (q.take i) ∧ sx (q.take i) ≤ 72) ∧ -72 ≤ sy (q.take i) ∧ sy (q.take i) ≤ 72 := by
    intro i
    have hx := sx_bound (take_mem h.st i)
    have hy := sy_bound (take_mem h.st i)
    have hl : ((q.take i).length : Int) ≤ 8 := by have := h.hi; simp; omega
    omega
  have hlo := h.lo
  have no : ∀ α β : Int, (∀ i, i ≤ q.length → lin α β (a q x y i) < 0) → False := fun α β hn => by
    have := half_plane (by omega) h.x0 h.y0 α β hn
    rw [this] at hin; cases hin
  refine ⟨⟨?_, ?_⟩, ?_, ?_⟩
  · refine Decidable.byContradiction fun hc => no (-1) 0 fun i _ => ?_
    have := hb i
    unfold lin a; dsimp only; omega
  · refine Decidable.byContradiction fun hc => no 1 0 fun i _ => ?_
    have := hb i
    unfold lin a; dsimp only; omega
  · refine Decidable.byContradiction fun hc => no 0 (-1) fun i _ => ?_
    have := hb i
    unfold lin a; dsimp only; omega
  · refine Decidable.byContradiction fun hc => no 0 1 fun i _ => ?_
    have := hb i
    unfold lin a; dsimp only; omega
theorem pt_out {q : List V} (h : Path q) {x y : Int} (ho : (x < -72 ∨ 72 < x) ∨ y < -72 ∨ 72 < y) : pt q x y = 0 := by
  unfold pt
  rw [if_neg]
  intro hin
  have := inB_box h hin
  omega
theorem count_same {q : List V} (h : Path q) : count q (-80) 161 = count q (-72) 145 := by
  unfold count
  have e : ∀ x, row q (-80) 161 x = row q (-72) 145 x := fun x => S_in (fun y hy => pt_out h (Or.inr hy))
  have e2 : row q (-80) 161 = row q (-72) 145 := funext e
  rw [e2]
  refine S_in (fun x hx => ?_)
  unfold row
  exact S_zero (fun i _ => pt_out h (Or.inl hx))
theorem edge_bound {q : List V} (h : Path q) {x y : Int} (hx : -80 ≤ x ∧ x ≤ 80) (hy : -80 ≤ y ∧ y ≤ 80) {e : Nat} (he : e < q.length) :
    (-152 ≤ x - sx (q.take e) ∧ x - sx (q.take e) ≤ 152) ∧ (-152 ≤ y - sy (q.take e) ∧ y - sy (q.take e) ≤ 152) ∧ (-1368 ≤ q[e].1 * (y - sy (q.take e)) ∧ q[e].1 * (y - sy (q.take e)) ≤ 1368) ∧ (-1368 ≤ q[e].2 * (x - sx (q.take e)) ∧ q[e].2 * (x - sx (q.take e)) ≤ 1368) := by
  have h1 := sx_bound (take_mem h.st e)
  have h2 := sy_bound (take_mem h.st e)
  have hl : ((q.take e).length : Int) ≤ 8 := by have := h.hi; simp; omega
  have hs := h.st q[e] (List.getElem_mem _)
  simp only [stepV] at hs
  have b1 : -152 ≤ x - sx (q.take e) ∧ x - sx (q.take e) ≤ 152 := by omega
  have b2 : -152 ≤ y - sy (q.take e) ∧ y - sy (q.take e) ≤ 152 := by omega
  have m1 := mul9 (x := y - sy (q.take e)) (v := q[e].1) (M := 152) b2 ⟨hs.1, hs.2.1⟩
  have m2 := mul9 (x := x - sx (q.take e)) (v := q[e].2) (M := 152) b1 ⟨hs.2.2.1, hs.2.2.2.1⟩
  rw [Int.mul_comm q[e].1, Int.mul_comm q[e].2]
  omega
end Go.Proofs.Ytpopdfffcokilaa.Inn
