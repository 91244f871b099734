import Derived.Test.YtkphiccdgclldaaBase
import Derived.Test.YtkphiccdgclldaaPth
/- Stars of steps: sums over pairs. No program in sight. -/
set_option linter.unusedVariables false
set_option linter.unusedSimpArgs false
namespace Go.Proofs.Ytkphiccdgclldaa.Star
open Go.Proofs.Ytkphiccdgclldaa.Pth
/-- The sum of f over the pairs of places, the later place first. -/
def PS (f : V → V → Int) : List V → Int
  | [] => 0
  | v :: t => (t.map (fun u => f u v)).sum + PS f t
def RS (f : V → V → Int) (v : V) (p : List V) : Int := (p.map (fun u => f v u)).sum
theorem RS_nil (f : V → V → Int) (v : V) : RS f v [] = 0 := rfl
theorem RS_append (f : V → V → Int) (v : V) (a b : List V) : RS f v (a ++ b) = RS f v a + RS f v b := by simp [RS]
theorem RS_take (f : V → V → Int) (v : V) {p : List V} {i : Nat} (h : i < p.length) : RS f v (p.take (i + 1)) = RS f v (p.take i) + f v p[i] := by
  rw [List.take_succ_eq_append_getElem h, RS_append]; simp [RS]
theorem PS_snoc (f : V → V → Int) (q : List V) (v : V) : PS f (q ++ [v]) = PS f q + RS f v q := by
  induction q with
  | nil => simp [PS, RS]
  | cons u t ih =>
    simp only [List.cons_append, PS, ih, List.map_append, List.sum_append, RS, List.map_cons, List.map_nil, List.sum_cons, List.sum_nil]
    omega
theorem PS_take (f : V → V → Int) {q : List V} {i : Nat} (h : i < q.length) : PS f (q.take (i + 1)) = PS f (q.take i) + RS f q[i] (q.take i) := by
  rw [List.take_succ_eq_append_getElem h, PS_snoc]
theorem sum_reverse (l : List Int) : l.reverse.sum = l.sum := by
  induction l with
  | nil => rfl
  | cons a t ih => rw [List.reverse_cons, List.sum_append, ih]; simp; omega
theorem PS_reverse (f : V → V → Int) (hf : ∀ a b, f a b = f b a) (q : List V) : PS f q.reverse = PS f q := by
  induction q with
  | nil => rfl
  | cons v t ih =>
    rw [List.reverse_cons, PS_snoc, ih, PS, RS, List.map_reverse, sum_reverse]
    have : (t.map fun u => f v u) = (t.map fun u => f u v) := List.map_congr_left (fun u _ => hf v u)
    rw [this]; omega
theorem RS_bound {f : V → V → Int} {M : Int} (hM : 0 ≤ M) {v : V} {p : List V} (h : ∀ u ∈ p, 0 ≤ f v u ∧ f v u ≤ M) : 0 ≤ RS f v p ∧ RS f v p ≤ M * p.length := by
  induction p with
  | nil => simp [RS]
  | cons u t ih =>
    have h1 := h u (by simp)
    have h2 := ih (fun w hw => h w (by simp [hw]))
    simp only [RS, List.map_cons, List.sum_cons, List.length_cons] at h2 ⊢
    have e : M * ((t.length + 1 : Nat) : Int) = M * (t.length : Int) + M := by push_cast; rw [Int.mul_add, Int.mul_one]
    rw [e]; omega
theorem PS_bound {f : V → V → Int} {M : Int} (hM : 0 ≤ M) (n : Nat) {q : List V} (hn : q.length ≤ n) (h : ∀ v ∈ q, ∀ u ∈ q, 0 ≤ f v u ∧ f v u ≤ M) : 0 ≤ PS f q ∧ PS f q ≤ M * n * q.length := by
  induction q with
  | nil => simp [PS]
  | cons v t ih =>
    simp only [List.length_cons] at hn
    have h2 := ih (by omega) (fun a ha b hb => h a (by simp [ha]) b (by simp [hb]))
    have h1 := RS_bound (f := fun a b => f b a) (v := v) (p := t) hM (fun u hu => h u (by simp [hu]) v (by simp))
    simp only [RS] at h1
    simp only [PS, List.length_cons]
    have e : M * n * ((t.length + 1 : Nat) : Int) = M * n * (t.length : Int) + M * n := by push_cast; rw [Int.mul_add, Int.mul_one]
    have e2 : M * (t.length : Int) ≤ M * n := Int.mul_le_mul_of_nonneg_left (by omega) hM
    rw [e]; omega
theorem PS_zero {f g : V → V → Int} (hfg : ∀ a b, f a b = 0 ↔ g a b = 0) (hf : ∀ a b, 0 ≤ f a b) (hg : ∀ a b, 0 ≤ g a b) (q : List V) : PS f q = 0 ↔ PS g q = 0 := by
  have key : ∀ (f : V → V → Int), (∀ a b, 0 ≤ f a b) → ∀ q, 0 ≤ PS f q ∧ ∀ v (t : List V), 0 ≤ (t.map fun u => f u v).sum := by
    intro f hf q
    have h2 : ∀ v (t : List V), 0 ≤ (t.map fun u => f u v).sum := by
      intro v t
      induction t with
      | nil => simp
      | cons u t ih => have := hf u v; simp only [List.map_cons, List.sum_cons]; omega
    refine ⟨?_, h2⟩
    induction q with
    | nil => simp [PS]
    | cons v t ih => have := h2 v t; simp only [PS]; omega
  have row : ∀ v (t : List V), (t.map fun u => f u v).sum = 0 ↔ (t.map fun u => g u v).sum = 0 := by
    intro v t
    induction t with
    | nil => simp
    | cons u t ih =>
      have a1 := hf u v; have a2 := hg u v; have a3 := hfg u v
      have a4 := (key f hf []).2 v t; have a5 := (key g hg []).2 v t
      simp only [List.map_cons, List.sum_cons]; omega
  induction q with
  | nil => simp [PS]
  | cons v t ih =>
    have a1 := (key f hf t).1; have a2 := (key g hg t).1; have a3 := (key f hf t).2 v t; have a4 := (key g hg t).2 v t; have a5 := row v t
    simp only [PS]; omega
/-- The cross product's size, and whether it is not zero. -/
def ac (a b : V) : Int := max (cr a b) (-cr a b)
def nz (a b : V) : Int := if cr a b = 0 then 0 else 1
theorem cr_flip (a b : V) : cr b a = -cr a b := by unfold cr; grind
theorem ac_sym (a b : V) : ac a b = ac b a := by unfold ac; rw [cr_flip a b]; omega
theorem ac_nonneg (a b : V) : 0 ≤ ac a b := by unfold ac; omega
theorem nz_nonneg (a b : V) : 0 ≤ nz a b := by unfold nz; split <;> omega
theorem nz_le (a b : V) : nz a b ≤ 1 := by unfold nz; split <;> omega
theorem ac_nz (a b : V) : ac a b = 0 ↔ nz a b = 0 := by unfold ac nz; split <;> omega
theorem cr_bound {a b : V} (ha : stepV a) (hb : stepV b) : -162 ≤ cr a b ∧ cr a b ≤ 162 := by
  simp only [stepV] at ha hb
  unfold cr
  have m1 := mul9 (x := a.1) (v := b.2) (M := 9) ⟨ha.1, ha.2.1⟩ ⟨hb.2.2.1, hb.2.2.2.1⟩
  have m2 := mul9 (x := a.2) (v := b.1) (M := 9) ⟨ha.2.2.1, ha.2.2.2.1⟩ ⟨hb.1, hb.2.1⟩
  omega
theorem ac_bound {a b : V} (ha : stepV a) (hb : stepV b) : 0 ≤ ac a b ∧ ac a b ≤ 162 := by
  have := cr_bound ha hb
  unfold ac; omega
def starB (p : List (List Int)) : Bool := p.all stepB && decide (2 ≤ p.length) && decide (p.length ≤ 4)
structure Star (q : List V) : Prop where
  lo : 2 ≤ q.length
  hi : q.length ≤ 4
  st : ∀ v ∈ q, stepV v
theorem star_of {p : List (List Int)} (h : starB p = true) : ∃ q, p = L q ∧ Star q := by
  simp only [starB, Bool.and_eq_true, decide_eq_true_eq] at h
  obtain ⟨⟨h3, h1⟩, h2⟩ := h
  obtain ⟨q, rfl, hq⟩ := all_steps p h3
  rw [L_length] at h1 h2
  exact ⟨q, rfl, h1, h2, hq⟩
theorem starB_L {q : List V} (h : Star q) : starB (L q) = true := by
  simp only [starB, Bool.and_eq_true, decide_eq_true_eq, L_length]
  refine ⟨⟨?_, h.lo⟩, h.hi⟩
  rw [List.all_eq_true]
  intro s hs
  obtain ⟨v, hv, rfl⟩ := List.mem_map.1 hs
  exact (stepB_ofV v).2 (h.st v hv)
theorem star_reverse {q : List V} (h : Star q) : Star q.reverse := ⟨by rw [List.length_reverse]; exact h.lo, by rw [List.length_reverse]; exact h.hi, fun v hv => h.st v (List.mem_reverse.1 hv)⟩
theorem area_bound {q : List V} (h : Star q) (i : Nat) : 0 ≤ PS ac (q.take i) ∧ PS ac (q.take i) ≤ 2592 := by
  have hl : (q.take i).length ≤ 4 := by have := h.hi; simp; omega
  have := PS_bound (f := ac) (M := 162) (by omega) 4 hl (fun a ha b hb => ac_bound (h.st a (List.mem_of_mem_take ha)) (h.st b (List.mem_of_mem_take hb)))
  omega
theorem row_bound {q : List V} (h : Star q) (i j : Nat) (hi : i < q.length) : 0 ≤ RS ac q[i] (q.take j) ∧ RS ac q[i] (q.take j) ≤ 648 := by
  have hl : (q.take j).length ≤ 4 := by have := h.hi; simp; omega
  have := RS_bound (f := ac) (M := 162) (v := q[i]) (p := q.take j) (by omega) (fun u hu => ac_bound (h.st _ (List.getElem_mem _)) (h.st u (List.mem_of_mem_take hu)))
  omega
theorem pieces_bound {q : List V} (h : Star q) (i : Nat) : 0 ≤ PS nz (q.take i) ∧ PS nz (q.take i) ≤ 16 := by
  have hl : (q.take i).length ≤ 4 := by have := h.hi; simp; omega
  have := PS_bound (f := nz) (M := 1) (q := q.take i) (by omega) 4 hl (fun a _ b _ => ⟨nz_nonneg a b, nz_le a b⟩)
  omega
theorem prow_bound {q : List V} (h : Star q) (i j : Nat) (hi : i < q.length) : 0 ≤ RS nz q[i] (q.take j) ∧ RS nz q[i] (q.take j) ≤ 4 := by
  have hl : (q.take j).length ≤ 4 := by have := h.hi; simp; omega
  have := RS_bound (f := nz) (M := 1) (v := q[i]) (p := q.take j) (by omega) (fun u _ => ⟨nz_nonneg _ u, nz_le _ u⟩)
  omega
end Go.Proofs.Ytkphiccdgclldaa.Star
