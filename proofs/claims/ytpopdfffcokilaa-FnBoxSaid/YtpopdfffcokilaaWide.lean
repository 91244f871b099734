import Derived.Test.YtpopdfffcokilaaOrd
import Derived.Test.YtpopdfffcokilaaBox
/- Convex paths stay convex when turned, and fit into their boxes. No program in sight. -/
set_option linter.unusedVariables false
set_option linter.unusedSimpArgs false
namespace Go.Proofs.Ytpopdfffcokilaa.Wide
open Go.Proofs.Ytpopdfffcokilaa.Pth Go.Proofs.Ytpopdfffcokilaa.Srt Go.Proofs.Ytpopdfffcokilaa.Cvx Go.Proofs.Ytpopdfffcokilaa.Iso Go.Proofs.Ytpopdfffcokilaa.Ord Go.Proofs.Ytpopdfffcokilaa.Box
def dI (a b : V) : Int := if half b < half a then 1 else 0
/-- Rightwards below. -/
def q3 (v : V) : Int := if 0 ≤ v.1 ∧ v.2 < 0 then 1 else 0
theorem good_cr {a b : V} (h : good (a, b) = true) : 0 ≤ cr a b := by
  unfold good bad at h
  by_cases c : cr a b < 0
  · rw [decide_eq_true (show cr (a, b).1 (a, b).2 < 0 from c)] at h
    cases h
  · omega
theorem good_desc {a b : V} (h : good (a, b) = true) : desc a b = decide (half b < half a) := by
  have := good_cr h
  unfold desc before
  by_cases c : half b = half a
  · rw [if_pos c, cr_swap a b, decide_eq_false (by omega), decide_eq_false (by omega)]
  · rw [if_neg c]
theorem cr_rot (a b : V) : cr (rot a) (rot b) = cr a b := by unfold cr rot; grind
theorem dot_rot (a b : V) : dot (rot a) (rot b) = dot a b := by unfold dot rot; grind
theorem good_rot (a b : V) : good (rot a, rot b) = good (a, b) := by
  unfold good bad
  rw [cr_rot, dot_rot]
theorem q3_cases {v : V} (h : nz v) : (v.1 > 0 ∧ v.2 ≥ 0 ∧ half v = 0 ∧ half (rot v) = 0 ∧ q3 v = 0) ∨ (v.1 ≤ 0 ∧ v.2 > 0 ∧ half v = 0 ∧ half (rot v) = 1 ∧ q3 v = 0) ∨ (v.1 < 0 ∧ v.2 ≤ 0 ∧ half v = 1 ∧ half (rot v) = 1 ∧ q3 v = 0) ∨ (v.1 ≥ 0 ∧ v.2 < 0 ∧ half v = 1 ∧ half (rot v) = 0 ∧ q3 v = 1) := by
  unfold nz at h
  have e0 := half_zero v
  have e1 := half_one v
  have r0 := half_zero (rot v)
  have r1 := half_one (rot v)
  unfold rot at r0 r1 ⊢
  dsimp only at r0 r1
  unfold q3
  split <;> omega
theorem cr_neg_of {a b : V} (h : (a.1 * b.2 ≤ 0 ∧ 0 < a.2 * b.1) ∨ (a.1 * b.2 < 0 ∧ 0 ≤ a.2 * b.1)) : cr a b < 0 := by
  unfold cr; omega
theorem mul_nn' {a b : Int} (ha : a ≤ 0) (hb : b ≤ 0) : 0 ≤ a * b := by
  have := mul_nn (show 0 ≤ -a by omega) (show 0 ≤ -b by omega)
  rwa [Int.neg_mul_neg] at this
theorem mul_pn {a b : Int} (ha : 0 < a) (hb : b < 0) : a * b < 0 := by
  have := Int.mul_pos ha (show 0 < -b by omega)
  rw [Int.mul_neg] at this
  omega
theorem mul_np' {a b : Int} (ha : a ≤ 0) (hb : 0 ≤ b) : a * b ≤ 0 := by
  rw [Int.mul_comm]; exact mul_np hb ha
theorem dI_rot {a b : V} (ha : nz a) (hb : nz b) (h : good (a, b) = true) : dI (rot a) (rot b) = dI a b + q3 b - q3 a := by
  have hc := good_cr h
  unfold dI
  rcases q3_cases ha with ⟨a1, a2, a3, a4, a5⟩ | ⟨a1, a2, a3, a4, a5⟩ | ⟨a1, a2, a3, a4, a5⟩ | ⟨a1, a2, a3, a4, a5⟩ <;>
    rcases q3_cases hb with ⟨b1, b2, b3, b4, b5⟩ | ⟨b1, b2, b3, b4, b5⟩ | ⟨b1, b2, b3, b4, b5⟩ | ⟨b1, b2, b3, b4, b5⟩ <;>
    rw [a3, a4, a5, b3, b4, b5]
  · decide
  · decide
  · decide
  · exfalso
    have := cr_neg_of (a := a) (b := b) (Or.inr ⟨mul_pn a1 b2, mul_nn a2 b1⟩)
    omega
  · exfalso
    have := cr_neg_of (a := a) (b := b) (Or.inl ⟨mul_np' a1 b2, Int.mul_pos a2 b1⟩)
    omega
  · decide
  · decide
  · decide
  · decide
  · exfalso
    have := cr_neg_of (a := a) (b := b) (Or.inr ⟨by rw [Int.mul_comm]; exact mul_pn b2 a1, mul_nn' a2 b1⟩)
    omega
  · decide
  · decide
  · decide
  · decide
  · exfalso
    have := cr_neg_of (a := a) (b := b) (Or.inl ⟨mul_np a1 b2, by
      have := Int.mul_pos (show 0 < -a.2 by omega) (show 0 < -b.1 by omega)
      rwa [Int.neg_mul_neg] at this⟩)
    omega
  · decide
theorem countP_sum {α : Type} (p : α → Bool) (f : α → Int) (l : List α) (h : ∀ x ∈ l, f x = if p x = true then 1 else 0) : (l.countP p : Int) = (l.map f).sum := by
  induction l with
  | nil => rfl
  | cons x l ih =>
    rw [List.countP_cons, List.map_cons, List.sum_cons, ← ih (fun y hy => h y (by simp [hy])), h x (by simp)]
    by_cases c : p x = true
    · rw [if_pos c, if_pos c]; omega
    · rw [if_neg c, if_neg c]; omega
theorem sum_add {α : Type} (f g : α → Int) (l : List α) : (l.map (fun x => f x + g x)).sum = (l.map f).sum + (l.map g).sum := by
  induction l with
  | nil => rfl
  | cons x l ih => rw [List.map_cons, List.map_cons, List.map_cons, List.sum_cons, List.sum_cons, List.sum_cons, ih]; omega
theorem sum_congr {α : Type} {f g : α → Int} {l : List α} (h : ∀ x ∈ l, f x = g x) : (l.map f).sum = (l.map g).sum := by
  rw [List.map_congr_left h]
theorem prs_fst (q : List V) (g : V → Int) : ((prs q).map (fun x => g x.1)).sum = (q.map g).sum := by
  have : (prs q).map (fun x => g x.1) = ((prs q).map Prod.fst).map g := by rw [List.map_map]; rfl
  rw [this]
  unfold prs
  rw [List.map_fst_zip (by simp; omega)]
theorem prs_snd (q : List V) (g : V → Int) : ((prs q).map (fun x => g x.2)).sum = (q.map g).sum := by
  have : (prs q).map (fun x => g x.2) = ((prs q).map Prod.snd).map g := by rw [List.map_map]; rfl
  rw [this]
  unfold prs
  rw [List.map_snd_zip (by simp; omega), List.map_append, List.sum_append, Int.add_comm, ← List.sum_append, ← List.map_append, List.take_append_drop]
theorem prs_turn (q : List V) : prs (turn q) = (prs q).map (fun x => (rot x.1, rot x.2)) := by
  unfold prs turn
  rw [← List.map_drop, ← List.map_take, ← List.map_append, List.zip_map]
  rfl
theorem prs_mem {q : List V} {x : V × V} (h : x ∈ prs q) : x.1 ∈ q ∧ x.2 ∈ q := by
  have := List.of_mem_zip (a := x.1) (b := x.2) h
  refine ⟨this.1, ?_⟩
  rcases List.mem_append.1 this.2 with h | h
  · exact List.mem_of_mem_drop h
  · exact List.mem_of_mem_take h
theorem cvx_turn {q : List V} (hz : ∀ v ∈ q, nz v) (h : cvx q = true) : cvx (turn q) = true := by
  unfold cvx at h ⊢
  rw [Bool.and_eq_true, decide_eq_true_eq] at h
  obtain ⟨hg, hc⟩ := h
  rw [List.all_eq_true] at hg
  rw [prs_turn, Bool.and_eq_true, decide_eq_true_eq]
  refine ⟨?_, ?_⟩
  · rw [List.all_eq_true]
    intro x hx
    obtain ⟨y, hy, rfl⟩ := List.mem_map.1 hx
    rw [good_rot]
    exact hg y hy
  · have e1 : ((prs q).countP dsc : Int) = ((prs q).map (fun x => dI x.1 x.2)).sum := by
      apply countP_sum
      intro x hx
      unfold dI dsc
      rw [good_desc (hg x hx)]
      simp
    have e2 : (((prs q).map (fun x => (rot x.1, rot x.2))).countP dsc : Int) = ((prs q).map (fun x => dI (rot x.1) (rot x.2))).sum := by
      rw [List.countP_map]
      apply countP_sum
      intro x hx
      unfold dI
      have : (dsc ∘ fun x : V × V => (rot x.1, rot x.2)) x = desc (rot x.1) (rot x.2) := rfl
      rw [this, good_desc (by rw [good_rot]; exact hg x hx)]
      simp
    have e3 : ((prs q).map (fun x => dI (rot x.1) (rot x.2))).sum = ((prs q).map (fun x => dI x.1 x.2 + (q3 x.2 + -q3 x.1))).sum := by
      apply sum_congr
      intro x hx
      have m := prs_mem hx
      rw [dI_rot (hz _ m.1) (hz _ m.2) (hg x hx)]
      omega
    rw [sum_add, sum_add, prs_snd q q3] at e3
    have e4 : ((prs q).map (fun x => -q3 x.1)).sum = (q.map (fun v => -q3 v)).sum := prs_fst q (fun v => -q3 v)
    have e5 : ∀ m : List V, (m.map q3).sum + (m.map (fun v => -q3 v)).sum = 0 := by
      intro m
      induction m with
      | nil => rfl
      | cons v t ih => rw [List.map_cons, List.map_cons, List.sum_cons, List.sum_cons]; omega
    have := e5 q
    omega
/-! ### boxes -/
def G (x : Int) : List V → Int
  | [] => 0
  | v :: t => (2 * x + v.1) * v.2 + G (x + v.1) t
theorem AF_G (l : List V) : ∀ x y : Int, AF x y l = G x l - ((x + sx l) * (y + sy l) - x * y) := by
  induction l with
  | nil => intro x y; simp [AF, G, sx, sy]
  | cons v t ih =>
    intro x y
    simp only [AF, G]
    rw [ih, sx_cons, sy_cons]
    grind
def up (l : List V) : Int := (l.map (fun v => max v.2 0)).sum
def dn (l : List V) : Int := (l.map (fun v => max (-v.2) 0)).sum
theorem up_dn (l : List V) : up l - dn l = sy l := by
  induction l with
  | nil => rfl
  | cons v t ih =>
    unfold up dn at ih ⊢
    rw [List.map_cons, List.map_cons, List.sum_cons, List.sum_cons, sy_cons]
    omega
theorem G_le (X1 X2 : Int) (l : List V) : ∀ x : Int, (∀ j, j ≤ l.length → X1 ≤ x + sx (l.take j) ∧ x + sx (l.take j) ≤ X2) → G x l ≤ 2 * X2 * up l - 2 * X1 * dn l := by
  induction l with
  | nil => intro x _; simp [G, up, dn]
  | cons v t ih =>
    intro x h
    have h0 := h 0 (by simp)
    have h1 := h 1 (by simp)
    have e0 : sx (List.take 0 (v :: t)) = 0 := rfl
    have e1 : sx (List.take 1 (v :: t)) = v.1 := by simp [sx]
    rw [e0] at h0
    rw [e1] at h1
    have h2 := ih (x + v.1) (fun j hj => by
      have := h (j + 1) (by simp; omega)
      rw [List.take_succ_cons, sx_cons] at this
      omega)
    simp only [G]
    have eu : up (v :: t) = max v.2 0 + up t := by simp [up]
    have ed : dn (v :: t) = max (-v.2) 0 + dn t := by simp [dn]
    rw [eu, ed, Int.mul_add, Int.mul_add]
    by_cases c : 0 ≤ v.2
    · have m := Int.mul_le_mul_of_nonneg_right (show 2 * x + v.1 ≤ 2 * X2 by omega) c
      rw [Int.max_eq_left c, Int.max_eq_right (show -v.2 ≤ 0 by omega), Int.mul_zero]
      omega
    · have m := Int.mul_le_mul_of_nonneg_right (show 2 * X1 ≤ 2 * x + v.1 by omega) (show 0 ≤ -v.2 by omega)
      rw [Int.max_eq_right (show v.2 ≤ 0 by omega), Int.max_eq_left (show 0 ≤ -v.2 by omega), Int.mul_zero]
      rw [Int.mul_neg, Int.mul_neg] at m
      rw [Int.mul_neg]
      omega
theorem px_begin {q : List V} {k : Nat} (hk : k ≤ q.length) (hx : sx q = 0) (j : Nat) : ∃ i, i ≤ q.length ∧ px (begin_ q k) j = px q i - px q k := by
  unfold px begin_
  have hd : sx (q.drop k) = -sx (q.take k) := by
    have : sx q = sx (q.take k) + sx (q.drop k) := by rw [← sx_append, List.take_append_drop]
    omega
  by_cases c : j ≤ q.length - k
  · refine ⟨k + j, by omega, ?_⟩
    rw [List.take_append_of_le_length (by simp; omega)]
    have : q.take (k + j) = q.take k ++ (q.drop k).take j := by rw [List.take_add]
    rw [this, sx_append]; omega
  · rw [List.take_append, List.take_of_length_le (l := q.drop k) (by simp; omega), sx_append, hd, List.take_take]
    refine ⟨min (j - (q.drop k).length) k, by omega, ?_⟩
    omega
theorem py_begin {q : List V} {k : Nat} (hk : k ≤ q.length) (hy : sy q = 0) (j : Nat) : ∃ i, i ≤ q.length ∧ py (begin_ q k) j = py q i - py q k := by
  unfold py begin_
  have hd : sy (q.drop k) = -sy (q.take k) := by
    have : sy q = sy (q.take k) + sy (q.drop k) := by rw [← sy_append, List.take_append_drop]
    omega
  by_cases c : j ≤ q.length - k
  · refine ⟨k + j, by omega, ?_⟩
    rw [List.take_append_of_le_length (by simp; omega)]
    have : q.take (k + j) = q.take k ++ (q.drop k).take j := by rw [List.take_add]
    rw [this, sy_append]; omega
  · rw [List.take_append, List.take_of_length_le (l := q.drop k) (by simp; omega), sy_append, hd, List.take_take]
    refine ⟨min (j - (q.drop k).length) k, by omega, ?_⟩
    omega
theorem hi_ge (f : Nat → Int) (n : Nat) : 0 ≤ hi f n ∧ ∀ j, j < n → f j ≤ hi f n := by
  have := lo_le (fun i => -f i) n
  rw [hi_lo]
  exact ⟨by omega, fun j hj => by have := this.2 j hj; omega⟩
theorem px_in {q : List V} (hx : sx q = 0) (i : Nat) (h : i ≤ q.length) : lo (px q) q.length ≤ px q i ∧ px q i ≤ hi (px q) q.length := by
  have a := lo_le (px q) q.length
  have b := hi_ge (px q) q.length
  by_cases c : i < q.length
  · exact ⟨a.2 i c, b.2 i c⟩
  · have : px q i = 0 := by unfold px; rw [List.take_of_length_le (by omega), hx]
    rw [this]; exact ⟨a.1, b.1⟩
theorem py_in {q : List V} (hy : sy q = 0) (i : Nat) (h : i ≤ q.length) : lo (py q) q.length ≤ py q i ∧ py q i ≤ hi (py q) q.length := by
  have a := lo_le (py q) q.length
  have b := hi_ge (py q) q.length
  by_cases c : i < q.length
  · exact ⟨a.2 i c, b.2 i c⟩
  · have : py q i = 0 := by unfold py; rw [List.take_of_length_le (by omega), hy]
    rw [this]; exact ⟨a.1, b.1⟩
theorem w_nonneg (q : List V) : 0 ≤ wx q ∧ 0 ≤ wy q := by
  have a := lo_le (px q) q.length
  have b := hi_ge (px q) q.length
  have c := lo_le (py q) q.length
  have d := hi_ge (py q) q.length
  unfold wx wy; omega
theorem up_pw {l : List V} (h : l.Pairwise le) : up l = sy (ups l) := by
  have e := pw_split h
  have h1 : ∀ m : List V, (∀ v ∈ m, 0 ≤ v.2) → up m = sy m := by
    intro m
    induction m with
    | nil => intro _; rfl
    | cons v t ih =>
      intro hm
      have := hm v (by simp)
      have eu : up (v :: t) = max v.2 0 + up t := by simp [up]
      rw [eu, sy_cons, ih (fun u hu => hm u (by simp [hu]))]
      omega
  have h2 : ∀ m : List V, (∀ v ∈ m, v.2 ≤ 0) → up m = 0 := by
    intro m
    induction m with
    | nil => intro _; rfl
    | cons v t ih =>
      intro hm
      have := hm v (by simp)
      have eu : up (v :: t) = max v.2 0 + up t := by simp [up]
      rw [eu, ih (fun u hu => hm u (by simp [hu]))]
      omega
  have h3 : up l = up (ups l) + up (lows l) := by
    have : up l = up (ups l ++ lows l) := by rw [← e]
    rw [this]; simp [up]
  rw [h3, h1 _ (fun v hv => by have := ups_half l v hv; rw [half_zero] at this; omega), h2 _ (fun v hv => by have := lows_half l v hv; rw [half_one] at this; omega)]
  omega
theorem box_area {q : List V} (h : Path q) (hc : cvx q = true) : A q ≤ 2 * wx q * wy q ∧ 1 ≤ wx q ∧ 1 ≤ wy q := by
  have h3 := h.lo
  have hA := cvx_A h hc
  obtain ⟨k, hk, hp⟩ := cvx_begin_pw (by omega) (path_nz h) hc
  have hb := path_begin h k
  have hw := w_nonneg q
  have eA : A (begin_ q k) = A q := A_begin h.x0 h.y0 k
  have e1 := AF_G (begin_ q k) 0 0
  rw [hb.x0, hb.y0] at e1
  have e2 : A (begin_ q k) = G 0 (begin_ q k) := by
    unfold A
    rw [e1]; simp
  have g := G_le (lo (px q) q.length - px q k) (hi (px q) q.length - px q k) (begin_ q k) 0 (fun j _ => by
    obtain ⟨i, hi', e⟩ := px_begin hk h.x0 j
    have := px_in h.x0 i hi'
    unfold px at e this ⊢
    omega)
  have ud := up_dn (begin_ q k)
  rw [hb.y0] at ud
  have ed : dn (begin_ q k) = up (begin_ q k) := by omega
  rw [ed] at g
  have eu := up_pw hp
  have hu : up (begin_ q k) ≤ wy q := by
    rw [eu]
    have es := pw_split hp
    obtain ⟨i, hi', e⟩ := py_begin hk h.y0 (ups (begin_ q k)).length
    have e4 : py (begin_ q k) (ups (begin_ q k)).length = sy (ups (begin_ q k)) := by
      have : (begin_ q k).take (ups (begin_ q k)).length = ups (begin_ q k) := by
        have h5 : (begin_ q k).take (ups (begin_ q k)).length = (ups (begin_ q k) ++ lows (begin_ q k)).take (ups (begin_ q k)).length := by rw [← es]
        rw [h5, List.take_left]
      unfold py
      rw [this]
    have p1 := py_in h.y0 i hi'
    have p2 := py_in h.y0 k hk
    unfold wy
    omega
  have hu0 : 0 ≤ up (begin_ q k) := by
    have : ∀ m : List V, 0 ≤ up m := by
      intro m
      induction m with
      | nil => exact Int.le_refl _
      | cons v t ih =>
        have eu : up (v :: t) = max v.2 0 + up t := by simp [up]
        rw [eu]; omega
    exact this _
  have f1 : A q ≤ 2 * wx q * up (begin_ q k) := by
    rw [← eA, e2]
    refine Int.le_trans g (Int.le_of_eq ?_)
    unfold wx
    grind
  have f2 : 2 * wx q * up (begin_ q k) ≤ 2 * wx q * wy q := Int.mul_le_mul_of_nonneg_left hu (by omega)
  refine ⟨Int.le_trans f1 f2, ?_, ?_⟩
  · by_cases z : wx q = 0
    · rw [z] at f1; omega
    · omega
  · by_cases z : wy q = 0
    · rw [z] at f2; omega
    · omega
end Go.Proofs.Ytpopdfffcokilaa.Wide
