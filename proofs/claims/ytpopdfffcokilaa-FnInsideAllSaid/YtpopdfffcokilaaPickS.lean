import Derived.Test.YtpopdfffcokilaaOrd
import Derived.Test.YtpopdfffcokilaaPick
/- A sorted path taken apart. No program in sight. -/
set_option linter.unusedVariables false
set_option linter.unusedSimpArgs false
namespace Go.Proofs.Ytpopdfffcokilaa.PickS
open Go.Proofs.Ytpopdfffcokilaa.Pth Go.Proofs.Ytpopdfffcokilaa.Srt Go.Proofs.Ytpopdfffcokilaa.Ord Go.Proofs.Ytpopdfffcokilaa.Pick
def cls (v : V) : Nat := if v.2 = 0 then (if 0 < v.1 then 0 else 2) else if 0 < v.2 then 1 else 3
theorem cls_lt (v : V) : cls v < 4 := by unfold cls; split <;> split <;> omega
theorem four : ∀ (q : List V), q.Pairwise (fun a b => cls a ≤ cls b) →
    q = q.filter (fun v => cls v == 0) ++ q.filter (fun v => cls v == 1) ++ q.filter (fun v => cls v == 2) ++ q.filter (fun v => cls v == 3)
  | [], _ => rfl
  | v :: t, h => by
    obtain ⟨h1, h2⟩ := List.pairwise_cons.1 h
    have ih := four t h2
    have none_ : ∀ i, i < cls v → t.filter (fun u => cls u == i) = [] := fun i hi => List.filter_eq_nil_iff.2 fun u hu => by
      have := h1 u hu; simp; omega
    have hv := cls_lt v
    have : cls v = 0 ∨ cls v = 1 ∨ cls v = 2 ∨ cls v = 3 := by omega
    rcases this with c | c | c | c
    · simp only [List.filter_cons, c]; simp only [beq_self_eq_true, if_true]
      simpa using ih
    · rw [none_ 0 (by omega)] at ih
      simp only [List.filter_cons, c, none_ 0 (by omega)]
      simpa using ih
    · rw [none_ 0 (by omega), none_ 1 (by omega)] at ih
      simp only [List.filter_cons, c, none_ 0 (by omega), none_ 1 (by omega)]
      simpa using ih
    · rw [none_ 0 (by omega), none_ 1 (by omega), none_ 2 (by omega)] at ih
      simp only [List.filter_cons, c, none_ 0 (by omega), none_ 1 (by omega), none_ 2 (by omega)]
      simpa using ih
theorem le_cls {a b : V} (ha : Ord.nz a) (hb : Ord.nz b) (h : le a b) : cls a ≤ cls b := by
  unfold Ord.nz at ha hb
  unfold le half at h
  unfold cls
  have key : 0 < a.2 → b.2 = 0 → 0 < b.1 → ¬ 0 ≤ cr a b := fun h1 h2 h3 h4 => by
    have := Int.mul_pos h1 h3
    unfold cr at h4; rw [h2, Int.mul_zero] at h4; omega
  have key2 : a.2 < 0 → b.2 = 0 → b.1 < 0 → ¬ 0 ≤ cr a b := fun h1 h2 h3 h4 => by
    have := Int.mul_pos (show 0 < -a.2 by omega) (show 0 < -b.1 by omega)
    rw [Int.neg_mul_neg] at this
    unfold cr at h4; rw [h2, Int.mul_zero] at h4; omega
  by_cases a2 : a.2 = 0 <;> by_cases a1 : 0 < a.1 <;> by_cases a3 : 0 < a.2 <;> by_cases b2 : b.2 = 0 <;> by_cases b1 : 0 < b.1 <;> by_cases b3 : 0 < b.2 <;> simp only [a2, a1, a3, b2, b1, b3, if_true, if_false, gt_iff_lt, true_and, false_and, and_true, and_false] at h ⊢ <;> first | omega | (have := key (by omega) b2 b1; omega) | (have := key2 (by omega) b2 (by omega); omega)
theorem turns_of : ∀ (q : List V), q.Pairwise (fun a b => 0 ≤ cr a b) → turnsL q
  | [], _ => trivial
  | [_], _ => trivial
  | s :: t :: r, h => ⟨(List.pairwise_cons.1 h).1 t (by simp), turns_of (t :: r) (List.pairwise_cons.1 h).2⟩
open Go.Proofs.Ytpopdfffcokilaa.Inn Go.Proofs.Ytpopdfffcokilaa.Rim
theorem cls_of {v : V} {i : Nat} {q : List V} (h : v ∈ q.filter (fun v => cls v == i)) : v ∈ q ∧ cls v = i := by
  rw [List.mem_filter] at h
  exact ⟨h.1, by simpa using h.2⟩
theorem pick_sorted {p : List V} (h : Path p) (pw : p.Pairwise le) (hA : A p ≠ 0) {lo : Int} {m : Nat} (hlo : lo ≤ -1000) (hm : 1000 ≤ lo + m) : 2 * count p lo m = A p - rim p + 2 := by
  have hnz : ∀ v ∈ p, Ord.nz v := fun v hv => (h.st v hv).2.2.2.2
  have pc : p.Pairwise (fun a b => cls a ≤ cls b) := pw.imp_of_mem (fun ha hb hab => le_cls (hnz _ ha) (hnz _ hb) hab)
  have e := four p pc
  obtain ⟨B, hB⟩ : ∃ B, B = p.filter (fun v => cls v == 0) := ⟨_, rfl⟩
  obtain ⟨U, hU⟩ : ∃ U, U = p.filter (fun v => cls v == 1) := ⟨_, rfl⟩
  obtain ⟨T, hT⟩ : ∃ T, T = p.filter (fun v => cls v == 2) := ⟨_, rfl⟩
  obtain ⟨D, hD⟩ : ∃ D, D = p.filter (fun v => cls v == 3) := ⟨_, rfl⟩
  have cB : ∀ v ∈ B, v ∈ p ∧ cls v = 0 := fun v hv => cls_of (hB ▸ hv)
  have cU : ∀ v ∈ U, v ∈ p ∧ cls v = 1 := fun v hv => cls_of (hU ▸ hv)
  have cT : ∀ v ∈ T, v ∈ p ∧ cls v = 2 := fun v hv => cls_of (hT ▸ hv)
  have cD : ∀ v ∈ D, v ∈ p ∧ cls v = 3 := fun v hv => cls_of (hD ▸ hv)
  have half1 : ∀ a b : V, 0 < a.2 → 0 < b.2 → le a b → 0 ≤ cr a b := fun a b ha hb hl => by
    unfold le half at hl
    rw [if_pos ha, if_pos hb] at hl; omega
  have half2 : ∀ a b : V, a.2 < 0 → b.2 < 0 → le a b → 0 ≤ cr a b := fun a b ha hb hl => by
    unfold le half at hl
    rw [if_neg (by omega), if_neg (by omega), if_neg (by omega), if_neg (by omega)] at hl; omega
  have bU : ∀ v ∈ U, 0 < v.2 := fun v hv => by
    have := (cU v hv).2; unfold cls at this; split at this <;> split at this <;> omega
  have bD : ∀ v ∈ D, v.2 < 0 := fun v hv => by
    have := (cD v hv).2; unfold cls at this; split at this <;> split at this <;> omega
  have bB : ∀ v ∈ B, v.2 = 0 ∧ 0 < v.1 := fun v hv => by
    have := (cB v hv).2; unfold cls at this; split at this <;> split at this <;> omega
  have bT : ∀ v ∈ T, v.2 = 0 ∧ v.1 < 0 := fun v hv => by
    have h1 := (cT v hv).2
    have h2 := hnz v (cT v hv).1
    unfold Ord.nz at h2
    unfold cls at h1; split at h1 <;> split at h1 <;> omega
  have pU : U.Pairwise (fun u v => 0 ≤ cr u v) := by
    have : U.Pairwise le := by rw [hU]; exact pw.filter _
    exact this.imp_of_mem (fun ha hb hab => half1 _ _ (bU _ ha) (bU _ hb) hab)
  have pD : D.Pairwise (fun u v => 0 ≤ cr u v) := by
    have : D.Pairwise le := by rw [hD]; exact pw.filter _
    exact this.imp_of_mem (fun ha hb hab => half2 _ _ (bD _ ha) (bD _ hb) hab)
  rw [← hB, ← hU, ← hT, ← hD] at e
  have hx := h.x0
  have hy := h.y0
  rw [e, sx_append, sx_append, sx_append] at hx
  rw [e, sy_append, sy_append, sy_append, (flat_AX B 0 (fun v hv => (bB v hv).1)).2, (flat_AX T 0 (fun v hv => (bT v hv).1)).2] at hy
  have P : Parts B U T D := ⟨bB, fun v hv => ⟨bU v hv, h.st v (cU v hv).1⟩, bT, fun v hv => ⟨bD v hv, h.st v (cD v hv).1⟩, hx, by omega⟩
  have sU := sy_pos bU
  have lU := sy_bound (fun v hv => h.st v (cU v hv).1)
  have hl := h.hi
  have h3 := h.lo
  have hlen : U.length ≤ p.length := by rw [hU]; exact List.length_filter_le _ _
  obtain ⟨k, hk⟩ := Int.eq_ofNat_of_zero_le sU
  have k0 : k ≠ 0 := by
    rintro rfl
    have U0 : U = [] := by
      match U, bU, hk with
      | [], _, _ => rfl
      | s :: t, b, hk =>
        have h1 := b s (by simp); have h2 := sy_pos (t := t) (fun v hv => b v (by simp [hv])); rw [sy_cons] at hk; omega
    have D0 : D = [] := by
      match D, bD, P.y0 with
      | [], _, _ => rfl
      | s :: t, b, hk2 =>
        have h1 := b s (by simp); have h2 := sy_neg' (t := t) (fun v hv => b v (by simp [hv])); rw [sy_cons] at hk2; omega
    apply hA
    rw [A_AX h.x0 h.y0]
    refine (flat_AX p 0 (fun v hv => ?_)).1
    rw [e, U0, D0] at hv
    simp only [List.append_nil, List.mem_append] at hv
    rcases hv with hv | hv
    · exact (bB v hv).1
    · exact (bT v hv).1
  obtain ⟨n, rfl⟩ : ∃ n, k = n + 1 := ⟨k - 1, by omega⟩
  have hn100 : n ≤ 100 := by omega
  rw [e] at hA hl h3 ⊢
  exact pick_parts P hl (fun v hv => h.st v (cB v hv).1) (fun v hv => h.st v (cT v hv).1) (turns_of U pU) (turns_of D pD) pU pD hk hA (fun x y ho => out_rows P hk (by omega) x y ho) hn100 hlo hm
theorem allE_shift (a b : Int) : ∀ (q : List V) (X Y x y : Int), allE (X + a) (Y + b) q (x + a) (y + b) ↔ allE X Y q x y
  | [], _, _, _, _ => Iff.rfl
  | s :: t, X, Y, x, y => by
    simp only [allE]
    rw [show X + a + s.1 = X + s.1 + a from by omega, show Y + b + s.2 = Y + s.2 + b from by omega, allE_shift a b t, show x + a - (X + a) = x - X from by omega, show y + b - (Y + b) = y - Y from by omega]
theorem inB_begin {q : List V} (hx : sx q = 0) (hy : sy q = 0) (k : Nat) (x y : Int) : inB (begin_ q k) x y = inB q (x + sx (q.take k)) (y + sy (q.take k)) := by
  have e : q = q.take k ++ q.drop k := (List.take_append_drop k q).symm
  have h1 : sx q = sx (q.take k) + sx (q.drop k) := by rw [← sx_append, ← e]
  have h2 : sy q = sy (q.take k) + sy (q.drop k) := by rw [← sy_append, ← e]
  rw [Bool.eq_iff_iff, inB_allE, inB_allE]
  have r : allE 0 0 q (x + sx (q.take k)) (y + sy (q.take k)) ↔ allE 0 0 (q.take k ++ q.drop k) (x + sx (q.take k)) (y + sy (q.take k)) := by rw [← e]
  rw [r, begin_, allE_append, allE_append]
  have s1 := allE_shift (sx (q.take k)) (sy (q.take k)) (q.drop k) 0 0 x y
  have s2 := allE_shift (sx (q.take k)) (sy (q.take k)) (q.take k) (0 + sx (q.drop k)) (0 + sy (q.drop k)) x y
  rw [show 0 + sx (q.drop k) + sx (q.take k) = 0 from by omega, show 0 + sy (q.drop k) + sy (q.take k) = 0 from by omega] at s2
  rw [s1, s2]
  exact and_comm
theorem count_wide {q : List V} (h : Path q) {a b : Int} {m : Nat} (h1 : a ≤ -72) (h2 : 73 ≤ a + m) (h3 : b ≤ -72) (h4 : 73 ≤ b + m) : S (fun x => S (pt q x) b m) a m = count q (-72) 145 := by
  unfold count
  have e : (fun x => S (pt q x) b m) = Inn.row q (-72) 145 := by
    funext x
    exact S_wide (fun y hy => pt_out h (Or.inr (by omega))) h3 (by omega)
  rw [e]
  exact S_wide (fun x hx => by
    unfold Inn.row
    exact S_zero (fun i _ => pt_out h (Or.inl (by omega)))) h1 (by omega)
theorem count_begin {q : List V} (h : Path q) (k : Nat) {m : Nat} (hm : m = 4001) : count (begin_ q k) (-2000) m = count q (-72) 145 := by
  have bx := sx_bound (take_mem h.st k)
  have by_ := sy_bound (take_mem h.st k)
  have hl : ((q.take k).length : Int) ≤ 8 := by have := h.hi; simp; omega
  rw [← count_wide h (a := -2000 + sx (q.take k)) (b := -2000 + sy (q.take k)) (m := m) (by omega) (by omega) (by omega) (by omega)]
  rw [← S_shift (fun x => S (pt q x) (-2000 + sy (q.take k)) m)]
  unfold count
  refine S_congr (fun i _ => ?_)
  unfold Inn.row
  rw [← S_shift (pt q _)]
  refine S_congr (fun j _ => ?_)
  unfold pt
  rw [inB_begin h.x0 h.y0]
theorem rim_begin (q : List V) (k : Nat) : rim (begin_ q k) = rim q := by
  have e : rim q = rim (q.take k ++ q.drop k) := by rw [List.take_append_drop]
  rw [e, begin_, rim_append, rim_append]; omega
/-- Pick's theorem for convex paths of an area that isn't 0. -/
theorem pick {q : List V} (h : Path q) (hc : Cvx.cvx q = true) (hA : A q ≠ 0) : 2 * count q (-72) 145 = A q - rim q + 2 := by
  have h3 := h.lo
  obtain ⟨k, hk, pw⟩ := cvx_begin_pw (by omega) (fun v hv => (h.st v hv).2.2.2.2) hc
  have eA := A_begin h.x0 h.y0 k
  rw [← count_begin h k rfl, ← eA, ← rim_begin q k]
  rw [← eA] at hA
  exact pick_sorted (path_begin h k) pw hA (by omega) (by omega)
end Go.Proofs.Ytpopdfffcokilaa.PickS
