/- An exact promise of the given program: OrderMost answers as the reference's does, for every slice of slices of numbers. -/
import Derived.Test.YtbcfgglcabeckaaPFnExactOrderMostx4
import Derived.Test.YtbcfgglcabeckaaBase
import Derived.Test.YtbcfgglcabeckaaPth
import Derived.Test.YtbcfgglcabeckaaSrt
import Derived.Test.YtbcfgglcabeckaaBox
import Derived.Test.YtbcfgglcabeckaaCvx
import Derived.Test.YtbcfgglcabeckaaIso
import Derived.Test.YtbcfgglcabeckaaOrd
import Derived.Test.YtbcfgglcabeckaaHOrd
import Derived.Test.YtbcfgglcabeckaaPerm
import Derived.Test.YtbcfgglcabeckaaRowsIn
namespace Go.Proofs.Ytbcfgglcabeckaa.Pure
open Go.RowKit Go.Proofs.Ytbcfgglcabeckaa.PFnExactOrderMost Go.Proofs.YtbcfgglcabeckaaW.PrintWords Go.Proofs.YtbcfgglcabeckaaW.PrintLast Go.Proofs.YtbcfgglcabeckaaW.PrintMore Go.Proofs.Ytbcfgglcabeckaa.Base Go.Proofs.Ytbcfgglcabeckaa.Pth Go.Proofs.Ytbcfgglcabeckaa.Srt Go.Proofs.Ytbcfgglcabeckaa.Box Go.Proofs.Ytbcfgglcabeckaa.Cvx Go.Proofs.Ytbcfgglcabeckaa.Iso Go.Proofs.Ytbcfgglcabeckaa.Ord Go.Proofs.Ytbcfgglcabeckaa.HOrd Go.Proofs.Ytbcfgglcabeckaa.Perm Go.Proofs.Ytbcfgglcabeckaa.RowsIn
set_option linter.unusedVariables false
set_option linter.unusedSimpArgs false
theorem rdl_get {p : List (List Int)} {i : Nat} (h : i < p.length) : rd_L1 p (i : Int) = p[i] := by unfold rd_L1; rw [Int.toNat_natCast]; simp [h]
theorem rdl_L {q : List V} {i : Nat} (h : i < q.length) : rd_L1 (L q) (i : Int) = ofV q[i] := by
  rw [rdl_get (by rw [L_length]; exact h)]; simp [L]
theorem rd0 (v : V) : rd (ofV v) 0 = v.1 := rfl
theorem rd1 (v : V) : rd (ofV v) 1 = v.2 := rfl
theorem len_ofV (v : V) : ((ofV v).length : Int) = 2 := rfl
theorem lenL (q : List V) : ((L q).length : Int) = (q.length : Int) := by rw [L_length]

theorem impl_isStep_eq (s : List Int) : impl_isStep.f s = some (stepB s) := by
  match s with
  | [] => rfl
  | [_] => rfl
  | [x, y] =>
    unfold impl_isStep.f
    have h0 : rd [x, y] 0 = x := rfl
    have h1 : rd [x, y] 1 = y := rfl
    have hl : ([x, y].length : Int) = 2 := rfl
    rw [h0, h1, hl, if_pos rfl, if_pos (by decide)]
    rw [stepB_two]
    by_cases a : x ≥ -9
    · rw [if_pos a]
      by_cases b : x ≤ 9
      · rw [if_pos b, if_pos (by decide)]
        by_cases c : y ≥ -9
        · rw [if_pos c]
          by_cases d : y ≤ 9
          · rw [if_pos d]
            by_cases e : x = 0
            · rw [if_pos e]
              by_cases f : y = 0
              · subst e f; rfl
              · have : (y != 0) = true := by simpa using f
                rw [this, decide_eq_true (by omega)]
            · rw [if_neg e, decide_eq_true (by omega)]
          · rw [if_neg d, decide_eq_false (by omega)]
        · rw [if_neg c, decide_eq_false (by omega)]
      · rw [if_neg b, decide_eq_false (by omega)]
    · rw [if_neg a, decide_eq_false (by omega)]
  | a :: b :: c :: t =>
    unfold impl_isStep.f
    rw [if_neg (by simp; omega)]; rfl

theorem gx_take {p : List (List Int)} {i : Nat} (h : i < p.length) : gx (p.take (i + 1)) = gx (p.take i) + p[i].getD 0 0 := by
  unfold gx; rw [List.take_succ_eq_append_getElem h, List.map_append, List.sum_append]
  simp only [List.map_cons, List.map_nil, List.sum_cons, List.sum_nil, Int.add_zero]
theorem gy_take {p : List (List Int)} {i : Nat} (h : i < p.length) : gy (p.take (i + 1)) = gy (p.take i) + p[i].getD 1 0 := by
  unfold gy; rw [List.take_succ_eq_append_getElem h, List.map_append, List.sum_append]
  simp only [List.map_cons, List.map_nil, List.sum_cons, List.sum_nil, Int.add_zero]
theorem g_bound {p : List (List Int)} (h : p.all stepB = true) : (-(9 * (p.length : Int)) ≤ gx p ∧ gx p ≤ 9 * p.length) ∧ -(9 * (p.length : Int)) ≤ gy p ∧ gy p ≤ 9 * p.length := by
  obtain ⟨q, rfl, hq⟩ := all_steps p h
  rw [gx_L, gy_L, L_length]
  exact ⟨sx_bound hq, sy_bound hq⟩
theorem all_take {p : List (List Int)} {i : Nat} (h : i < p.length) (ha : (p.take i).all stepB = true) (hs : stepB p[i] = true) : (p.take (i + 1)).all stepB = true := by
  rw [List.take_succ_eq_append_getElem h, List.all_append, ha]; simp [hs]
theorem impl_PathIn_loop (p : List (List Int)) (h : p.length ≤ 1048576) : Ev (fun k => impl_PathIn.l0 k 0 0 p (p.length : Int) 0) (p.all stepB && decide (gx p = 0) && decide (gy p = 0)) := by
  have key := down (fun i => (p.take i).all stepB = true → Ev (fun k => impl_PathIn.l0 k (gx (p.take i)) (gy (p.take i)) p (p.length : Int) (i : Int)) ((p.drop i).all stepB && decide (gx p = 0) && decide (gy p = 0))) p.length ?_ ?_ 0 (by omega)
  · exact key rfl
  · intro _
    refine ev_step ?_
    simp only [impl_PathIn.l0]
    refine ev_neg (by omega) ?_
    rw [List.take_length, List.drop_length]
    by_cases c : gx p = 0
    · refine ev_pos c ?_
      rw [c]
      have : (gy p == 0) = decide (gy p = 0) := rfl
      rw [this]
      simpa using ev_some _
    · refine ev_neg c ?_
      rw [decide_eq_false c]
      simpa using ev_some _
  · intro i hi ih ha
    refine ev_step ?_
    simp only [impl_PathIn.l0]
    refine ev_pos (by omega) (ev_pos (by omega) (ev_pos (by omega) ?_))
    rw [rdl_get hi, impl_isStep_eq, drop_cons hi, List.all_cons]
    simp only [Option.bind_some]
    by_cases hs : stepB p[i] = true
    · refine ev_pos hs ?_
      have ha' := all_take hi ha hs
      have ih' := ih ha'
      have hb := g_bound ha'
      rw [gx_take hi, gy_take hi] at ih' hb
      obtain ⟨v, hv, hsv⟩ := stepB_of _ hs
      rw [hv] at ih' hb ⊢
      refine ev_pos (by rw [len_ofV]; decide) (ev_pos (by rw [len_ofV]; decide) ?_)
      have hlen : ((p.take (i + 1)).length : Int) ≤ 1048576 := by simp; omega
      rw [w64_succ (by omega), rd0, rd1]
      have e0 : (ofV v).getD 0 0 = v.1 := rfl
      have e1 : (ofV v).getD 1 0 = v.2 := rfl
      rw [e0, e1] at ih' hb
      rw [w64 (by omega), w64 (by omega), (stepB_ofV v).2 hsv, Bool.true_and]
      exact ih'
    · refine ev_neg hs ?_
      rw [Bool.eq_false_iff.2 hs]
      simpa using ev_some _
theorem impl_PathIn_ev (p : List (List Int)) (h : p.length ≤ 1048576) : Ev (fun k => impl_PathIn.f k p) (pathB p) := by
  unfold impl_PathIn.f pathB
  by_cases c : (p.length : Int) < 3
  · refine ev_pos c (ev_step ?_)
    simp only [impl_PathIn.j0]
    refine ev_pos (by trivial) ?_
    rw [decide_eq_false (by omega)]
    simpa using ev_some _
  · refine ev_neg c (ev_step ?_)
    simp only [impl_PathIn.j0]
    by_cases d : (p.length : Int) > 8
    · refine ev_pos (by simpa using d) ?_
      rw [decide_eq_false (p := p.length ≤ 8) (by omega)]
      simpa using ev_some _
    · refine ev_neg (by simpa using d) ?_
      rw [decide_eq_true (by omega), decide_eq_true (by omega)]
      simpa using impl_PathIn_loop p h

theorem sx_take {q : List V} {i : Nat} (h : i < q.length) : sx (q.take (i + 1)) = sx (q.take i) + q[i].1 := by
  rw [List.take_succ_eq_append_getElem h, sx_append]; simp [sx]
theorem sy_take {q : List V} {i : Nat} (h : i < q.length) : sy (q.take (i + 1)) = sy (q.take i) + q[i].2 := by
  rw [List.take_succ_eq_append_getElem h, sy_append]; simp [sy]
theorem st_bound {q : List V} (h : Path q) (i : Nat) : (-72 ≤ sx (q.take i) ∧ sx (q.take i) ≤ 72) ∧ -72 ≤ sy (q.take i) ∧ sy (q.take i) ≤ 72 := by
  have hx := sx_bound (take_mem h.st i)
  have hy := sy_bound (take_mem h.st i)
  have hl : ((q.take i).length : Int) ≤ 8 := by have := h.hi; simp; omega
  omega
/-- The corners of a path. -/
def corn (q : List V) : List V := (List.range q.length).map fun i => (sx (q.take i), sy (q.take i))
theorem corn_length (q : List V) : (corn q).length = q.length := by simp [corn]
theorem corn_get {q : List V} {i : Nat} (h : i < q.length) : (corn q)[i]'(by rw [corn_length]; exact h) = (sx (q.take i), sy (q.take i)) := by simp [corn]
theorem corn_take {q : List V} {i : Nat} (h : i < q.length) : L ((corn q).take i) ++ [[sx (q.take i), sy (q.take i)]] = L ((corn q).take (i + 1)) := by
  rw [List.take_succ_eq_append_getElem (by rw [corn_length]; exact h), corn_get h]
  simp [L, ofV]

theorem A_take {q : List V} {i : Nat} (h : i < q.length) : A (q.take (i + 1)) = A (q.take i) + (sx (q.take i) * q[i].2 - sy (q.take i) * q[i].1) := by
  rw [List.take_succ_eq_append_getElem h, A_snoc]
theorem A_tb {q : List V} (h : Path q) (i : Nat) : -10368 ≤ A (q.take i) ∧ A (q.take i) ≤ 10368 := by
  have hl : (q.take i).length ≤ 8 := by have := h.hi; simp; omega
  have := A_bound (take_mem h.st i) 8 hl
  have h2 : ((q.take i).length : Int) ≤ 8 := by omega
  omega
theorem impl_areaOf_ev {q : List V} (h : Path q) : Ev (fun k => impl_areaOf.f k (L q)) (A q) := by
  unfold impl_areaOf.f
  have hq := h.hi
  have key := ev_count (fun k i => impl_areaOf.l0 k (A (q.take i)) (sx (q.take i)) (sy (q.take i)) (L q) ((L q).length : Int) (i : Int)) (fun _ => A q) q.length ?_ ?_ 0 (by omega)
  · exact key
  · refine ev_step ?_
    simp only [impl_areaOf.l0]
    refine ev_neg (by rw [lenL]; omega) ?_
    rw [List.take_length]
    exact ev_some _
  · intro i hi ih
    have hv := h.st q[i] (List.getElem_mem _)
    simp only [stepV] at hv
    have hb := st_bound h i
    have ha := A_tb h (i + 1)
    rw [A_take hi] at ih ha
    rw [sx_take hi, sy_take hi] at ih
    refine ev_step ?_
    simp only [impl_areaOf.l0]
    rw [rdl_L hi, len_ofV, rd0, rd1, w64_succ (by omega), w64 (x := sx (q.take i) + q[i].1) (by omega), w64 (x := sy (q.take i) + q[i].2) (by omega)]
    simp only [w_sub_l, w_sub_r, w_add_r]
    have e : A (q.take i) + (sx (q.take i) * (sy (q.take i) + q[i].2) - sy (q.take i) * (sx (q.take i) + q[i].1)) = A (q.take i) + (sx (q.take i) * q[i].2 - sy (q.take i) * q[i].1) := by grind
    rw [e, w64 (by omega)]
    exact ev_pos (by rw [lenL]; omega) (ev_pos (by omega) (ev_pos (by rw [lenL]; omega) (ev_pos (by decide) (ev_pos (by decide) ih))))

theorem impl_row_ev {p : List V} {d a : Nat} (hF : ∀ (j : Nat) (m : Int), ∃ R, Ev (fun k => vis (impl_OrderMost.step k) d (swap (L p) a j) m) R ∧ m ≤ R ∧ (∀ x ∈ visits d (swap p a j), A x ≤ R) ∧ (R = m ∨ ∃ x ∈ visits d (swap p a j), R = A x)) :
    ∀ (r i : Nat) (m : Int), ∃ R, Ev (fun k => row (fun i s => vis (impl_OrderMost.step k) d (swap (L p) a i) s) r i m) R ∧ m ≤ R ∧ (∀ j, i ≤ j → j < i + r → ∀ x ∈ visits d (swap p a j), A x ≤ R) ∧ (R = m ∨ ∃ j x, (i ≤ j ∧ j < i + r) ∧ x ∈ visits d (swap p a j) ∧ R = A x)
  | 0, i, m => ⟨m, ev_some _, Int.le_refl _, fun j h1 h2 => by omega, .inl rfl⟩
  | r + 1, i, m => by
    obtain ⟨R1, e1, l1, b1, c1⟩ := hF i m
    obtain ⟨R2, e2, l2, b2, c2⟩ := impl_row_ev hF r (i + 1) R1
    refine ⟨R2, Ev.bind e1 e2, Int.le_trans l1 l2, fun j h1 h2 x hx => ?_, ?_⟩
    · by_cases c : j = i
      · subst c
        exact Int.le_trans (b1 x hx) l2
      · exact b2 j (by omega) (by omega) x hx
    · rcases c2 with c2 | ⟨j, x, hj, hx, e⟩
      · rcases c1 with c1 | ⟨x, hx, e⟩
        · exact .inl (c2.trans c1)
        · exact .inr ⟨i, x, ⟨by omega, by omega⟩, hx, c2.trans e⟩
      · exact .inr ⟨j, x, ⟨by omega, by omega⟩, hx, e⟩
theorem impl_vis_ev {q : List V} (hq : Path q) : ∀ (d : Nat) (p : List V), p.Perm q → ∀ (m : Int), ∃ R, Ev (fun k => vis (impl_OrderMost.step k) d (L p) m) R ∧ m ≤ R ∧ (∀ x ∈ visits d p, A x ≤ R) ∧ (R = m ∨ ∃ x ∈ visits d p, R = A x)
  | 0, p, hp, m => by
    refine ⟨mx m (A p), Ev.bind (impl_areaOf_ev (path_perm hq hp)) (ev_some _), ?_, ?_, ?_⟩
    · unfold mx; omega
    · intro x hx
      have : x = p := List.mem_singleton.1 hx
      subst this
      unfold mx; omega
    · by_cases c : m < A p
      · exact .inr ⟨p, List.mem_singleton.2 rfl, by unfold mx; rw [if_pos c]⟩
      · exact .inl (by unfold mx; rw [if_neg c])
  | d + 1, p, hp, m => by
    have hF : ∀ (j : Nat) (m : Int), ∃ R, Ev (fun k => vis (impl_OrderMost.step k) d (swap (L p) (p.length - (d + 1)) j) m) R ∧ m ≤ R ∧ (∀ x ∈ visits d (swap p (p.length - (d + 1)) j), A x ≤ R) ∧ (R = m ∨ ∃ x ∈ visits d (swap p (p.length - (d + 1)) j), R = A x) := by
      intro j m
      have := impl_vis_ev hq d (swap p (p.length - (d + 1)) j) ((swap_perm _ _ _).trans hp) m
      have e : L (swap p (p.length - (d + 1)) j) = swap (L p) (p.length - (d + 1)) j := swap_map _ _ _ _
      rw [e] at this
      exact this
    obtain ⟨R, e, l, b, c⟩ := impl_row_ev hF (d + 1) (p.length - (d + 1)) m
    refine ⟨R, ?_, l, ?_, ?_⟩
    · unfold vis
      rw [L_length]
      exact e
    · intro x hx
      unfold visits at hx
      obtain ⟨j, hj, hx⟩ := List.mem_flatMap.1 hx
      rw [List.mem_range] at hj
      exact b _ (by omega) (by omega) x hx
    · rcases c with c | ⟨j, x, hj, hx, e⟩
      · exact .inl c
      · refine .inr ⟨x, ?_, e⟩
        unfold visits
        exact List.mem_flatMap.2 ⟨j - (p.length - (d + 1)), List.mem_range.2 (by omega), by rw [show p.length - (d + 1) + (j - (p.length - (d + 1))) = j by omega]; exact hx⟩
theorem area_le_Sm {q p : List V} (hq : Path q) (hp : p.Perm q) : A p ≤ Sm q := by
  have h := path_perm hq hp
  have := A_le_srt h
  rw [A_srt h, Sm_perm hp] at this
  exact this
def mostA (p : List (List Int)) (r : Int × Bool) : Prop := (∀ q, p = L q → Path q → q.length ≤ 6 → r = (Sm q, true)) ∧ (¬ (pathB p = true ∧ p.length ≤ 6) → r = (0, false))
theorem most_known (p : List (List Int)) : ∃ r, mostA p r := by
  by_cases c : pathB p = true ∧ p.length ≤ 6
  · obtain ⟨q, hq, hP⟩ := path_of c.1
    refine ⟨(Sm q, true), fun q' hq' _ _ => ?_, fun h => absurd c h⟩
    have : L q = L q' := by rw [← hq, ← hq']
    have hinj : ∀ (a b : List V), L a = L b → a = b := by
      intro a
      induction a with
      | nil => intro b h; cases b with
        | nil => rfl
        | cons _ _ => cases h
      | cons u a ih => intro b h; cases b with
        | nil => cases h
        | cons v b =>
          have h' : ofV u :: L a = ofV v :: L b := h
          injection h' with h1 h2
          rw [ih b h2]
          congr 1
          injection h1 with h3 h1
          injection h1 with h4 h1
          exact Prod.ext h3 h4
    rw [hinj q q' this]
  · exact ⟨(0, false), fun q hq hP h6 => absurd ⟨by rw [hq]; exact pathB_L hP, by rw [hq, L_length]; exact h6⟩ c, fun _ => rfl⟩
theorem impl_OrderMost_ev {p : List (List Int)} (h : p.length ≤ 1048576) {r : Int × Bool} (hr : mostA p r) : Ev (fun k => impl_OrderMost.f k p) r := by
  unfold impl_OrderMost.f
  refine Ev.bind (impl_PathIn_ev p h) ?_
  by_cases c : pathB p = true
  · refine ev_pos c ?_
    by_cases c6 : p.length ≤ 6
    · refine ev_neg (by omega) ?_
      obtain ⟨q, rfl, hP⟩ := path_of c
      rw [L_length] at c6
      rw [hr.1 q rfl hP c6]
      have hlo := hP.lo
      obtain ⟨R, e, l, b, cc⟩ := impl_vis_ev hP q.length q (List.Perm.refl _) (A q)
      have hR : R = Sm q := by
        refine Int.le_antisymm ?_ ?_
        · rcases cc with cc | ⟨x, hx, cc⟩
          · rw [cc]; exact area_le_Sm hP (List.Perm.refl _)
          · rw [cc]; exact area_le_Sm hP ((mem_visits _ _ _ (Nat.le_refl _)).1 hx).2
        · rw [← A_srt hP]
          exact b _ ((mem_visits _ _ _ (Nat.le_refl _)).2 ⟨by simp, srt_perm q⟩)
      subst hR
      refine Ev.bind (impl_areaOf_ev hP) (Ev.bind (a := Sm q) ?_ (ev_some _))
      unfold impl_orders.f
      rw [L_length]
      exact ev_pos (by omega) (ev_pos (by omega) e)
    · rw [hr.2 (fun h => c6 h.2)]
      exact ev_pos (by omega) (ev_some _)
  · rw [hr.2 (fun h => c h.1)]
    exact ev_neg c (ev_some _)

theorem spec_l6In_eq' (a b c : Int) : spec_l6In.f a b c = some (decide (b ≤ a ∧ a ≤ c)) := by
  unfold spec_l6In.f
  by_cases h : a ≥ b
  · rw [if_pos h]; simp; intro _; exact h
  · rw [if_neg h]; simp; omega
theorem spec_l6sStep_eq (s : List Int) : spec_l6sStep.f s = some (stepB s) := by
  match s with
  | [] => rfl
  | [_] => rfl
  | [x, y] =>
    unfold spec_l6sStep.f
    have h0 : rd [x, y] 0 = x := rfl
    have h1 : rd [x, y] 1 = y := rfl
    have hl : ([x, y].length : Int) = 2 := rfl
    rw [h0, h1, hl, if_pos rfl, if_pos (by decide), spec_l6In_eq', spec_l6In_eq']
    simp only [Option.bind_some]
    rw [stepB_two]
    by_cases b : -9 ≤ x ∧ x ≤ 9
    · rw [if_pos (by simpa using b), if_pos (by decide)]
      by_cases d : -9 ≤ y ∧ y ≤ 9
      · rw [if_pos (by simpa using d)]
        by_cases e : x = 0
        · rw [if_pos e]
          by_cases f : y = 0
          · subst e f; rfl
          · have : (y != 0) = true := by simpa using f
            rw [this, decide_eq_true (by omega)]
        · rw [if_neg e, decide_eq_true (by omega)]
      · rw [if_neg (by simpa using d), decide_eq_false (by omega)]
    · rw [if_neg (by simpa using b), decide_eq_false (by omega)]
  | a :: b :: c :: t =>
    unfold spec_l6sStep.f
    rw [if_neg (by simp; omega)]; rfl

theorem spec_l6sSum_ev (p : List (List Int)) (h : p.length ≤ 1048576) (ha : p.all stepB = true) : Ev (fun k => spec_l6sSum.f k p) (gx p, gy p) := by
  unfold spec_l6sSum.f
  have key := ev_count (fun k i => spec_l6sSum.l0 k p (gx (p.take i)) (gy (p.take i)) (i : Int)) (fun _ => (gx p, gy p)) p.length ?_ ?_ 0 (by omega)
  · exact key
  · refine ev_step ?_
    simp only [spec_l6sSum.l0]
    refine ev_neg (by omega) ?_
    rw [List.take_length]
    exact ev_some _
  · intro i hi ih
    refine ev_step ?_
    simp only [spec_l6sSum.l0]
    refine ev_pos (by omega) (ev_pos (by omega) ?_)
    rw [rdl_get hi]
    have hs : stepB p[i] = true := List.all_eq_true.1 ha _ (List.getElem_mem _)
    have ha' : (p.take (i + 1)).all stepB = true := List.all_eq_true.2 (fun s hs => List.all_eq_true.1 ha s (List.mem_of_mem_take hs))
    have hb := g_bound ha'
    rw [gx_take hi, gy_take hi] at ih hb
    obtain ⟨v, hv, hsv⟩ := stepB_of _ hs
    rw [hv] at ih hb ⊢
    refine ev_pos (by rw [len_ofV]; decide) (ev_pos (by rw [len_ofV]; decide) ?_)
    have hlen : ((p.take (i + 1)).length : Int) ≤ 1048576 := by simp; omega
    rw [w64_succ (by omega), rd0, rd1]
    have e0 : (ofV v).getD 0 0 = v.1 := rfl
    have e1 : (ofV v).getD 1 0 = v.2 := rfl
    rw [e0, e1] at ih hb
    rw [w64 (by omega), w64 (by omega)]
    exact ih
theorem spec_PathIn_ev (p : List (List Int)) (h : p.length ≤ 1048576) : Ev (fun k => spec_PathIn.f k p) (pathB p) := by
  unfold spec_PathIn.f
  have key := down (fun i => (p.take i).all stepB = true → Ev (fun k => spec_PathIn.l0 k p (i : Int)) (decide (3 ≤ p.length) && decide (p.length ≤ 8) && (p.drop i).all stepB && decide (gx p = 0) && decide (gy p = 0))) p.length ?_ ?_ 0 (by omega)
  · exact key rfl
  · intro ha
    rw [List.take_length] at ha
    refine ev_step ?_
    simp only [spec_PathIn.l0]
    refine ev_neg (by omega) (Ev.bind (spec_l6sSum_ev p h ha) ?_)
    rw [spec_l6In_eq', List.drop_length]
    simp only [Option.bind_some]
    by_cases c : (3 : Int) ≤ p.length ∧ (p.length : Int) ≤ 8
    · refine ev_pos (by simpa using c) ?_
      rw [decide_eq_true (by omega), decide_eq_true (by omega)]
      by_cases c : gx p = 0
      · refine ev_pos c ?_
        rw [c]
        have : (gy p == 0) = decide (gy p = 0) := rfl
        rw [this]
        simpa using ev_some _
      · refine ev_neg c ?_
        rw [decide_eq_false c]
        simpa using ev_some _
    · refine ev_neg (by simpa using c) ?_
      have : (decide (3 ≤ p.length) && decide (p.length ≤ 8)) = false := by
        rw [Bool.and_eq_false_iff]; simp; omega
      rw [this]
      simpa using ev_some _
  · intro i hi ih ha
    refine ev_step ?_
    simp only [spec_PathIn.l0]
    refine ev_pos (by omega) (ev_pos (by omega) ?_)
    rw [rdl_get hi, spec_l6sStep_eq, drop_cons hi, List.all_cons]
    simp only [Option.bind_some]
    by_cases hs : stepB p[i] = true
    · refine ev_pos hs ?_
      rw [w64_succ (by omega), hs, Bool.true_and]
      exact ih (all_take hi ha hs)
    · refine ev_neg hs ?_
      rw [Bool.eq_false_iff.2 hs]
      simpa using ev_some _

theorem spec_corners_ev {q : List V} (h : Path q) : Ev (fun k => spec_l6sCorners.f k (L q)) (L (corn q)) := by
  unfold spec_l6sCorners.f
  have key := ev_count (fun k i => spec_l6sCorners.l0 k (L q) (L ((corn q).take i)) (sx (q.take i)) (sy (q.take i)) (i : Int)) (fun _ => L (corn q)) q.length ?_ ?_ 0 (by omega)
  · exact key
  · refine ev_step ?_
    simp only [spec_l6sCorners.l0]
    refine ev_neg (by rw [lenL]; omega) ?_
    rw [List.take_of_length_le (by rw [corn_length]; exact Nat.le_refl _)]
    exact ev_some _
  · intro i hi ih
    have hq := h.hi
    have hv := h.st q[i] (List.getElem_mem _)
    have hb := st_bound h i
    simp only [stepV] at hv
    refine ev_step ?_
    simp only [spec_l6sCorners.l0]
    rw [rdl_L hi, lenL, len_ofV, rd0, rd1]
    refine ev_pos (by omega) (ev_pos (by rw [L_length]; simp; omega) (ev_pos (by omega) (ev_pos (by decide) (ev_pos (by decide) ?_))))
    rw [corn_take hi, w64_succ (by omega), w64 (by omega), w64 (by omega), ← sx_take hi, ← sy_take hi]
    exact ih

theorem spec_cross_mul (a b : V) : spec_l6sCross.f (ofV a) (ofV b) = some (wrap64 (cr a b)) := by
  unfold spec_l6sCross.f cr
  rw [len_ofV, len_ofV, if_pos (by decide), if_pos (by decide), if_pos (by decide), if_pos (by decide), rd0, rd0, rd1, rd1]
  simp only [w_sub_l, w_sub_r]
theorem spec_l6sArea_ev {q : List V} (h : Path q) : Ev (fun k => spec_l6sArea.f k (L q)) (A q) := by
  unfold spec_l6sArea.f
  have hq := h.hi
  have h3 := h.lo
  refine Ev.bind (spec_corners_ev h) ?_
  have key := ev_count (fun k i => spec_l6sArea.l0 k (A (q.take i)) (L (corn q)) (i : Int)) (fun _ => A q) q.length ?_ ?_ 0 (by omega)
  · exact key
  · refine ev_step ?_
    simp only [spec_l6sArea.l0]
    refine ev_neg (by rw [lenL, corn_length]; omega) ?_
    rw [List.take_length]
    exact ev_some _
  · intro i hi ih
    have hic : i < (corn q).length := by rw [corn_length]; exact hi
    have hm : (i + 1) % q.length < q.length := Nat.mod_lt _ (by omega)
    have hmc : (i + 1) % q.length < (corn q).length := by rw [corn_length]; exact hm
    have em : Int.tmod (wrap64 ((i : Int) + 1)) ((L (corn q)).length : Int) = (((i + 1) % q.length : Nat) : Int) := by
      rw [w64_succ (by omega), lenL, corn_length, ← Int.ofNat_tmod]
    have ha := A_tb h (i + 1)
    have e : cr ((corn q)[i]) ((corn q)[(i + 1) % q.length]) = sx (q.take i) * q[i].2 - sy (q.take i) * q[i].1 := by
      rw [corn_get hi, corn_get hm]
      have ex : sx (q.take ((i + 1) % q.length)) = sx (q.take (i + 1)) ∧ sy (q.take ((i + 1) % q.length)) = sy (q.take (i + 1)) := by
        by_cases c : i + 1 < q.length
        · rw [Nat.mod_eq_of_lt c]; exact ⟨rfl, rfl⟩
        · have : i + 1 = q.length := by omega
          rw [this, Nat.mod_self, List.take_length, h.x0, h.y0]; exact ⟨rfl, rfl⟩
      unfold cr
      dsimp only
      rw [ex.1, ex.2, sx_take hi, sy_take hi]
      grind
    rw [A_take hi] at ih ha
    refine ev_step ?_
    simp only [spec_l6sArea.l0]
    rw [em, rdl_L hic, rdl_L hmc, spec_cross_mul, e]
    simp only [Option.bind_some, w_add_r]
    rw [w64 (by omega), w64_succ (by omega)]
    exact ev_pos (by rw [lenL]; omega) (ev_pos (by omega) (ev_neg (by rw [lenL, corn_length]; omega) (ev_pos (by omega) (ev_pos (by rw [lenL]; omega) ih))))

theorem spec_row_ev {ah rs : List V} {d : Nat} (hF : ∀ j, j < rs.length → ∃ R, Ev (fun k => spec_l7Most.l k d (L ah ++ [(L rs).getD j []]) ((L rs).take j ++ (L rs).drop (j + 1))) R ∧ (∀ x, x.Perm (rs.take j ++ rs.drop (j + 1)) → A (ah ++ rs[j]?.getD (0, 0) :: x) ≤ R) ∧ ∃ x, x.Perm (rs.take j ++ rs.drop (j + 1)) ∧ R = A (ah ++ rs[j]?.getD (0, 0) :: x)) :
    ∀ (r i : Nat) (m : Int), i + r ≤ rs.length → ∃ R, Ev (fun k => spec_l7Most.row (fun i => spec_l7Most.l k d (L ah ++ [(L rs).getD i []]) ((L rs).take i ++ (L rs).drop (i + 1))) r i m) R ∧ m ≤ R ∧ (∀ j, i ≤ j → j < i + r → ∀ x, x.Perm (rs.take j ++ rs.drop (j + 1)) → A (ah ++ rs[j]?.getD (0, 0) :: x) ≤ R) ∧ (R = m ∨ ∃ j x, (i ≤ j ∧ j < i + r) ∧ x.Perm (rs.take j ++ rs.drop (j + 1)) ∧ R = A (ah ++ rs[j]?.getD (0, 0) :: x))
  | 0, i, m, _ => ⟨m, ev_some _, Int.le_refl _, fun j h1 h2 => by omega, .inl rfl⟩
  | r + 1, i, m, hir => by
    obtain ⟨R1, e1, b1, c1⟩ := hF i (by omega)
    obtain ⟨R2, e2, l2, b2, c2⟩ := spec_row_ev hF r (i + 1) (mx m R1) (by omega)
    have hm1 : m ≤ mx m R1 := by unfold mx; omega
    have hm2 : R1 ≤ mx m R1 := by unfold mx; omega
    refine ⟨R2, Ev.bind e1 e2, Int.le_trans hm1 l2, fun j h1 h2 x hx => ?_, ?_⟩
    · by_cases c : j = i
      · subst c
        exact Int.le_trans (b1 x hx) (Int.le_trans hm2 l2)
      · exact b2 j (by omega) (by omega) x hx
    · rcases c2 with c2 | ⟨j, x, hj, hx, e⟩
      · by_cases c : m < R1
        · obtain ⟨x, hx, e⟩ := c1
          exact .inr ⟨i, x, ⟨by omega, by omega⟩, hx, by rw [c2]; unfold mx; rw [if_pos c]; exact e⟩
        · exact .inl (by rw [c2]; unfold mx; rw [if_neg c])
      · exact .inr ⟨j, x, ⟨by omega, by omega⟩, hx, e⟩
theorem perm_at {rs : List V} {j : Nat} (h : j < rs.length) : (rs[j]?.getD (0, 0) :: (rs.take j ++ rs.drop (j + 1))).Perm rs := by
  rw [List.getElem?_eq_getElem h, Option.getD_some]
  have e : rs = rs.take j ++ rs[j] :: rs.drop (j + 1) := by rw [← List.drop_eq_getElem_cons h, List.take_append_drop]
  exact (List.perm_middle.symm).trans (List.Perm.of_eq e.symm)
theorem spec_l_ev {q : List V} (hq : Path q) : ∀ (d : Nat) (ah rs : List V), rs.length = d → (ah ++ rs).Perm q → ∃ R, Ev (fun k => spec_l7Most.l k d (L ah) (L rs)) R ∧ (∀ x, x.Perm rs → A (ah ++ x) ≤ R) ∧ ∃ x, x.Perm rs ∧ R = A (ah ++ x)
  | 0, ah, rs, hd, hp => by
    have : rs = [] := List.length_eq_zero_iff.1 hd
    subst this
    rw [List.append_nil] at hp
    refine ⟨A ah, spec_l6sArea_ev (path_perm hq hp), fun x hx => ?_, [], List.Perm.refl _, by rw [List.append_nil]⟩
    rw [List.perm_nil.1 hx, List.append_nil]
    exact Int.le_refl _
  | d + 1, ah, rs, hd, hp => by
    have hF : ∀ j, j < rs.length → ∃ R, Ev (fun k => spec_l7Most.l k d (L ah ++ [(L rs).getD j []]) ((L rs).take j ++ (L rs).drop (j + 1))) R ∧ (∀ x, x.Perm (rs.take j ++ rs.drop (j + 1)) → A (ah ++ rs[j]?.getD (0, 0) :: x) ≤ R) ∧ ∃ x, x.Perm (rs.take j ++ rs.drop (j + 1)) ∧ R = A (ah ++ rs[j]?.getD (0, 0) :: x) := by
      intro j hj
      obtain ⟨R, e, b, x, hx, ex⟩ := spec_l_ev hq d (ah ++ [rs[j]?.getD (0, 0)]) (rs.take j ++ rs.drop (j + 1)) (by simp; omega) (by
        rw [List.append_assoc]
        exact ((perm_at hj).append_left ah).trans hp)
      have e1 : L (ah ++ [rs[j]?.getD (0, 0)]) = L ah ++ [(L rs).getD j []] := by
        unfold L
        rw [List.map_append, List.getD_eq_getElem?_getD, List.getElem?_map, List.getElem?_eq_getElem hj]
        rfl
      have e2 : L (rs.take j ++ rs.drop (j + 1)) = (L rs).take j ++ (L rs).drop (j + 1) := by
        unfold L
        rw [List.map_append, List.map_take, List.map_drop]
      rw [e1, e2] at e
      refine ⟨R, e, fun x hx => ?_, x, hx, ?_⟩
      · have := b x hx
        rwa [List.append_assoc] at this
      · rw [ex, List.append_assoc]
        rfl
    obtain ⟨R, e, l, b, c⟩ := spec_row_ev hF (d + 1) 0 (-1000000) (by omega)
    have hall : ∀ x, x.Perm rs → A (ah ++ x) ≤ R := by
      intro x hx
      cases x with
      | nil => have := hx.length_eq; simp at this; omega
      | cons v t =>
        have hv : v ∈ rs := hx.mem_iff.1 List.mem_cons_self
        obtain ⟨j, hj, ej⟩ := List.getElem_of_mem hv
        have := b j (Nat.zero_le _) (by omega) t (by
          have h1 : (v :: t).Perm (v :: (rs.take j ++ rs.drop (j + 1))) := by
            have h2 := perm_at hj
            rw [List.getElem?_eq_getElem hj, Option.getD_some, ej] at h2
            exact hx.trans h2.symm
          exact h1.cons_inv)
        rwa [List.getElem?_eq_getElem hj, Option.getD_some, ej] at this
    refine ⟨R, e, hall, ?_⟩
    rcases c with c | ⟨j, x, hj, hx, ex⟩
    · exfalso
      have h1 := hall rs (List.Perm.refl _)
      have h2 := (path_A (path_perm hq hp)).1
      omega
    · exact ⟨_, (hx.cons _).trans (perm_at (by omega)), ex⟩
theorem spec_OrderMost_ev {p : List (List Int)} (h : p.length ≤ 1048576) {r : Int × Bool} (hr : mostA p r) : Ev (fun k => spec_OrderMost.f k p) r := by
  unfold spec_OrderMost.f
  refine Ev.bind (spec_PathIn_ev p h) ?_
  by_cases c : pathB p = true
  · refine ev_pos c ?_
    by_cases c6 : p.length ≤ 6
    · refine ev_neg (by omega) ?_
      obtain ⟨q, rfl, hP⟩ := path_of c
      rw [L_length] at c6
      rw [hr.1 q rfl hP c6]
      obtain ⟨R, e, b, x, hx, ex⟩ := spec_l_ev hP q.length [] q rfl (List.Perm.refl _)
      have hR : R = Sm q := by
        refine Int.le_antisymm ?_ ?_
        · rw [ex]; exact area_le_Sm hP hx
        · rw [← A_srt hP]
          exact b _ (srt_perm q)
      subst hR
      refine Ev.bind (a := Sm q) ?_ (ev_some _)
      unfold spec_l7Most.f
      rw [L_length]
      exact ev_pos (by simp; omega) e
    · rw [hr.2 (fun h => c6 h.2)]
      exact ev_pos (by omega) (ev_some _)
  · rw [hr.2 (fun h => c h.1)]
    exact ev_neg c (ev_some _)

/-- The size's test: where it leaves something, there are no more rows than the bound, and no row is longer. -/
theorem szIntSS_ev (p : List (List Int)) (n : Nat) (hn : n ≤ 1048576) (hp : p.length ≤ 9223372036854775807) (hs : ∀ s ∈ p, s.length ≤ 9223372036854775807) :
    ∃ r : Int, Ev (fun k => laws_szIntSS.f k p (n : Int)) r ∧ (r < 0 ∨ (0 ≤ r ∧ r ≤ n ∧ p.length ≤ n ∧ ∀ s ∈ p, s.length ≤ n)) := by
  unfold laws_szIntSS.f
  rw [w64 (x := (n : Int) - (p.length : Int)) (by omega)]
  by_cases c : (n : Int) - (p.length : Int) < 0
  · exact ⟨-1, ev_pos c (ev_some _), Or.inl (by decide)⟩
  · have hpn : p.length ≤ n := by omega
    have key := down (fun i => ∀ m : Nat, m ≤ n → (∀ s ∈ p.take i, s.length ≤ n) → ∃ r : Int, Ev (fun k => laws_szIntSS.l0 k p (m : Int) (i : Int)) r ∧ (r < 0 ∨ (0 ≤ r ∧ r ≤ n ∧ p.length ≤ n ∧ ∀ s ∈ p, s.length ≤ n))) p.length ?_ ?_ 0 (by omega)
    · obtain ⟨r, hr, hr2⟩ := key (n - p.length) (by omega) (fun s hs => by cases hs)
      refine ⟨r, ev_neg c ?_, hr2⟩
      rw [show ((n - p.length : Nat) : Int) = (n : Int) - (p.length : Int) from by omega] at hr
      exact hr
    · intro m hm h
      rw [List.take_length] at h
      refine ⟨m, ev_step ?_, Or.inr ⟨by omega, by omega, hpn, h⟩⟩
      simp only [laws_szIntSS.l0]
      exact ev_neg (by omega) (ev_some _)
    · intro i hi ih m hm h
      have hl := hs p[i] (List.getElem_mem _)
      have es : laws_szIntS.f p[i] (m : Int) = some (if (m : Int) - (p[i].length : Int) < 0 then -1 else (m : Int) - (p[i].length : Int)) := by
        unfold laws_szIntS.f
        rw [w64 (by omega)]
        split <;> rfl
      by_cases d : (m : Int) - (p[i].length : Int) < 0
      · refine ⟨-1, ev_step ?_, Or.inl (by decide)⟩
        simp only [laws_szIntSS.l0]
        refine ev_pos (by omega) (ev_pos (by omega) ?_)
        rw [rdl_get hi, es, if_pos d]
        simp only [Option.bind_some]
        exact ev_pos (by decide) (ev_some _)
      · obtain ⟨r, hr, hr2⟩ := ih (m - p[i].length) (by omega) (by
          intro s hs2
          rw [List.take_succ_eq_append_getElem hi] at hs2
          rcases List.mem_append.1 hs2 with hs2 | hs2
          · exact h s hs2
          · obtain rfl := List.mem_singleton.1 hs2
            omega)
        refine ⟨r, ev_step ?_, hr2⟩
        simp only [laws_szIntSS.l0]
        refine ev_pos (by omega) (ev_pos (by omega) ?_)
        rw [rdl_get hi, es, if_neg d, w64_succ (by omega)]
        simp only [Option.bind_some]
        refine ev_neg (by omega) ?_
        rw [show ((m - p[i].length : Nat) : Int) = (m : Int) - (p[i].length : Int) from by omega] at hr
        exact hr

theorem toIntS_ev (l : List Int) (h : l.length ≤ 1048576) : Ev (fun k => laws_toIntS.f k l) l := by
  unfold laws_toIntS.f
  refine ev_pos (by omega) (ev_pos (by omega) ?_)
  have key := ev_count (fun k i => laws_toIntS.l0 k l (l.take i ++ List.replicate (l.length - i) 0) (i : Int)) (fun _ => l) l.length
    (by
      refine ev_step ?_
      simp only [laws_toIntS.l0]
      refine ev_neg (by omega) ?_
      simpa using ev_some l)
    (by
      intro i hi ih
      refine ev_step ?_
      simp only [laws_toIntS.l0]
      refine ev_pos (by omega) (ev_pos (by omega) (ev_pos (by simp; omega) ?_))
      rw [w64_succ (by omega), Int.toNat_natCast, rd_get hi, set_copy hi]
      exact ih)
  have := key 0 (by omega)
  simpa using this

theorem set_copyR {l : List (List Int)} {i : Nat} (h : i < l.length) : (l.take i ++ List.replicate (l.length - i) []).set i l[i] = l.take (i + 1) ++ List.replicate (l.length - (i + 1)) [] := by
  rw [List.set_append_right _ _ (by simp; omega), show l.length - i = (l.length - (i + 1)) + 1 from by omega, List.replicate_succ]
  have hz : i - (l.take i).length = 0 := by simp; omega
  rw [hz, List.set_cons_zero, List.take_succ_eq_append_getElem h, List.append_assoc]; rfl
theorem toIntSS_ev (l : List (List Int)) (h : l.length ≤ 1048576) (hs : ∀ s ∈ l, s.length ≤ 1048576) : Ev (fun k => laws_toIntSS.f k l) l := by
  unfold laws_toIntSS.f
  refine ev_pos (by omega) (ev_pos (by omega) ?_)
  have key := ev_count (fun k i => laws_toIntSS.l0 k l (l.take i ++ List.replicate (l.length - i) []) (i : Int)) (fun _ => l) l.length
    (by
      refine ev_step ?_
      simp only [laws_toIntSS.l0]
      refine ev_neg (by omega) ?_
      simpa using ev_some l)
    (by
      intro i hi ih
      refine ev_step ?_
      simp only [laws_toIntSS.l0]
      refine ev_pos (by omega) (ev_pos (by omega) ?_)
      rw [rdl_get hi]
      refine Ev.bind (toIntS_ev _ (hs _ (List.getElem_mem _))) (ev_pos (by simp; omega) ?_)
      rw [w64_succ (by omega), Int.toNat_natCast, set_copyR hi]
      exact ih)
  have := key 0 (by omega)
  simpa using this

theorem eqIntS_self (l : List Int) (h : l.length ≤ 1048576) : Ev (fun k => laws_eqIntS.f k l l) true := by
  unfold laws_eqIntS.f
  refine ev_pos (by trivial) ?_
  refine ev_count (fun k i => laws_eqIntS.l0 k l l (i : Int)) (fun _ => true) l.length ?_ ?_ 0 (by omega)
  · refine ev_step ?_
    simp only [laws_eqIntS.l0]
    exact ev_neg (by omega) (ev_some _)
  · intro i hi ih
    refine ev_step ?_
    simp only [laws_eqIntS.l0]
    refine ev_pos (by omega) (ev_pos (by omega) (ev_pos (by omega) (ev_pos (by trivial) ?_)))
    rw [w64_succ (by omega)]
    exact ih

theorem eqIntSS_self (l : List (List Int)) (h : l.length ≤ 1048576) (hs : ∀ s ∈ l, s.length ≤ 1048576) : Ev (fun k => laws_eqIntSS.f k l l) true := by
  unfold laws_eqIntSS.f
  refine ev_pos (by trivial) ?_
  refine ev_count (fun k i => laws_eqIntSS.l0 k l l (i : Int)) (fun _ => true) l.length ?_ ?_ 0 (by omega)
  · refine ev_step ?_
    simp only [laws_eqIntSS.l0]
    exact ev_neg (by omega) (ev_some _)
  · intro i hi ih
    refine ev_step ?_
    simp only [laws_eqIntSS.l0]
    refine ev_pos (by omega) (ev_pos (by omega) (ev_pos (by omega) ?_))
    rw [rdl_get hi]
    refine Ev.bind (eqIntS_self _ (hs _ (List.getElem_mem _))) (ev_pos (by trivial) ?_)
    rw [w64_succ (by omega)]
    exact ih

theorem FnExactOrderMost (p : List (List Int)) (hp : p.length ≤ 9223372036854775807) (hs : ∀ s ∈ p, s.length ≤ 9223372036854775807) : ∃ k, laws_FnExactOrderMost.f k p = some true := by
  refine Ev.rounds ?_
  unfold laws_FnExactOrderMost.f
  obtain ⟨r, hr, hr2⟩ := szIntSS_ev p 1048576 (by omega) hp hs
  refine Ev.bind hr ?_
  rcases hr2 with h | ⟨h0, h1, h2, h3⟩
  · exact ev_pos h (ev_some _)
  · obtain ⟨R, hR⟩ := most_known p
    refine ev_neg (by omega) (Ev.bind (toIntSS_ev p h2 h3) (Ev.bind (spec_OrderMost_ev h2 hR) (Ev.bind (toIntSS_ev p h2 h3) (Ev.bind (impl_OrderMost_ev h2 hR) (ev_pos rfl (ev_step ?_))))))
    simp only [laws_FnExactOrderMost.j0]
    refine ev_neg (by simp) (Ev.bind (toIntSS_ev p h2 h3) (Ev.bind (eqIntSS_self p h2 h3) ?_))
    exact ev_pos rfl (ev_some _)

end Go.Proofs.Ytbcfgglcabeckaa.Pure
