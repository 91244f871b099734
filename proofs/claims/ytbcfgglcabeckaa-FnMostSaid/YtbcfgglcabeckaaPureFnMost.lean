/- A promise of the given program: no order of the steps of a path has a greater area than that by directions (for every code that draws a path). -/
import Derived.Test.YtbcfgglcabeckaaPFnMostx7
import Derived.Test.YtbcfgglcabeckaaBase
import Derived.Test.YtbcfgglcabeckaaPth
import Derived.Test.YtbcfgglcabeckaaSrt
import Derived.Test.YtbcfgglcabeckaaBox
import Derived.Test.YtbcfgglcabeckaaCvx
import Derived.Test.YtbcfgglcabeckaaIso
import Derived.Test.YtbcfgglcabeckaaOrd
import Derived.Test.YtbcfgglcabeckaaHRaw
import Derived.Test.YtbcfgglcabeckaaHSrt
import Derived.Test.YtbcfgglcabeckaaHOrd
import Derived.Test.YtbcfgglcabeckaaPerm
namespace Go.Proofs.Ytbcfgglcabeckaa.Pure
open Go.RowKit Go.Proofs.Ytbcfgglcabeckaa.PFnMost Go.Proofs.YtbcfgglcabeckaaW.PrintWords Go.Proofs.YtbcfgglcabeckaaW.PrintLast Go.Proofs.YtbcfgglcabeckaaW.PrintMore Go.Proofs.Ytbcfgglcabeckaa.Base Go.Proofs.Ytbcfgglcabeckaa.Pth Go.Proofs.Ytbcfgglcabeckaa.Srt Go.Proofs.Ytbcfgglcabeckaa.Box Go.Proofs.Ytbcfgglcabeckaa.Cvx Go.Proofs.Ytbcfgglcabeckaa.Iso Go.Proofs.Ytbcfgglcabeckaa.Ord Go.Proofs.Ytbcfgglcabeckaa.HRaw Go.Proofs.Ytbcfgglcabeckaa.HSrt Go.Proofs.Ytbcfgglcabeckaa.HOrd Go.Proofs.Ytbcfgglcabeckaa.Perm
set_option linter.unusedVariables false
set_option linter.unusedSimpArgs false
theorem rdl_get {p : List (List Int)} {i : Nat} (h : i < p.length) : rd_L1 p (i : Int) = p[i] := by unfold rd_L1; rw [Int.toNat_natCast]; simp [h]
theorem rdl_L {q : List V} {i : Nat} (h : i < q.length) : rd_L1 (L q) (i : Int) = ofV q[i] := by
  rw [rdl_get (by rw [L_length]; exact h)]; simp [L]
theorem rd0 (v : V) : rd (ofV v) 0 = v.1 := rfl
theorem rd1 (v : V) : rd (ofV v) 1 = v.2 := rfl
theorem len_ofV (v : V) : ((ofV v).length : Int) = 2 := rfl
theorem lenL (q : List V) : ((L q).length : Int) = (q.length : Int) := by rw [L_length]

theorem impl_isStep_eq (s : List Int) : impl_isStep.f s = some (stepB s) := by
  match s with
  | [] => rfl
  | [_] => rfl
  | [x, y] =>
    unfold impl_isStep.f
    have h0 : rd [x, y] 0 = x := rfl
    have h1 : rd [x, y] 1 = y := rfl
    have hl : ([x, y].length : Int) = 2 := rfl
    rw [h0, h1, hl, if_pos rfl, if_pos (by decide)]
    rw [stepB_two]
    by_cases a : x ≥ -9
    · rw [if_pos a]
      by_cases b : x ≤ 9
      · rw [if_pos b, if_pos (by decide)]
        by_cases c : y ≥ -9
        · rw [if_pos c]
          by_cases d : y ≤ 9
          · rw [if_pos d]
            by_cases e : x = 0
            · rw [if_pos e]
              by_cases f : y = 0
              · subst e f; rfl
              · have : (y != 0) = true := by simpa using f
                rw [this, decide_eq_true (by omega)]
            · rw [if_neg e, decide_eq_true (by omega)]
          · rw [if_neg d, decide_eq_false (by omega)]
        · rw [if_neg c, decide_eq_false (by omega)]
      · rw [if_neg b, decide_eq_false (by omega)]
    · rw [if_neg a, decide_eq_false (by omega)]
  | a :: b :: c :: t =>
    unfold impl_isStep.f
    rw [if_neg (by simp; omega)]; rfl

theorem gx_take {p : List (List Int)} {i : Nat} (h : i < p.length) : gx (p.take (i + 1)) = gx (p.take i) + p[i].getD 0 0 := by
  unfold gx; rw [List.take_succ_eq_append_getElem h, List.map_append, List.sum_append]
  simp only [List.map_cons, List.map_nil, List.sum_cons, List.sum_nil, Int.add_zero]
theorem gy_take {p : List (List Int)} {i : Nat} (h : i < p.length) : gy (p.take (i + 1)) = gy (p.take i) + p[i].getD 1 0 := by
  unfold gy; rw [List.take_succ_eq_append_getElem h, List.map_append, List.sum_append]
  simp only [List.map_cons, List.map_nil, List.sum_cons, List.sum_nil, Int.add_zero]
theorem g_bound {p : List (List Int)} (h : p.all stepB = true) : (-(9 * (p.length : Int)) ≤ gx p ∧ gx p ≤ 9 * p.length) ∧ -(9 * (p.length : Int)) ≤ gy p ∧ gy p ≤ 9 * p.length := by
  obtain ⟨q, rfl, hq⟩ := all_steps p h
  rw [gx_L, gy_L, L_length]
  exact ⟨sx_bound hq, sy_bound hq⟩
theorem all_take {p : List (List Int)} {i : Nat} (h : i < p.length) (ha : (p.take i).all stepB = true) (hs : stepB p[i] = true) : (p.take (i + 1)).all stepB = true := by
  rw [List.take_succ_eq_append_getElem h, List.all_append, ha]; simp [hs]
theorem impl_PathIn_loop (p : List (List Int)) (h : p.length ≤ 1048576) : Ev (fun k => impl_PathIn.l0 k 0 0 p (p.length : Int) 0) (p.all stepB && decide (gx p = 0) && decide (gy p = 0)) := by
  have key := down (fun i => (p.take i).all stepB = true → Ev (fun k => impl_PathIn.l0 k (gx (p.take i)) (gy (p.take i)) p (p.length : Int) (i : Int)) ((p.drop i).all stepB && decide (gx p = 0) && decide (gy p = 0))) p.length ?_ ?_ 0 (by omega)
  · exact key rfl
  · intro _
    refine ev_step ?_
    simp only [impl_PathIn.l0]
    refine ev_neg (by omega) ?_
    rw [List.take_length, List.drop_length]
    by_cases c : gx p = 0
    · refine ev_pos c ?_
      rw [c]
      have : (gy p == 0) = decide (gy p = 0) := rfl
      rw [this]
      simpa using ev_some _
    · refine ev_neg c ?_
      rw [decide_eq_false c]
      simpa using ev_some _
  · intro i hi ih ha
    refine ev_step ?_
    simp only [impl_PathIn.l0]
    refine ev_pos (by omega) (ev_pos (by omega) (ev_pos (by omega) ?_))
    rw [rdl_get hi, impl_isStep_eq, drop_cons hi, List.all_cons]
    simp only [Option.bind_some]
    by_cases hs : stepB p[i] = true
    · refine ev_pos hs ?_
      have ha' := all_take hi ha hs
      have ih' := ih ha'
      have hb := g_bound ha'
      rw [gx_take hi, gy_take hi] at ih' hb
      obtain ⟨v, hv, hsv⟩ := stepB_of _ hs
      rw [hv] at ih' hb ⊢
      refine ev_pos (by rw [len_ofV]; decide) (ev_pos (by rw [len_ofV]; decide) ?_)
      have hlen : ((p.take (i + 1)).length : Int) ≤ 1048576 := by simp; omega
      rw [w64_succ (by omega), rd0, rd1]
      have e0 : (ofV v).getD 0 0 = v.1 := rfl
      have e1 : (ofV v).getD 1 0 = v.2 := rfl
      rw [e0, e1] at ih' hb
      rw [w64 (by omega), w64 (by omega), (stepB_ofV v).2 hsv, Bool.true_and]
      exact ih'
    · refine ev_neg hs ?_
      rw [Bool.eq_false_iff.2 hs]
      simpa using ev_some _
theorem impl_PathIn_ev (p : List (List Int)) (h : p.length ≤ 1048576) : Ev (fun k => impl_PathIn.f k p) (pathB p) := by
  unfold impl_PathIn.f pathB
  by_cases c : (p.length : Int) < 3
  · refine ev_pos c (ev_step ?_)
    simp only [impl_PathIn.j0]
    refine ev_pos (by trivial) ?_
    rw [decide_eq_false (by omega)]
    simpa using ev_some _
  · refine ev_neg c (ev_step ?_)
    simp only [impl_PathIn.j0]
    by_cases d : (p.length : Int) > 8
    · refine ev_pos (by simpa using d) ?_
      rw [decide_eq_false (p := p.length ≤ 8) (by omega)]
      simpa using ev_some _
    · refine ev_neg (by simpa using d) ?_
      rw [decide_eq_true (by omega), decide_eq_true (by omega)]
      simpa using impl_PathIn_loop p h

theorem sx_take {q : List V} {i : Nat} (h : i < q.length) : sx (q.take (i + 1)) = sx (q.take i) + q[i].1 := by
  rw [List.take_succ_eq_append_getElem h, sx_append]; simp [sx]
theorem sy_take {q : List V} {i : Nat} (h : i < q.length) : sy (q.take (i + 1)) = sy (q.take i) + q[i].2 := by
  rw [List.take_succ_eq_append_getElem h, sy_append]; simp [sy]
theorem st_bound {q : List V} (h : Path q) (i : Nat) : (-72 ≤ sx (q.take i) ∧ sx (q.take i) ≤ 72) ∧ -72 ≤ sy (q.take i) ∧ sy (q.take i) ≤ 72 := by
  have hx := sx_bound (take_mem h.st i)
  have hy := sy_bound (take_mem h.st i)
  have hl : ((q.take i).length : Int) ≤ 8 := by have := h.hi; simp; omega
  omega
/-- The corners of a path. -/
def corn (q : List V) : List V := (List.range q.length).map fun i => (sx (q.take i), sy (q.take i))
theorem corn_length (q : List V) : (corn q).length = q.length := by simp [corn]
theorem corn_get {q : List V} {i : Nat} (h : i < q.length) : (corn q)[i]'(by rw [corn_length]; exact h) = (sx (q.take i), sy (q.take i)) := by simp [corn]
theorem corn_take {q : List V} {i : Nat} (h : i < q.length) : L ((corn q).take i) ++ [[sx (q.take i), sy (q.take i)]] = L ((corn q).take (i + 1)) := by
  rw [List.take_succ_eq_append_getElem (by rw [corn_length]; exact h), corn_get h]
  simp [L, ofV]

theorem A_take {q : List V} {i : Nat} (h : i < q.length) : A (q.take (i + 1)) = A (q.take i) + (sx (q.take i) * q[i].2 - sy (q.take i) * q[i].1) := by
  rw [List.take_succ_eq_append_getElem h, A_snoc]
theorem A_tb {q : List V} (h : Path q) (i : Nat) : -10368 ≤ A (q.take i) ∧ A (q.take i) ≤ 10368 := by
  have hl : (q.take i).length ≤ 8 := by have := h.hi; simp; omega
  have := A_bound (take_mem h.st i) 8 hl
  have h2 : ((q.take i).length : Int) ≤ 8 := by omega
  omega
theorem impl_areaOf_ev {q : List V} (h : Path q) : Ev (fun k => impl_areaOf.f k (L q)) (A q) := by
  unfold impl_areaOf.f
  have hq := h.hi
  have key := ev_count (fun k i => impl_areaOf.l0 k (A (q.take i)) (sx (q.take i)) (sy (q.take i)) (L q) ((L q).length : Int) (i : Int)) (fun _ => A q) q.length ?_ ?_ 0 (by omega)
  · exact key
  · refine ev_step ?_
    simp only [impl_areaOf.l0]
    refine ev_neg (by rw [lenL]; omega) ?_
    rw [List.take_length]
    exact ev_some _
  · intro i hi ih
    have hv := h.st q[i] (List.getElem_mem _)
    simp only [stepV] at hv
    have hb := st_bound h i
    have ha := A_tb h (i + 1)
    rw [A_take hi] at ih ha
    rw [sx_take hi, sy_take hi] at ih
    refine ev_step ?_
    simp only [impl_areaOf.l0]
    rw [rdl_L hi, len_ofV, rd0, rd1, w64_succ (by omega), w64 (x := sx (q.take i) + q[i].1) (by omega), w64 (x := sy (q.take i) + q[i].2) (by omega)]
    simp only [w_sub_l, w_sub_r, w_add_r]
    have e : A (q.take i) + (sx (q.take i) * (sy (q.take i) + q[i].2) - sy (q.take i) * (sx (q.take i) + q[i].1)) = A (q.take i) + (sx (q.take i) * q[i].2 - sy (q.take i) * q[i].1) := by grind
    rw [e, w64 (by omega)]
    exact ev_pos (by rw [lenL]; omega) (ev_pos (by omega) (ev_pos (by rw [lenL]; omega) (ev_pos (by decide) (ev_pos (by decide) ih))))

theorem impl_row_ev {p : List V} {d a : Nat} (hF : ∀ (j : Nat) (m : Int), ∃ R, Ev (fun k => vis (impl_OrderMost.step k) d (swap (L p) a j) m) R ∧ m ≤ R ∧ (∀ x ∈ visits d (swap p a j), A x ≤ R) ∧ (R = m ∨ ∃ x ∈ visits d (swap p a j), R = A x)) :
    ∀ (r i : Nat) (m : Int), ∃ R, Ev (fun k => row (fun i s => vis (impl_OrderMost.step k) d (swap (L p) a i) s) r i m) R ∧ m ≤ R ∧ (∀ j, i ≤ j → j < i + r → ∀ x ∈ visits d (swap p a j), A x ≤ R) ∧ (R = m ∨ ∃ j x, (i ≤ j ∧ j < i + r) ∧ x ∈ visits d (swap p a j) ∧ R = A x)
  | 0, i, m => ⟨m, ev_some _, Int.le_refl _, fun j h1 h2 => by omega, .inl rfl⟩
  | r + 1, i, m => by
    obtain ⟨R1, e1, l1, b1, c1⟩ := hF i m
    obtain ⟨R2, e2, l2, b2, c2⟩ := impl_row_ev hF r (i + 1) R1
    refine ⟨R2, Ev.bind e1 e2, Int.le_trans l1 l2, fun j h1 h2 x hx => ?_, ?_⟩
    · by_cases c : j = i
      · subst c
        exact Int.le_trans (b1 x hx) l2
      · exact b2 j (by omega) (by omega) x hx
    · rcases c2 with c2 | ⟨j, x, hj, hx, e⟩
      · rcases c1 with c1 | ⟨x, hx, e⟩
        · exact .inl (c2.trans c1)
        · exact .inr ⟨i, x, ⟨by omega, by omega⟩, hx, c2.trans e⟩
      · exact .inr ⟨j, x, ⟨by omega, by omega⟩, hx, e⟩
theorem impl_vis_ev {q : List V} (hq : Path q) : ∀ (d : Nat) (p : List V), p.Perm q → ∀ (m : Int), ∃ R, Ev (fun k => vis (impl_OrderMost.step k) d (L p) m) R ∧ m ≤ R ∧ (∀ x ∈ visits d p, A x ≤ R) ∧ (R = m ∨ ∃ x ∈ visits d p, R = A x)
  | 0, p, hp, m => by
    refine ⟨mx m (A p), Ev.bind (impl_areaOf_ev (path_perm hq hp)) (ev_some _), ?_, ?_, ?_⟩
    · unfold mx; omega
    · intro x hx
      have : x = p := List.mem_singleton.1 hx
      subst this
      unfold mx; omega
    · by_cases c : m < A p
      · exact .inr ⟨p, List.mem_singleton.2 rfl, by unfold mx; rw [if_pos c]⟩
      · exact .inl (by unfold mx; rw [if_neg c])
  | d + 1, p, hp, m => by
    have hF : ∀ (j : Nat) (m : Int), ∃ R, Ev (fun k => vis (impl_OrderMost.step k) d (swap (L p) (p.length - (d + 1)) j) m) R ∧ m ≤ R ∧ (∀ x ∈ visits d (swap p (p.length - (d + 1)) j), A x ≤ R) ∧ (R = m ∨ ∃ x ∈ visits d (swap p (p.length - (d + 1)) j), R = A x) := by
      intro j m
      have := impl_vis_ev hq d (swap p (p.length - (d + 1)) j) ((swap_perm _ _ _).trans hp) m
      have e : L (swap p (p.length - (d + 1)) j) = swap (L p) (p.length - (d + 1)) j := swap_map _ _ _ _
      rw [e] at this
      exact this
    obtain ⟨R, e, l, b, c⟩ := impl_row_ev hF (d + 1) (p.length - (d + 1)) m
    refine ⟨R, ?_, l, ?_, ?_⟩
    · unfold vis
      rw [L_length]
      exact e
    · intro x hx
      unfold visits at hx
      obtain ⟨j, hj, hx⟩ := List.mem_flatMap.1 hx
      rw [List.mem_range] at hj
      exact b _ (by omega) (by omega) x hx
    · rcases c with c | ⟨j, x, hj, hx, e⟩
      · exact .inl c
      · refine .inr ⟨x, ?_, e⟩
        unfold visits
        exact List.mem_flatMap.2 ⟨j - (p.length - (d + 1)), List.mem_range.2 (by omega), by rw [show p.length - (d + 1) + (j - (p.length - (d + 1))) = j by omega]; exact hx⟩
theorem area_le_Sm {q p : List V} (hq : Path q) (hp : p.Perm q) : A p ≤ Sm q := by
  have h := path_perm hq hp
  have := A_le_srt h
  rw [A_srt h, Sm_perm hp] at this
  exact this
def mostA (p : List (List Int)) (r : Int × Bool) : Prop := (∀ q, p = L q → Path q → q.length ≤ 6 → r = (Sm q, true)) ∧ (¬ (pathB p = true ∧ p.length ≤ 6) → r = (0, false))
theorem most_known (p : List (List Int)) : ∃ r, mostA p r := by
  by_cases c : pathB p = true ∧ p.length ≤ 6
  · obtain ⟨q, hq, hP⟩ := path_of c.1
    refine ⟨(Sm q, true), fun q' hq' _ _ => ?_, fun h => absurd c h⟩
    have : L q = L q' := by rw [← hq, ← hq']
    have hinj : ∀ (a b : List V), L a = L b → a = b := by
      intro a
      induction a with
      | nil => intro b h; cases b with
        | nil => rfl
        | cons _ _ => cases h
      | cons u a ih => intro b h; cases b with
        | nil => cases h
        | cons v b =>
          have h' : ofV u :: L a = ofV v :: L b := h
          injection h' with h1 h2
          rw [ih b h2]
          congr 1
          injection h1 with h3 h1
          injection h1 with h4 h1
          exact Prod.ext h3 h4
    rw [hinj q q' this]
  · exact ⟨(0, false), fun q hq hP h6 => absurd ⟨by rw [hq]; exact pathB_L hP, by rw [hq, L_length]; exact h6⟩ c, fun _ => rfl⟩
theorem impl_OrderMost_ev {p : List (List Int)} (h : p.length ≤ 1048576) {r : Int × Bool} (hr : mostA p r) : Ev (fun k => impl_OrderMost.f k p) r := by
  unfold impl_OrderMost.f
  refine Ev.bind (impl_PathIn_ev p h) ?_
  by_cases c : pathB p = true
  · refine ev_pos c ?_
    by_cases c6 : p.length ≤ 6
    · refine ev_neg (by omega) ?_
      obtain ⟨q, rfl, hP⟩ := path_of c
      rw [L_length] at c6
      rw [hr.1 q rfl hP c6]
      have hlo := hP.lo
      obtain ⟨R, e, l, b, cc⟩ := impl_vis_ev hP q.length q (List.Perm.refl _) (A q)
      have hR : R = Sm q := by
        refine Int.le_antisymm ?_ ?_
        · rcases cc with cc | ⟨x, hx, cc⟩
          · rw [cc]; exact area_le_Sm hP (List.Perm.refl _)
          · rw [cc]; exact area_le_Sm hP ((mem_visits _ _ _ (Nat.le_refl _)).1 hx).2
        · rw [← A_srt hP]
          exact b _ ((mem_visits _ _ _ (Nat.le_refl _)).2 ⟨by simp, srt_perm q⟩)
      subst hR
      refine Ev.bind (impl_areaOf_ev hP) (Ev.bind (a := Sm q) ?_ (ev_some _))
      unfold impl_orders.f
      rw [L_length]
      exact ev_pos (by omega) (ev_pos (by omega) e)
    · rw [hr.2 (fun h => c6 h.2)]
      exact ev_pos (by omega) (ev_some _)
  · rw [hr.2 (fun h => c h.1)]
    exact ev_neg c (ev_some _)

theorem spec_l6In_eq' (a b c : Int) : spec_l6In.f a b c = some (decide (b ≤ a ∧ a ≤ c)) := by
  unfold spec_l6In.f
  by_cases h : a ≥ b
  · rw [if_pos h]; simp; intro _; exact h
  · rw [if_neg h]; simp; omega
theorem spec_l6sStep_eq (s : List Int) : spec_l6sStep.f s = some (stepB s) := by
  match s with
  | [] => rfl
  | [_] => rfl
  | [x, y] =>
    unfold spec_l6sStep.f
    have h0 : rd [x, y] 0 = x := rfl
    have h1 : rd [x, y] 1 = y := rfl
    have hl : ([x, y].length : Int) = 2 := rfl
    rw [h0, h1, hl, if_pos rfl, if_pos (by decide), spec_l6In_eq', spec_l6In_eq']
    simp only [Option.bind_some]
    rw [stepB_two]
    by_cases b : -9 ≤ x ∧ x ≤ 9
    · rw [if_pos (by simpa using b), if_pos (by decide)]
      by_cases d : -9 ≤ y ∧ y ≤ 9
      · rw [if_pos (by simpa using d)]
        by_cases e : x = 0
        · rw [if_pos e]
          by_cases f : y = 0
          · subst e f; rfl
          · have : (y != 0) = true := by simpa using f
            rw [this, decide_eq_true (by omega)]
        · rw [if_neg e, decide_eq_true (by omega)]
      · rw [if_neg (by simpa using d), decide_eq_false (by omega)]
    · rw [if_neg (by simpa using b), decide_eq_false (by omega)]
  | a :: b :: c :: t =>
    unfold spec_l6sStep.f
    rw [if_neg (by simp; omega)]; rfl

theorem spec_l6sSum_ev (p : List (List Int)) (h : p.length ≤ 1048576) (ha : p.all stepB = true) : Ev (fun k => spec_l6sSum.f k p) (gx p, gy p) := by
  unfold spec_l6sSum.f
  have key := ev_count (fun k i => spec_l6sSum.l0 k p (gx (p.take i)) (gy (p.take i)) (i : Int)) (fun _ => (gx p, gy p)) p.length ?_ ?_ 0 (by omega)
  · exact key
  · refine ev_step ?_
    simp only [spec_l6sSum.l0]
    refine ev_neg (by omega) ?_
    rw [List.take_length]
    exact ev_some _
  · intro i hi ih
    refine ev_step ?_
    simp only [spec_l6sSum.l0]
    refine ev_pos (by omega) (ev_pos (by omega) ?_)
    rw [rdl_get hi]
    have hs : stepB p[i] = true := List.all_eq_true.1 ha _ (List.getElem_mem _)
    have ha' : (p.take (i + 1)).all stepB = true := List.all_eq_true.2 (fun s hs => List.all_eq_true.1 ha s (List.mem_of_mem_take hs))
    have hb := g_bound ha'
    rw [gx_take hi, gy_take hi] at ih hb
    obtain ⟨v, hv, hsv⟩ := stepB_of _ hs
    rw [hv] at ih hb ⊢
    refine ev_pos (by rw [len_ofV]; decide) (ev_pos (by rw [len_ofV]; decide) ?_)
    have hlen : ((p.take (i + 1)).length : Int) ≤ 1048576 := by simp; omega
    rw [w64_succ (by omega), rd0, rd1]
    have e0 : (ofV v).getD 0 0 = v.1 := rfl
    have e1 : (ofV v).getD 1 0 = v.2 := rfl
    rw [e0, e1] at ih hb
    rw [w64 (by omega), w64 (by omega)]
    exact ih
theorem spec_PathIn_ev (p : List (List Int)) (h : p.length ≤ 1048576) : Ev (fun k => spec_PathIn.f k p) (pathB p) := by
  unfold spec_PathIn.f
  have key := down (fun i => (p.take i).all stepB = true → Ev (fun k => spec_PathIn.l0 k p (i : Int)) (decide (3 ≤ p.length) && decide (p.length ≤ 8) && (p.drop i).all stepB && decide (gx p = 0) && decide (gy p = 0))) p.length ?_ ?_ 0 (by omega)
  · exact key rfl
  · intro ha
    rw [List.take_length] at ha
    refine ev_step ?_
    simp only [spec_PathIn.l0]
    refine ev_neg (by omega) (Ev.bind (spec_l6sSum_ev p h ha) ?_)
    rw [spec_l6In_eq', List.drop_length]
    simp only [Option.bind_some]
    by_cases c : (3 : Int) ≤ p.length ∧ (p.length : Int) ≤ 8
    · refine ev_pos (by simpa using c) ?_
      rw [decide_eq_true (by omega), decide_eq_true (by omega)]
      by_cases c : gx p = 0
      · refine ev_pos c ?_
        rw [c]
        have : (gy p == 0) = decide (gy p = 0) := rfl
        rw [this]
        simpa using ev_some _
      · refine ev_neg c ?_
        rw [decide_eq_false c]
        simpa using ev_some _
    · refine ev_neg (by simpa using c) ?_
      have : (decide (3 ≤ p.length) && decide (p.length ≤ 8)) = false := by
        rw [Bool.and_eq_false_iff]; simp; omega
      rw [this]
      simpa using ev_some _
  · intro i hi ih ha
    refine ev_step ?_
    simp only [spec_PathIn.l0]
    refine ev_pos (by omega) (ev_pos (by omega) ?_)
    rw [rdl_get hi, spec_l6sStep_eq, drop_cons hi, List.all_cons]
    simp only [Option.bind_some]
    by_cases hs : stepB p[i] = true
    · refine ev_pos hs ?_
      rw [w64_succ (by omega), hs, Bool.true_and]
      exact ih (all_take hi ha hs)
    · refine ev_neg hs ?_
      rw [Bool.eq_false_iff.2 hs]
      simpa using ev_some _

theorem spec_corners_ev {q : List V} (h : Path q) : Ev (fun k => spec_l6sCorners.f k (L q)) (L (corn q)) := by
  unfold spec_l6sCorners.f
  have key := ev_count (fun k i => spec_l6sCorners.l0 k (L q) (L ((corn q).take i)) (sx (q.take i)) (sy (q.take i)) (i : Int)) (fun _ => L (corn q)) q.length ?_ ?_ 0 (by omega)
  · exact key
  · refine ev_step ?_
    simp only [spec_l6sCorners.l0]
    refine ev_neg (by rw [lenL]; omega) ?_
    rw [List.take_of_length_le (by rw [corn_length]; exact Nat.le_refl _)]
    exact ev_some _
  · intro i hi ih
    have hq := h.hi
    have hv := h.st q[i] (List.getElem_mem _)
    have hb := st_bound h i
    simp only [stepV] at hv
    refine ev_step ?_
    simp only [spec_l6sCorners.l0]
    rw [rdl_L hi, lenL, len_ofV, rd0, rd1]
    refine ev_pos (by omega) (ev_pos (by rw [L_length]; simp; omega) (ev_pos (by omega) (ev_pos (by decide) (ev_pos (by decide) ?_))))
    rw [corn_take hi, w64_succ (by omega), w64 (by omega), w64 (by omega), ← sx_take hi, ← sy_take hi]
    exact ih

theorem spec_cross_mul (a b : V) : spec_l6sCross.f (ofV a) (ofV b) = some (wrap64 (cr a b)) := by
  unfold spec_l6sCross.f cr
  rw [len_ofV, len_ofV, if_pos (by decide), if_pos (by decide), if_pos (by decide), if_pos (by decide), rd0, rd0, rd1, rd1]
  simp only [w_sub_l, w_sub_r]
theorem spec_l6sArea_ev {q : List V} (h : Path q) : Ev (fun k => spec_l6sArea.f k (L q)) (A q) := by
  unfold spec_l6sArea.f
  have hq := h.hi
  have h3 := h.lo
  refine Ev.bind (spec_corners_ev h) ?_
  have key := ev_count (fun k i => spec_l6sArea.l0 k (A (q.take i)) (L (corn q)) (i : Int)) (fun _ => A q) q.length ?_ ?_ 0 (by omega)
  · exact key
  · refine ev_step ?_
    simp only [spec_l6sArea.l0]
    refine ev_neg (by rw [lenL, corn_length]; omega) ?_
    rw [List.take_length]
    exact ev_some _
  · intro i hi ih
    have hic : i < (corn q).length := by rw [corn_length]; exact hi
    have hm : (i + 1) % q.length < q.length := Nat.mod_lt _ (by omega)
    have hmc : (i + 1) % q.length < (corn q).length := by rw [corn_length]; exact hm
    have em : Int.tmod (wrap64 ((i : Int) + 1)) ((L (corn q)).length : Int) = (((i + 1) % q.length : Nat) : Int) := by
      rw [w64_succ (by omega), lenL, corn_length, ← Int.ofNat_tmod]
    have ha := A_tb h (i + 1)
    have e : cr ((corn q)[i]) ((corn q)[(i + 1) % q.length]) = sx (q.take i) * q[i].2 - sy (q.take i) * q[i].1 := by
      rw [corn_get hi, corn_get hm]
      have ex : sx (q.take ((i + 1) % q.length)) = sx (q.take (i + 1)) ∧ sy (q.take ((i + 1) % q.length)) = sy (q.take (i + 1)) := by
        by_cases c : i + 1 < q.length
        · rw [Nat.mod_eq_of_lt c]; exact ⟨rfl, rfl⟩
        · have : i + 1 = q.length := by omega
          rw [this, Nat.mod_self, List.take_length, h.x0, h.y0]; exact ⟨rfl, rfl⟩
      unfold cr
      dsimp only
      rw [ex.1, ex.2, sx_take hi, sy_take hi]
      grind
    rw [A_take hi] at ih ha
    refine ev_step ?_
    simp only [spec_l6sArea.l0]
    rw [em, rdl_L hic, rdl_L hmc, spec_cross_mul, e]
    simp only [Option.bind_some, w_add_r]
    rw [w64 (by omega), w64_succ (by omega)]
    exact ev_pos (by rw [lenL]; omega) (ev_pos (by omega) (ev_neg (by rw [lenL, corn_length]; omega) (ev_pos (by omega) (ev_pos (by rw [lenL]; omega) ih))))

theorem spec_row_ev {ah rs : List V} {d : Nat} (hF : ∀ j, j < rs.length → ∃ R, Ev (fun k => spec_l7Most.l k d (L ah ++ [(L rs).getD j []]) ((L rs).take j ++ (L rs).drop (j + 1))) R ∧ (∀ x, x.Perm (rs.take j ++ rs.drop (j + 1)) → A (ah ++ rs[j]?.getD (0, 0) :: x) ≤ R) ∧ ∃ x, x.Perm (rs.take j ++ rs.drop (j + 1)) ∧ R = A (ah ++ rs[j]?.getD (0, 0) :: x)) :
    ∀ (r i : Nat) (m : Int), i + r ≤ rs.length → ∃ R, Ev (fun k => spec_l7Most.row (fun i => spec_l7Most.l k d (L ah ++ [(L rs).getD i []]) ((L rs).take i ++ (L rs).drop (i + 1))) r i m) R ∧ m ≤ R ∧ (∀ j, i ≤ j → j < i + r → ∀ x, x.Perm (rs.take j ++ rs.drop (j + 1)) → A (ah ++ rs[j]?.getD (0, 0) :: x) ≤ R) ∧ (R = m ∨ ∃ j x, (i ≤ j ∧ j < i + r) ∧ x.Perm (rs.take j ++ rs.drop (j + 1)) ∧ R = A (ah ++ rs[j]?.getD (0, 0) :: x))
  | 0, i, m, _ => ⟨m, ev_some _, Int.le_refl _, fun j h1 h2 => by omega, .inl rfl⟩
  | r + 1, i, m, hir => by
    obtain ⟨R1, e1, b1, c1⟩ := hF i (by omega)
    obtain ⟨R2, e2, l2, b2, c2⟩ := spec_row_ev hF r (i + 1) (mx m R1) (by omega)
    have hm1 : m ≤ mx m R1 := by unfold mx; omega
    have hm2 : R1 ≤ mx m R1 := by unfold mx; omega
    refine ⟨R2, Ev.bind e1 e2, Int.le_trans hm1 l2, fun j h1 h2 x hx => ?_, ?_⟩
    · by_cases c : j = i
      · subst c
        exact Int.le_trans (b1 x hx) (Int.le_trans hm2 l2)
      · exact b2 j (by omega) (by omega) x hx
    · rcases c2 with c2 | ⟨j, x, hj, hx, e⟩
      · by_cases c : m < R1
        · obtain ⟨x, hx, e⟩ := c1
          exact .inr ⟨i, x, ⟨by omega, by omega⟩, hx, by rw [c2]; unfold mx; rw [if_pos c]; exact e⟩
        · exact .inl (by rw [c2]; unfold mx; rw [if_neg c])
      · exact .inr ⟨j, x, ⟨by omega, by omega⟩, hx, e⟩
theorem perm_at {rs : List V} {j : Nat} (h : j < rs.length) : (rs[j]?.getD (0, 0) :: (rs.take j ++ rs.drop (j + 1))).Perm rs := by
  rw [List.getElem?_eq_getElem h, Option.getD_some]
  have e : rs = rs.take j ++ rs[j] :: rs.drop (j + 1) := by rw [← List.drop_eq_getElem_cons h, List.take_append_drop]
  exact (List.perm_middle.symm).trans (List.Perm.of_eq e.symm)
theorem spec_l_ev {q : List V} (hq : Path q) : ∀ (d : Nat) (ah rs : List V), rs.length = d → (ah ++ rs).Perm q → ∃ R, Ev (fun k => spec_l7Most.l k d (L ah) (L rs)) R ∧ (∀ x, x.Perm rs → A (ah ++ x) ≤ R) ∧ ∃ x, x.Perm rs ∧ R = A (ah ++ x)
  | 0, ah, rs, hd, hp => by
    have : rs = [] := List.length_eq_zero_iff.1 hd
    subst this
    rw [List.append_nil] at hp
    refine ⟨A ah, spec_l6sArea_ev (path_perm hq hp), fun x hx => ?_, [], List.Perm.refl _, by rw [List.append_nil]⟩
    rw [List.perm_nil.1 hx, List.append_nil]
    exact Int.le_refl _
  | d + 1, ah, rs, hd, hp => by
    have hF : ∀ j, j < rs.length → ∃ R, Ev (fun k => spec_l7Most.l k d (L ah ++ [(L rs).getD j []]) ((L rs).take j ++ (L rs).drop (j + 1))) R ∧ (∀ x, x.Perm (rs.take j ++ rs.drop (j + 1)) → A (ah ++ rs[j]?.getD (0, 0) :: x) ≤ R) ∧ ∃ x, x.Perm (rs.take j ++ rs.drop (j + 1)) ∧ R = A (ah ++ rs[j]?.getD (0, 0) :: x) := by
      intro j hj
      obtain ⟨R, e, b, x, hx, ex⟩ := spec_l_ev hq d (ah ++ [rs[j]?.getD (0, 0)]) (rs.take j ++ rs.drop (j + 1)) (by simp; omega) (by
        rw [List.append_assoc]
        exact ((perm_at hj).append_left ah).trans hp)
      have e1 : L (ah ++ [rs[j]?.getD (0, 0)]) = L ah ++ [(L rs).getD j []] := by
        unfold L
        rw [List.map_append, List.getD_eq_getElem?_getD, List.getElem?_map, List.getElem?_eq_getElem hj]
        rfl
      have e2 : L (rs.take j ++ rs.drop (j + 1)) = (L rs).take j ++ (L rs).drop (j + 1) := by
        unfold L
        rw [List.map_append, List.map_take, List.map_drop]
      rw [e1, e2] at e
      refine ⟨R, e, fun x hx => ?_, x, hx, ?_⟩
      · have := b x hx
        rwa [List.append_assoc] at this
      · rw [ex, List.append_assoc]
        rfl
    obtain ⟨R, e, l, b, c⟩ := spec_row_ev hF (d + 1) 0 (-1000000) (by omega)
    have hall : ∀ x, x.Perm rs → A (ah ++ x) ≤ R := by
      intro x hx
      cases x with
      | nil => have := hx.length_eq; simp at this; omega
      | cons v t =>
        have hv : v ∈ rs := hx.mem_iff.1 List.mem_cons_self
        obtain ⟨j, hj, ej⟩ := List.getElem_of_mem hv
        have := b j (Nat.zero_le _) (by omega) t (by
          have h1 : (v :: t).Perm (v :: (rs.take j ++ rs.drop (j + 1))) := by
            have h2 := perm_at hj
            rw [List.getElem?_eq_getElem hj, Option.getD_some, ej] at h2
            exact hx.trans h2.symm
          exact h1.cons_inv)
        rwa [List.getElem?_eq_getElem hj, Option.getD_some, ej] at this
    refine ⟨R, e, hall, ?_⟩
    rcases c with c | ⟨j, x, hj, hx, ex⟩
    · exfalso
      have h1 := hall rs (List.Perm.refl _)
      have h2 := (path_A (path_perm hq hp)).1
      omega
    · exact ⟨_, (hx.cons _).trans (perm_at (by omega)), ex⟩
theorem spec_OrderMost_ev {p : List (List Int)} (h : p.length ≤ 1048576) {r : Int × Bool} (hr : mostA p r) : Ev (fun k => spec_OrderMost.f k p) r := by
  unfold spec_OrderMost.f
  refine Ev.bind (spec_PathIn_ev p h) ?_
  by_cases c : pathB p = true
  · refine ev_pos c ?_
    by_cases c6 : p.length ≤ 6
    · refine ev_neg (by omega) ?_
      obtain ⟨q, rfl, hP⟩ := path_of c
      rw [L_length] at c6
      rw [hr.1 q rfl hP c6]
      obtain ⟨R, e, b, x, hx, ex⟩ := spec_l_ev hP q.length [] q rfl (List.Perm.refl _)
      have hR : R = Sm q := by
        refine Int.le_antisymm ?_ ?_
        · rw [ex]; exact area_le_Sm hP hx
        · rw [← A_srt hP]
          exact b _ (srt_perm q)
      subst hR
      refine Ev.bind (a := Sm q) ?_ (ev_some _)
      unfold spec_l7Most.f
      rw [L_length]
      exact ev_pos (by simp; omega) e
    · rw [hr.2 (fun h => c6 h.2)]
      exact ev_pos (by omega) (ev_some _)
  · rw [hr.2 (fun h => c h.1)]
    exact ev_neg c (ev_some _)

def b9 (v : V) : Prop := -9 ≤ v.1 ∧ v.1 ≤ 9 ∧ -9 ≤ v.2 ∧ v.2 ≤ 9
theorem cr_bound {a b : V} (ha : b9 a) (hb : b9 b) : -162 ≤ cr a b ∧ cr a b ≤ 162 := by
  unfold b9 at ha hb
  have h1 := mul9 (x := a.1) (v := b.2) (M := 9) ⟨ha.1, ha.2.1⟩ ⟨hb.2.2.1, hb.2.2.2⟩
  have h2 := mul9 (x := a.2) (v := b.1) (M := 9) ⟨ha.2.2.1, ha.2.2.2⟩ ⟨hb.1, hb.2.1⟩
  unfold cr; omega

theorem b9_of {q : List V} (h : Path q) : ∀ v ∈ q, b9 v := fun v hv => by
  have := h.st v hv
  simp only [stepV] at this
  unfold b9; omega
theorem impl_cross_eq {a b : V} (ha : b9 a) (hb : b9 b) : impl_cross.f (ofV a) (ofV b) = some (cr a b) := by
  unfold impl_cross.f
  rw [len_ofV, len_ofV, if_pos (by decide), if_pos (by decide), if_pos (by decide), if_pos (by decide), rd0, rd0, rd1, rd1]
  simp only [w_sub_l, w_sub_r]
  have := cr_bound ha hb
  unfold cr at this ⊢
  rw [w64 (by omega)]
theorem impl_lower_eq {a : V} (h : stepV a) : impl_lower.f (ofV a) = some (decide (half a = 1)) := by
  unfold impl_lower.f half
  simp only [stepV] at h
  rw [len_ofV, rd0, rd1, if_pos (by decide)]
  by_cases c : a.2 < 0
  · rw [if_pos c, if_neg (by omega), if_neg (by omega)]; rfl
  · rw [if_neg c]
    by_cases d : a.2 = 0
    · rw [if_pos d, if_pos (by decide), if_neg (by omega)]
      by_cases e : a.1 > 0
      · rw [if_pos ⟨d, e⟩, decide_eq_false (by omega)]; rfl
      · rw [if_neg (fun h => e h.2), decide_eq_true (by omega)]; rfl
    · rw [if_neg d, if_pos (by omega)]; rfl
theorem half01 (a : V) : half a = 0 ∨ half a = 1 := by
  unfold half
  split
  · exact Or.inl rfl
  · split
    · exact Or.inl rfl
    · exact Or.inr rfl
theorem impl_compare_ev {a b : V} (ha : stepV a) (hb : stepV b) : ∃ n, impl_compareSteps.f (ofV a) (ofV b) = some n ∧ (decide (n > 0) = desc a b) ∧ -1 ≤ n ∧ n ≤ 1 := by
  unfold impl_compareSteps.f
  rw [impl_lower_eq ha, impl_lower_eq hb, impl_cross_eq (by simp only [stepV] at ha; unfold b9; omega) (by simp only [stepV] at hb; unfold b9; omega)]
  simp only [Option.bind_some]
  unfold desc before
  rcases half01 a with h0 | h0 <;> rcases half01 b with h1 | h1 <;> rw [h0, h1]
  · rw [if_neg (by decide), if_pos rfl]
    have e : cr b a = -cr a b := by unfold cr; grind
    rw [e]
    by_cases c : cr a b > 0
    · exact ⟨-1, by rw [if_pos c], by rw [decide_eq_false (by omega), decide_eq_false (by omega)], by omega⟩
    · by_cases d : cr a b < 0
      · exact ⟨1, by rw [if_neg c, if_pos d], by rw [decide_eq_true (by omega), decide_eq_true (by omega)], by omega⟩
      · exact ⟨0, by rw [if_neg c, if_neg d], by rw [decide_eq_false (by omega), decide_eq_false (by omega)], by omega⟩
  · exact ⟨-1, by simp, by simp, by omega⟩
  · exact ⟨1, by simp, by simp, by omega⟩
  · rw [if_neg (by decide), if_pos rfl]
    have e : cr b a = -cr a b := by unfold cr; grind
    rw [e]
    by_cases c : cr a b > 0
    · exact ⟨-1, by rw [if_pos c], by rw [decide_eq_false (by omega), decide_eq_false (by omega)], by omega⟩
    · by_cases d : cr a b < 0
      · exact ⟨1, by rw [if_neg c, if_pos d], by rw [decide_eq_true (by omega), decide_eq_true (by omega)], by omega⟩
      · exact ⟨0, by rw [if_neg c, if_neg d], by rw [decide_eq_false (by omega), decide_eq_false (by omega)], by omega⟩

theorem L_take (q : List V) (n : Nat) : (L q).take n = L (q.take n) := by simp [L]
theorem L_drop (q : List V) (n : Nat) : (L q).drop n = L (q.drop n) := by simp [L]
theorem L_append (a b : List V) : L a ++ L b = L (a ++ b) := by simp [L]
theorem L_snoc (q : List V) (v : V) : L q ++ [ofV v] = L (q ++ [v]) := by simp [L]

theorem impl_compare_lt {a b : V} (ha : stepV a) (hb : stepV b) : ∃ n, impl_compareSteps.f (ofV a) (ofV b) = some n ∧ decide (n < 0) = before a b := by
  unfold impl_compareSteps.f
  rw [impl_lower_eq ha, impl_lower_eq hb, impl_cross_eq (by simp only [stepV] at ha; unfold b9; omega) (by simp only [stepV] at hb; unfold b9; omega)]
  simp only [Option.bind_some]
  unfold before
  rcases half01 a with h0 | h0 <;> rcases half01 b with h1 | h1 <;> rw [h0, h1]
  · rw [if_neg (by decide), if_pos rfl]
    by_cases c : cr a b > 0
    · exact ⟨-1, by rw [if_pos c], by rw [decide_eq_true (by omega), decide_eq_true (by omega)]⟩
    · by_cases d : cr a b < 0
      · exact ⟨1, by rw [if_neg c, if_pos d], by rw [decide_eq_false (by omega), decide_eq_false (by omega)]⟩
      · exact ⟨0, by rw [if_neg c, if_neg d], by rw [decide_eq_false (by omega), decide_eq_false (by omega)]⟩
  · exact ⟨-1, by simp, by simp⟩
  · exact ⟨1, by simp, by simp⟩
  · rw [if_neg (by decide), if_pos rfl]
    by_cases c : cr a b > 0
    · exact ⟨-1, by rw [if_pos c], by rw [decide_eq_true (by omega), decide_eq_true (by omega)]⟩
    · by_cases d : cr a b < 0
      · exact ⟨1, by rw [if_neg c, if_pos d], by rw [decide_eq_false (by omega), decide_eq_false (by omega)]⟩
      · exact ⟨0, by rw [if_neg c, if_neg d], by rw [decide_eq_false (by omega), decide_eq_false (by omega)]⟩
theorem isort_L (cmp : List Int → List Int → Int) (hc : ∀ a b : V, stepV a → stepV b → decide (cmp (ofV a) (ofV b) < 0) = before a b) {q : List V} (hq : ∀ v ∈ q, stepV v) : isort (fun a b => decide (cmp a b < 0)) (L q) = L (srt q) := by
  have hpos : ∀ (v : V) (out : List V), stepV v → (∀ u ∈ out, stepV u) → ∀ k, k ≤ out.length → posR (fun a b => decide (cmp a b < 0)) (ofV v) (L out) k = pos v out k := by
    intro v out hv ho k
    induction k with
    | zero => intro _; rfl
    | succ k ih =>
      intro hk
      have hk' : k < out.length := by omega
      have e1 : (L out).getD k default = ofV out[k] := by simp [L, hk']
      have e2 : out.getD k (0, 0) = out[k] := by simp [hk']
      unfold posR pos
      rw [e1, e2]
      show (if decide (cmp (ofV v) (ofV out[k]) < 0) = true then _ else _) = _
      rw [hc v out[k] hv (ho _ (List.getElem_mem _)), ih (by omega)]
  have hins : ∀ (v : V) (out : List V), stepV v → (∀ u ∈ out, stepV u) → insR (fun a b => decide (cmp a b < 0)) (ofV v) (L out) = L (ins v out) := by
    intro v out hv ho
    unfold insR ins
    rw [hpos v out hv ho _ (by rw [L_length]; exact Nat.le_refl _), L_length, L_take, L_drop]
    simp [L]
  have key : ∀ (q out : List V), (∀ v ∈ q, stepV v) → (∀ u ∈ out, stepV u) → (L q).foldl (fun out x => insR (fun a b => decide (cmp a b < 0)) x out) (L out) = L (q.foldl (fun out v => ins v out) out) := by
    intro q
    induction q with
    | nil => intro out _ _; rfl
    | cons v t ih =>
      intro out hq ho
      show (L t).foldl _ (insR _ (ofV v) (L out)) = _
      rw [hins v out (hq v (by simp)) ho, List.foldl_cons]
      refine ih _ (fun u hu => hq u (by simp [hu])) (fun u hu => ?_)
      rcases List.mem_cons.1 ((ins_perm v out).mem_iff.1 hu) with rfl | hu
      · exact hq _ (by simp)
      · exact ho u hu
  exact key q [] hq (fun u hu => by cases hu)

theorem clone_int_eq (l : List Int) (h : l.length ≤ 1048576) : slices_Clone_int_int_44.f l = some l := by
  unfold slices_Clone_int_int_44.f
  simp only [Option.bind_some]
  rw [if_pos (by simp; omega)]; rfl
theorem copySteps_ev (q : List V) (hl : q.length ≤ 1048576) : Ev (fun k => impl_copySteps.f k (L q)) (L q) := by
  unfold impl_copySteps.f
  have key := ev_count (fun k i => impl_copySteps.l0 k (L (q.take i)) (L q) ((L q).length : Int) (i : Int)) (fun _ => L q) q.length ?_ ?_ 0 (by omega)
  · exact key
  · refine ev_step ?_
    simp only [impl_copySteps.l0]
    refine ev_neg (by rw [lenL]; omega) ?_
    rw [List.take_length]
    exact ev_some _
  · intro i hi ih
    refine ev_step ?_
    simp only [impl_copySteps.l0]
    rw [rdl_L hi, clone_int_eq (ofV q[i]) (show 2 ≤ 1048576 from by decide), w64_succ (by omega)]
    simp only [Option.bind_some]
    have e : L (q.take i) ++ [ofV q[i]] = L (q.take (i + 1)) := by rw [List.take_succ_eq_append_getElem hi, ← L_snoc]
    rw [e]
    exact ev_pos (by rw [lenL]; omega) (ev_pos (by omega) (ev_pos (by rw [lenL]; omega) (ev_pos (by simp [L]; omega) ih)))

theorem impl_OrderSorted_ev {q : List V} (h : Path q) : Ev (fun k => impl_OrderSorted.f k (L q)) (L (srt q), true) := by
  unfold impl_OrderSorted.f
  have hq := h.hi
  have h3 := h.lo
  refine Ev.bind (impl_PathIn_ev _ (by rw [L_length]; omega)) ?_
  rw [pathB_L h]
  refine ev_pos rfl (Ev.bind (copySteps_ev q (by omega)) (ev_pos ⟨by rw [L_length]; omega, by rw [L_length]; omega, ?_⟩ ?_))
  · intro a ha b hb
    obtain ⟨u, hu, rfl⟩ := List.mem_map.1 ha
    obtain ⟨v, hv, rfl⟩ := List.mem_map.1 hb
    obtain ⟨n, hn, _⟩ := impl_compare_lt (h.st u hu) (h.st v hv)
    rw [hn]; rfl
  · rw [isort_L impl_OrderSorted.cmp (fun a b ha hb => by
      obtain ⟨n, hn, e⟩ := impl_compare_lt ha hb
      unfold impl_OrderSorted.cmp
      rw [hn]; exact e) h.st]
    exact ev_some _
theorem impl_OrderSorted_no {p : List (List Int)} (hl : p.length ≤ 1048576) (h : pathB p = false) : Ev (fun k => impl_OrderSorted.f k p) ([], false) := by
  unfold impl_OrderSorted.f
  refine Ev.bind (impl_PathIn_ev p hl) ?_
  rw [h]
  exact ev_neg (by decide) (ev_some _)

theorem impl_PathArea_ev {q : List V} (h : Path q) : Ev (fun k => impl_PathArea.f k (L q)) (A q, true) := by
  unfold impl_PathArea.f
  have hq := h.hi
  refine Ev.bind (impl_PathIn_ev _ (by rw [L_length]; omega)) ?_
  rw [pathB_L h]
  exact ev_pos rfl (Ev.bind (impl_areaOf_ev h) (ev_some _))
theorem impl_PathArea_no {p : List (List Int)} (hl : p.length ≤ 1048576) (h : pathB p = false) : Ev (fun k => impl_PathArea.f k p) (0, false) := by
  unfold impl_PathArea.f
  refine Ev.bind (impl_PathIn_ev p hl) ?_
  rw [h]
  exact ev_neg (by decide) (ev_some _)

theorem open_eq (l : List Int) : ∃ b, spec_l6Open.f l = some (b, 0) ∧ b.length ≤ 2000 ∧ ∀ x ∈ b, x ∈ l := by
  unfold spec_l6Open.f
  by_cases h : (l.length : Int) > 2000
  · refine ⟨l.take 2000, by rw [if_pos h, if_pos (by omega)], by simp; omega, fun x hx => List.mem_of_mem_take hx⟩
  · exact ⟨l, by rw [if_neg h], by omega, fun x hx => hx⟩
theorem u8_range {l : List Int} (h : ∀ x ∈ l, (Lit.int .u8 x).wf = true) : ∀ x ∈ l, 0 ≤ x ∧ x ≤ 255 := by
  intro x hx
  have := h x hx
  have h0 : IntKind.u8.min = 0 := rfl
  have h1 : IntKind.u8.max = 255 := rfl
  simp [Lit.wf, h0, h1] at this
  omega

/-- A draw: a number from 0 to n-1 (0 where n is less than 1), the place goes on by one. -/
theorem pick_ev (b : List Int) (p n : Int) (hp : 0 ≤ p ∧ p ≤ 1000000000) (hb : b.length ≤ 2000) (hx : ∀ x ∈ b, 0 ≤ x ∧ x ≤ 255) (hn : -1000000 ≤ n ∧ n ≤ 1000000) :
    ∃ r, Ev (fun k => spec_l6Rd_pick.f k b p n) (r, p + 1) ∧ 0 ≤ r ∧ (1 ≤ n → r < n) ∧ (n < 1 → r = 0) := by
  have e1 : wrap64 (p + 1) = p + 1 := w64 (by omega)
  have e2 : wrap64 (p + 1 - 1) = p := by rw [show p + 1 - 1 = p from by omega]; exact w64 (by omega)
  have hrd : ∀ i : Int, 0 ≤ i → i < b.length → 0 ≤ rd b i ∧ rd b i ≤ 255 := by
    intro i h0 h1
    obtain ⟨j, rfl⟩ := Int.eq_ofNat_of_zero_le h0
    rw [rd_get (by omega)]
    exact hx _ (List.getElem_mem _)
  unfold spec_l6Rd_pick.f
  rw [e1]
  by_cases h1 : n < 1
  · refine ⟨0, ev_pos h1 ?_, by omega, by omega, fun _ => rfl⟩
    refine ev_step ?_
    simp only [spec_l6Rd_pick.j0]
    exact ev_pos (by trivial) (ev_some _)
  · by_cases h2 : b.length = 0
    · refine ⟨0, ev_neg h1 ?_, by omega, by omega, fun _ => rfl⟩
      refine ev_step ?_
      simp only [spec_l6Rd_pick.j0]
      refine ev_pos ?_ (ev_some _)
      rw [h2]; rfl
    · by_cases h3 : p < b.length
      · have hr := hrd p hp.1 h3
        refine ⟨Int.tmod (wrap64 (rd b p)) n, ev_neg h1 ?_, ?_, ?_, by omega⟩
        · refine ev_step ?_
          simp only [spec_l6Rd_pick.j0, e2]
          refine ev_neg ?_ (ev_pos h3 (ev_pos hp.1 (ev_neg (by omega) (ev_some _))))
          simpa using h2
        · rw [w64 (by omega)]; exact Int.tmod_nonneg _ hr.1
        · intro _; rw [w64 (by omega)]; exact Int.tmod_lt_of_pos _ (by omega)
      · have hL : (0 : Int) < b.length := by omega
        have q0 : 0 ≤ Int.tmod p b.length := Int.tmod_nonneg _ hp.1
        have q1 : Int.tmod p b.length < b.length := Int.tmod_lt_of_pos _ hL
        have e3 : wrap64 (p * 7) = p * 7 := w64 (by omega)
        have e4 : wrap64 (p * 7 + 3) = p * 7 + 3 := w64 (by omega)
        have s0 : 0 ≤ Int.tmod (p * 7 + 3) b.length := Int.tmod_nonneg _ (by omega)
        have s1 : Int.tmod (p * 7 + 3) b.length < b.length := Int.tmod_lt_of_pos _ hL
        have hu := hrd _ q0 q1
        have hv := hrd _ s0 s1
        have hd0 : 0 ≤ Int.tdiv p b.length := Int.tdiv_nonneg hp.1 (by omega)
        have hd1 : Int.tdiv p b.length ≤ p := by
          rw [Int.tdiv_eq_ediv_of_nonneg hp.1]
          exact Int.ediv_le_self _ hp.1
        generalize hu' : rd b (Int.tmod p b.length) = u at hu
        generalize hv' : rd b (Int.tmod (p * 7 + 3) b.length) = v at hv
        generalize hd' : Int.tdiv p b.length = d at hd0 hd1
        obtain ⟨X, hX, hX0, hX1⟩ : ∃ X : Int, wrap64 (wrap64 (wrap64 (wrap64 (wrap64 u * 131) + wrap64 (wrap64 v * 1117)) + wrap64 (p * 29)) + wrap64 (wrap64 d * 53)) = X ∧ 0 ≤ X ∧ X < 4611686018427387904 := by
          refine ⟨u * 131 + v * 1117 + p * 29 + d * 53, ?_, by omega, by omega⟩
          rw [w64 (x := u) (by omega), w64 (x := u * 131) (by omega), w64 (x := v) (by omega), w64 (x := v * 1117) (by omega), w64 (x := d) (by omega), w64 (x := d * 53) (by omega), w64 (x := p * 29) (by omega),
            w64 (x := u * 131 + v * 1117) (by omega), w64 (x := u * 131 + v * 1117 + p * 29) (by omega), w64 (by omega)]
        have hY0 : 0 ≤ Int.tdiv X 64 := Int.tdiv_nonneg hX0 (by omega)
        have hY1 : Int.tdiv X 64 < 4611686018427387904 := by
          rw [Int.tdiv_eq_ediv_of_nonneg hX0]; omega
        have eY : wrap64 (Int.tdiv X 64) = Int.tdiv X 64 := w64 (by omega)
        have hz : 0 ≤ Go.bits .xor .i64 X (Int.tdiv X 64) := xor_nonneg hX0 (by omega) hY0 (by omega)
        refine ⟨Int.tmod (Go.bits .xor .i64 X (Int.tdiv X 64)) n, ev_neg h1 ?_, ?_, ?_, by omega⟩
        · refine ev_step ?_
          simp only [spec_l6Rd_pick.j0, e2, e3, e4, hu', hv', hd', hX, eY]
          refine ev_neg ?_ (ev_neg h3 (ev_neg (by omega) (ev_pos q0 (ev_pos q1 (ev_pos s0 (ev_pos s1 (ev_neg (by omega) (ev_some _))))))))
          simpa using h2
        · exact Int.tmod_nonneg _ hz
        · intro _; exact Int.tmod_lt_of_pos _ (by omega)

theorem l92Step_ev (b : List Int) (hb : b.length ≤ 2000) (hx : ∀ x ∈ b, 0 ≤ x ∧ x ≤ 255) (p m : Int) (hp : 0 ≤ p ∧ p ≤ 1000) (hm : 0 ≤ m ∧ m ≤ 9) :
    ∃ v : V, Ev (fun k => spec_l92Step.f k b p m) (ofV v, p + 1 + 1) ∧ (-m ≤ v.1 ∧ v.1 ≤ max m 1) ∧ -m ≤ v.2 ∧ v.2 ≤ m := by
  have e : wrap64 (wrap64 (2 * m) + 1) = 2 * m + 1 := by rw [w64 (x := 2 * m) (by omega), w64 (by omega)]
  obtain ⟨r, hr, h0, h1, _⟩ := pick_ev b p (2 * m + 1) (by omega) hb hx (by omega)
  obtain ⟨s, hs, k0, k1, _⟩ := pick_ev b (p + 1) (2 * m + 1) (by omega) hb hx (by omega)
  have h1 := h1 (by omega)
  have k1 := k1 (by omega)
  have e1 : wrap64 (r - m) = r - m := w64 (by omega)
  have e2 : wrap64 (s - m) = s - m := w64 (by omega)
  unfold spec_l92Step.f
  rw [e]
  by_cases c : r - m = 0
  · by_cases d : s - m = 0
    · refine ⟨(1, s - m), Ev.bind hr (Ev.bind hs ?_), by omega, by omega⟩
      simp only [e1, e2]
      exact ev_pos c (ev_pos d (ev_some _))
    · refine ⟨(r - m, s - m), Ev.bind hr (Ev.bind hs ?_), by omega, by omega⟩
      simp only [e1, e2]
      exact ev_pos c (ev_neg d (ev_some _))
  · refine ⟨(r - m, s - m), Ev.bind hr (Ev.bind hs ?_), by omega, by omega⟩
    simp only [e1, e2]
    exact ev_neg c (ev_some _)

theorem spec_cross_eq {a b : V} (ha : b9 a) (hb : b9 b) : spec_l6sCross.f (ofV a) (ofV b) = some (cr a b) := by
  unfold spec_l6sCross.f
  rw [len_ofV, len_ofV, if_pos (by decide), if_pos (by decide), if_pos (by decide), if_pos (by decide), rd0, rd0, rd1, rd1]
  simp only [w_sub_l, w_sub_r]
  have := cr_bound ha hb
  unfold cr at this ⊢
  rw [w64 (by omega)]
theorem spec_half_eq (a : V) : spec_l6sHalf.f (ofV a) = some (half a) := by
  unfold spec_l6sHalf.f half
  rw [len_ofV, rd0, rd1, if_pos (by decide)]
  by_cases c : a.2 > 0
  · rw [if_pos c, if_pos c]
  · rw [if_neg c, if_neg c]
    by_cases d : a.2 = 0
    · rw [if_pos d, if_pos (by decide)]
      by_cases e : a.1 > 0
      · rw [if_pos e, if_pos ⟨d, e⟩]
      · rw [if_neg e, if_neg (fun h => e h.2)]
    · rw [if_neg d, if_neg (fun h => d h.1)]
theorem spec_before_eq {a b : V} (ha : b9 a) (hb : b9 b) : spec_l6sBefore.f (ofV a) (ofV b) = some (before a b) := by
  unfold spec_l6sBefore.f before
  rw [spec_half_eq, spec_half_eq, spec_cross_eq ha hb]
  simp only [Option.bind_some]
  by_cases c : half a = half b
  · rw [if_pos c, if_pos c]
  · rw [if_neg c, if_neg c]

theorem sorted_inner {q : List V} (hq : ∀ v ∈ q, b9 v) (hl : q.length ≤ 1048576) {i : Nat} (hi : i < q.length) (out : List V) (ho : ∀ v ∈ out, b9 v) (hol : out.length = i) (r : List (List Int))
    (hk : Ev (fun k => spec_l7Sorted.l0 k (L q) (L (ins q[i] out)) ((i + 1 : Nat) : Int)) r) :
    ∀ k : Nat, k ≤ out.length → pos q[i] out k = pos q[i] out out.length → Ev (fun n => spec_l7Sorted.l1 n (L q) (L out) (i : Int) (k : Int)) r := by
  have put : ∀ k : Nat, k ≤ out.length → k = pos q[i] out out.length → Ev (fun n => (if 0 < (([q[i].1, q[i].2] : List Int).length : Int) then (if 1 < (([q[i].1, q[i].2] : List Int).length : Int) then ((some ([] : List (List Int))).bind fun y => (if 0 ≤ (k : Int) then (if (k : Int) ≤ ((L out).length : Int) then ((some ((L out).take (k : Int).toNat)).bind fun y2 => (if y.length + y2.length < 5864062014805 then ((some (y ++ y2)).bind fun y3 => ((some [[rd [q[i].1, q[i].2] 0, rd [q[i].1, q[i].2] 1]]).bind fun y4 => (if y3.length + y4.length < 5864062014805 then ((some (y3 ++ y4)).bind fun y5 => ((some ((L out).drop (k : Int).toNat)).bind fun y6 => (if y5.length + y6.length < 5864062014805 then spec_l7Sorted.l0 n (L q) (y5 ++ y6) ((i + 1 : Nat) : Int) else none))) else none))) else none)) else none) else none)) else none) else none)) r := by
    intro k hk1 hkp
    have h2 : (([q[i].1, q[i].2] : List Int).length : Int) = 2 := rfl
    refine ev_pos (by rw [h2]; decide) (ev_pos (by rw [h2]; decide) ?_)
    simp only [Option.bind_some]
    refine ev_pos (by omega) (ev_pos (by rw [lenL]; omega) ?_)
    refine ev_pos (by simp [L]; omega) (ev_pos (by simp [L]; omega) (ev_pos (by simp [L]; omega) ?_))
    have e : ([] ++ (L out).take (k : Int).toNat ++ [[rd [q[i].1, q[i].2] 0, rd [q[i].1, q[i].2] 1]]) ++ (L out).drop (k : Int).toNat = L (ins q[i] out) := by
      rw [Int.toNat_natCast, List.nil_append, L_take, L_drop, hkp]
      unfold ins
      rw [← L_append, ← L_append]; rfl
    rw [e]
    exact hk
  intro k
  induction k with
  | zero =>
    intro _ hp
    refine ev_step ?_
    simp only [spec_l7Sorted.l1]
    refine ev_neg (by omega) (ev_pos (by omega) (ev_pos (by rw [lenL]; omega) ?_))
    rw [rdl_L hi, w64_succ (by omega)]
    exact put 0 (by omega) (by rw [← hp]; rfl)
  | succ k ih =>
    intro hkl hp
    refine ev_step ?_
    simp only [spec_l7Sorted.l1]
    have ek : wrap64 (((k + 1 : Nat) : Int) - 1) = (k : Int) := by rw [w64 (by omega)]; omega
    rw [ek]
    refine ev_pos (by omega) (ev_pos (by omega) (ev_pos (by rw [lenL]; omega) (ev_pos (by omega) (ev_pos (by rw [lenL]; omega) ?_))))
    rw [rdl_L hi, rdl_L (show k < out.length by omega), spec_before_eq (hq _ (List.getElem_mem _)) (ho _ (List.getElem_mem _))]
    simp only [Option.bind_some]
    have eg : out.getD k (0, 0) = out[k]'(by omega) := by simp [show k < out.length by omega]
    rw [pos_succ, eg] at hp
    by_cases c : before q[i] (out[k]'(by omega)) = true
    · rw [if_pos c] at hp
      exact ev_pos c (ih (by omega) hp)
    · rw [if_neg c] at hp
      refine ev_neg c ?_
      rw [w64_succ (by omega)]
      exact put (k + 1) hkl hp
theorem spec_sorted_ev {q : List V} (hq : ∀ v ∈ q, b9 v) (hl : q.length ≤ 1048576) : Ev (fun k => spec_l7Sorted.f k (L q)) (L (srt q)) := by
  unfold spec_l7Sorted.f
  have key := ev_count (fun k i => spec_l7Sorted.l0 k (L q) (L (srt (q.take i))) (i : Int)) (fun _ => L (srt q)) q.length ?_ ?_ 0 (by omega)
  · exact key
  · refine ev_step ?_
    simp only [spec_l7Sorted.l0]
    refine ev_neg (by rw [lenL]; omega) ?_
    rw [List.take_length]
    exact ev_some _
  · intro i hi ih
    refine ev_step ?_
    simp only [spec_l7Sorted.l0]
    refine ev_pos (by rw [lenL]; omega) ?_
    rw [lenL]
    rw [srt_take hi] at ih
    refine sorted_inner hq hl hi (srt (q.take i)) (fun v hv => hq v (List.mem_of_mem_take (srt_mem.1 hv))) (by rw [srt_length]; simp; omega) _ ih _ (Nat.le_refl _) rfl

theorem l92Path_end (b : List Int) (hb : b.length ≤ 2000) (hx : ∀ x ∈ b, 0 ≤ x ∧ x ≤ 255) (q : List V) (hq : ∀ v ∈ q, b9 v) (hl : 1 ≤ q.length ∧ q.length ≤ 20) (p : Int) (hp : 0 ≤ p ∧ p ≤ 1000) :
    ∃ (t : List V) (c : Int), Ev (fun k => spec_l92Path.j3 k (L q) b p) (L t, c) ∧ t.length ≤ q.length + 1 ∧ (∀ v ∈ t, b9 v) ∧ 0 ≤ c ∧ c ≤ p + 1 := by
  obtain ⟨r, hr, _⟩ := pick_ev b p 40 (by omega) hb hx (by omega)
  by_cases c0 : r = 0
  · refine ⟨q ++ [(1, 0)], p + 1, ev_step ?_, by simp, ?_, by omega, by omega⟩
    · simp only [spec_l92Path.j3]
      refine Ev.bind hr (ev_pos c0 (ev_pos (by rw [L_length]; omega) ?_))
      have : L q ++ [[1, 0]] = L (q ++ [(1, 0)]) := by rw [← L_append]; rfl
      rw [this]
      exact ev_some _
    · intro v hv
      rcases List.mem_append.1 hv with hv | hv
      · exact hq v hv
      · obtain rfl := List.mem_singleton.1 hv
        unfold b9; decide
  · by_cases c1 : r = 1
    · refine ⟨q.drop 1, p + 1, ev_step ?_, by simp; omega, fun v hv => hq v (List.mem_of_mem_drop hv), by omega, by omega⟩
      simp only [spec_l92Path.j3]
      refine Ev.bind hr (ev_neg c0 (ev_pos c1 (ev_pos (by rw [lenL]; omega) ?_)))
      have : (L q).drop (1 : Int).toNat = L (q.drop 1) := L_drop q 1
      rw [this]
      exact ev_some _
    · refine ⟨q, p + 1, ev_step ?_, by omega, hq, by omega, by omega⟩
      simp only [spec_l92Path.j3]
      exact Ev.bind hr (ev_neg c0 (ev_neg c1 (ev_some _)))
theorem l92Path_shut (b : List Int) (hb : b.length ≤ 2000) (hx : ∀ x ∈ b, 0 ≤ x ∧ x ≤ 255) (q : List V) (hq : ∀ v ∈ q, b9 v) (hl : q.length ≤ 15) (x y : Int) (hxy : (-9 ≤ x ∧ x ≤ 9) ∧ -9 ≤ y ∧ y ≤ 9) (p : Int) (hp : 0 ≤ p ∧ p ≤ 900) :
    ∃ (t : List V) (c : Int), Ev (fun k => spec_l92Path.j2 k (L q) x y b p) (L t, c) ∧ t.length ≤ q.length + 2 ∧ (∀ v ∈ t, b9 v) ∧ 0 ≤ c ∧ c ≤ p + 2 := by
  obtain ⟨r, hr, _⟩ := pick_ev b p 2 (by omega) hb hx (by omega)
  have hq2 : ∀ v ∈ q ++ [(-x, -y)], b9 v := by
    intro v hv
    rcases List.mem_append.1 hv with hv | hv
    · exact hq v hv
    · obtain rfl := List.mem_singleton.1 hv
      unfold b9; dsimp only; omega
  have e : L q ++ [[-x, -y]] = L (q ++ [(-x, -y)]) := by rw [← L_append]; rfl
  by_cases c0 : r = 0
  · obtain ⟨t, c, ht, h1, h2, h3, h4⟩ := l92Path_end b hb hx (srt (q ++ [(-x, -y)])) (fun v hv => hq2 v (srt_mem.1 hv)) (by rw [srt_length]; simp; omega) (p + 1) (by omega)
    rw [srt_length, List.length_append, List.length_singleton] at h1
    refine ⟨t, c, ev_step ?_, by omega, h2, h3, by omega⟩
    simp only [spec_l92Path.j2]
    rw [w64 (by omega), w64 (by omega), e]
    refine ev_pos (by rw [L_length]; omega) ?_
    simp only [Option.bind_some]
    exact Ev.bind hr (ev_pos c0 (Ev.bind (spec_sorted_ev hq2 (by simp; omega)) ht))
  · obtain ⟨t, c, ht, h1, h2, h3, h4⟩ := l92Path_end b hb hx (q ++ [(-x, -y)]) hq2 (by simp; omega) (p + 1) (by omega)
    rw [List.length_append, List.length_singleton] at h1
    refine ⟨t, c, ev_step ?_, by omega, h2, h3, by omega⟩
    simp only [spec_l92Path.j2]
    rw [w64 (by omega), w64 (by omega), e]
    refine ev_pos (by rw [L_length]; omega) ?_
    simp only [Option.bind_some]
    exact Ev.bind hr (ev_neg c0 ht)
theorem l92Path_choose (b : List Int) (hb : b.length ≤ 2000) (hx : ∀ x ∈ b, 0 ≤ x ∧ x ≤ 255) (q : List V) (hq : ∀ v ∈ q, b9 v) (hl : q.length ≤ 15) (x y : Int) (f : Bool) (hf : f = false → (-9 ≤ x ∧ x ≤ 9) ∧ -9 ≤ y ∧ y ≤ 9) (p : Int) (hp : 0 ≤ p ∧ p ≤ 900) :
    ∃ (t : List V) (c : Int), Ev (fun k => spec_l92Path.j1 k (L q) x y f b p) (L t, c) ∧ t.length ≤ max q.length 2 + 2 ∧ (∀ v ∈ t, b9 v) ∧ 0 ≤ c ∧ c ≤ p + 2 := by
  cases f with
  | true =>
    obtain ⟨t, c, ht, h1, h2⟩ := l92Path_shut b hb hx [(2, 1), (-1, 2)] (by intro v hv; rcases List.mem_cons.1 hv with rfl | hv; · unfold b9; decide
                                                                            · obtain rfl := List.mem_singleton.1 hv
                                                                              unfold b9; decide) (by decide) 1 3 (by omega) p hp
    refine ⟨t, c, ev_step ?_, by simp only [List.length_cons, List.length_nil] at h1; omega, h2⟩
    simp only [spec_l92Path.j1]
    exact ev_pos (by trivial) ht
  | false =>
    obtain ⟨t, c, ht, h1, h2⟩ := l92Path_shut b hb hx q hq hl x y (hf rfl) p hp
    refine ⟨t, c, ev_step ?_, by omega, h2⟩
    simp only [spec_l92Path.j1]
    exact ev_neg (by simp) ht
theorem l92Path_loop (b : List Int) (hb : b.length ≤ 2000) (hx : ∀ x ∈ b, 0 ≤ x ∧ x ≤ 255) (n : Nat) (hn : n ≤ 15) (d : Nat) : ∀ (i : Nat) (q : List V) (x y p : Int), i + d = n → q.length = i → (∀ v ∈ q, b9 v) → (-(3 * (i : Int)) ≤ x ∧ x ≤ 3 * i) → (-(3 * (i : Int)) ≤ y ∧ y ≤ 3 * i) → 0 ≤ p ∧ p ≤ 100 + 2 * i →
    ∃ (t : List V) (c : Int), Ev (fun k => spec_l92Path.l0 k (n : Int) (L q) x y (i : Int) b p) (L t, c) ∧ t.length ≤ max n 2 + 2 ∧ (∀ v ∈ t, b9 v) ∧ 0 ≤ c ∧ c ≤ 200 := by
  induction d with
  | zero =>
    intro i q x y p hi hl hq hxx hyy hp
    have ex : wrap64 (-x) = -x := w64 (by omega)
    have ey : wrap64 (-y) = -y := w64 (by omega)
    have run : ∀ f : Bool, (f = false → (-9 ≤ x ∧ x ≤ 9) ∧ -9 ≤ y ∧ y ≤ 9) → Ev (fun k => spec_l92Path.l0 (k + 1) (n : Int) (L q) x y (i : Int) b p) = Ev (fun k => spec_l92Path.j1 k (L q) x y f b p) →
        ∃ (t : List V) (c : Int), Ev (fun k => spec_l92Path.l0 k (n : Int) (L q) x y (i : Int) b p) (L t, c) ∧ t.length ≤ max n 2 + 2 ∧ (∀ v ∈ t, b9 v) ∧ 0 ≤ c ∧ c ≤ 200 := by
      intro f hf he
      obtain ⟨t, c, ht, h1, h2, h3, h4⟩ := l92Path_choose b hb hx q hq (by omega) x y f hf p (by omega)
      exact ⟨t, c, ev_step (by rw [he]; exact ht), by omega, h2, h3, by omega⟩
    by_cases c1 : mx x (-x) > 9
    · refine run true (by simp) ?_
      simp only [spec_l92Path.l0, ex, ey]
      simp only [if_neg (show ¬ ((i : Int) < (n : Int)) by omega), if_pos c1]
    · by_cases c2 : mx y (-y) > 9
      · refine run true (by simp) ?_
        simp only [spec_l92Path.l0, ex, ey]
        simp only [if_neg (show ¬ ((i : Int) < (n : Int)) by omega), if_neg c1, if_pos c2]
      · rw [mx_eq] at c1 c2
        by_cases c3 : x = 0
        · refine run (y == 0) (fun _ => by omega) ?_
          simp only [spec_l92Path.l0, ex, ey, mx_eq]
          simp only [if_neg (show ¬ ((i : Int) < (n : Int)) by omega), if_neg c1, if_neg c2, if_pos c3]
        · refine run false (fun _ => by omega) ?_
          simp only [spec_l92Path.l0, ex, ey, mx_eq]
          simp only [if_neg (show ¬ ((i : Int) < (n : Int)) by omega), if_neg c1, if_neg c2, if_neg c3]
  | succ d ih =>
    intro i q x y p hi hl hq hxx hyy hp
    obtain ⟨v, hv, v1, v2⟩ := l92Step_ev b hb hx p 3 (by omega) (by omega)
    obtain ⟨t, c, ht, h1⟩ := ih (i + 1) (q ++ [v]) (x + v.1) (y + v.2) (p + 1 + 1) (by omega) (by simp; omega) (by
      intro u hu
      rcases List.mem_append.1 hu with hu | hu
      · exact hq u hu
      · obtain rfl := List.mem_singleton.1 hu
        unfold b9; omega) (by omega) (by omega) (by omega)
    refine ⟨t, c, ev_step ?_, h1⟩
    simp only [spec_l92Path.l0]
    refine ev_pos (by omega) (Ev.bind hv (ev_pos (by rw [L_length]; omega) (ev_pos (by rw [len_ofV]; decide) (ev_pos (by rw [len_ofV]; decide) ?_))))
    have e : L q ++ [ofV v] = L (q ++ [v]) := by rw [← L_append]; rfl
    rw [rd0, rd1, w64 (by omega), w64 (by omega), w64_succ (by omega), e]
    exact ht
theorem l92Path_ev (b : List Int) (hb : b.length ≤ 2000) (hx : ∀ x ∈ b, 0 ≤ x ∧ x ≤ 255) (p m : Int) (hp : 0 ≤ p ∧ p ≤ 50) (hm : 3 ≤ m ∧ m ≤ 9) :
    ∃ (t : List V) (c : Int), Ev (fun k => spec_l92Path.f k b p m) (L t, c) ∧ (t.length : Int) ≤ m + 2 ∧ (∀ v ∈ t, b9 v) ∧ 0 ≤ c ∧ c ≤ 200 := by
  obtain ⟨r, hr, h0, h1, _⟩ := pick_ev b p (m - 2) (by omega) hb hx (by omega)
  have h1 := h1 (by omega)
  obtain ⟨n, hn⟩ := Int.eq_ofNat_of_zero_le (show 0 ≤ 2 + r by omega)
  obtain ⟨t, c, ht, h2, h3⟩ := l92Path_loop b hb hx n (by omega) n 0 [] 0 0 (p + 1) (by omega) rfl (fun v hv => by cases hv) (by omega) (by omega) (by omega)
  refine ⟨t, c, ?_, by omega, h3⟩
  unfold spec_l92Path.f
  rw [w64 (x := m - 2) (by omega)]
  refine Ev.bind hr ?_
  simp only []
  rw [w64 (by omega), hn]
  exact ht
theorem l92One_of (l : List Int) (h : ∀ x ∈ l, (Lit.int .u8 x).wf = true) : ∃ (b : List Int) (t : List V) (c : Int), spec_l6Open.f l = some (b, 0) ∧ Ev (fun k => spec_l92Path.f k b 0 7) (L t, c) ∧ t.length ≤ 9 ∧ (∀ v ∈ t, b9 v) := by
  obtain ⟨b, hb, hbl, hbm⟩ := open_eq l
  obtain ⟨t, c, ht, h1, h2, _⟩ := l92Path_ev b hbl (fun x hx => u8_range h x (hbm x hx)) 0 7 (by omega) (by omega)
  exact ⟨b, t, c, hb, ht, by omega, h2⟩

theorem FnMost : laws_FnMost.Pure := by
  intro l _ _ hw
  refine Ev.rounds ?_
  unfold laws_FnMost.f
  by_cases h : (l.length : Int) > 1048576
  · exact ev_pos h (ev_some _)
  · refine ev_neg h ?_
    obtain ⟨b, hb, hbl, hbm⟩ := open_eq l
    have hx : ∀ x ∈ b, 0 ≤ x ∧ x ≤ 255 := fun x hx => u8_range hw x (hbm x hx)
    obtain ⟨r1, p1, r0, rlt, _⟩ := pick_ev b 0 12 (by omega) hbl hx (by omega)
    have rlt := rlt (by omega)
    have hd : 0 ≤ Int.tdiv r1 11 ∧ Int.tdiv r1 11 ≤ 1 := by rw [Int.tdiv_eq_ediv_of_nonneg r0]; omega
    have hm : wrap64 (5 + wrap64 (wrap64 (Int.tdiv r1 11) * 2)) = 5 + Int.tdiv r1 11 * 2 := by
      rw [w64 (x := Int.tdiv r1 11) (by omega), w64 (x := Int.tdiv r1 11 * 2) (by omega), w64 (by omega)]
    obtain ⟨t, c, ht, hl, _, _⟩ := l92Path_ev b hbl hx (0 + 1) (5 + Int.tdiv r1 11 * 2) (by omega) (by omega)
    refine Ev.bind (a := L t) (by unfold spec_DrawOrderMost.f; exact Ev.bind (ev_of_eq hb) (Ev.bind p1 (by dsimp only; rw [hm]; exact Ev.bind ht (ev_some _)))) ?_
    have hL : (L t).length ≤ 1048576 := by rw [L_length]; omega
    obtain ⟨R, hR⟩ := most_known (L t)
    refine Ev.bind (impl_OrderMost_ev hL hR) (Ev.bind (spec_OrderMost_ev hL hR) (ev_neg (by simp) (ev_pos rfl (ev_step ?_))))
    simp only [laws_FnMost.j0]
    by_cases c6 : pathB (L t) = true ∧ (L t).length ≤ 6
    · obtain ⟨q, hq, hP⟩ := path_of c6.1
      have h6 : q.length ≤ 6 := by have := c6.2; rw [hq, L_length] at this; exact this
      have e := hR.1 q hq hP h6
      rw [e, hq]
      have hS : Path (srt q) := path_perm hP (srt_perm q)
      refine ev_neg (by simp) (Ev.bind (impl_OrderSorted_ev hP) (Ev.bind (impl_PathArea_ev hS) (ev_pos rfl (ev_pos rfl (ev_of_eq ?_)))))
      rw [A_srt hP]
      simp
    · rw [hR.2 c6]
      exact ev_pos (by trivial) (ev_pos (by trivial) (by simpa using ev_some _))

end Go.Proofs.Ytbcfgglcabeckaa.Pure
