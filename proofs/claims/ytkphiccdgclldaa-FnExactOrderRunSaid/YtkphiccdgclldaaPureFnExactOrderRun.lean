/- An exact promise of the given program: a path with a run in opposite order is what the plain law tells, in rows of its own, for every slice of slices of numbers and all places. -/
import Derived.Test.YtkphiccdgclldaaPFnExactOrderRunx5
import Derived.Test.YtkphiccdgclldaaBase
import Derived.Test.YtkphiccdgclldaaPth
import Derived.Test.YtkphiccdgclldaaSrt
import Derived.Test.YtkphiccdgclldaaCvx
import Derived.Test.YtkphiccdgclldaaHRaw
import Derived.Test.YtkphiccdgclldaaTurn
import Derived.Test.YtkphiccdgclldaaRowsIn
namespace Go.Proofs.Ytkphiccdgclldaa.Pure
open Go.RowKit Go.Proofs.Ytkphiccdgclldaa.PFnExactOrderRun Go.Proofs.YtkphiccdgclldaaW.PrintWords Go.Proofs.YtkphiccdgclldaaW.PrintLast Go.Proofs.YtkphiccdgclldaaW.PrintMore Go.Proofs.Ytkphiccdgclldaa.Base Go.Proofs.Ytkphiccdgclldaa.Pth Go.Proofs.Ytkphiccdgclldaa.Srt Go.Proofs.Ytkphiccdgclldaa.Cvx Go.Proofs.Ytkphiccdgclldaa.HRaw Go.Proofs.Ytkphiccdgclldaa.Turn Go.Proofs.Ytkphiccdgclldaa.RowsIn
set_option linter.unusedVariables false
set_option linter.unusedSimpArgs false
theorem rdl_get {p : List (List Int)} {i : Nat} (h : i < p.length) : rd_L1 p (i : Int) = p[i] := by unfold rd_L1; rw [Int.toNat_natCast]; simp [h]
theorem rdl_L {q : List V} {i : Nat} (h : i < q.length) : rd_L1 (L q) (i : Int) = ofV q[i] := by
  rw [rdl_get (by rw [L_length]; exact h)]; simp [L]
theorem rd0 (v : V) : rd (ofV v) 0 = v.1 := rfl
theorem rd1 (v : V) : rd (ofV v) 1 = v.2 := rfl
theorem len_ofV (v : V) : ((ofV v).length : Int) = 2 := rfl
theorem lenL (q : List V) : ((L q).length : Int) = (q.length : Int) := by rw [L_length]

theorem L_take (q : List V) (n : Nat) : (L q).take n = L (q.take n) := by simp [L]
theorem L_drop (q : List V) (n : Nat) : (L q).drop n = L (q.drop n) := by simp [L]
theorem L_append (a b : List V) : L a ++ L b = L (a ++ b) := by simp [L]
theorem L_snoc (q : List V) (v : V) : L q ++ [ofV v] = L (q ++ [v]) := by simp [L]

theorem clone_int_eq (l : List Int) (h : l.length ≤ 1048576) : slices_Clone_int_int_86.f l = some l := by
  unfold slices_Clone_int_int_86.f
  simp only [Option.bind_some]
  rw [if_pos (by simp; omega)]; rfl
theorem copySteps_ev (q : List V) (hl : q.length ≤ 1048576) : Ev (fun k => impl_copySteps.f k (L q)) (L q) := by
  unfold impl_copySteps.f
  have key := ev_count (fun k i => impl_copySteps.l0 k (L (q.take i)) (L q) ((L q).length : Int) (i : Int)) (fun _ => L q) q.length ?_ ?_ 0 (by omega)
  · exact key
  · refine ev_step ?_
    simp only [impl_copySteps.l0]
    refine ev_neg (by rw [lenL]; omega) ?_
    rw [List.take_length]
    exact ev_some _
  · intro i hi ih
    refine ev_step ?_
    simp only [impl_copySteps.l0]
    rw [rdl_L hi, clone_int_eq (ofV q[i]) (show 2 ≤ 1048576 from by decide), w64_succ (by omega)]
    simp only [Option.bind_some]
    have e : L (q.take i) ++ [ofV q[i]] = L (q.take (i + 1)) := by rw [List.take_succ_eq_append_getElem hi, ← L_snoc]
    rw [e]
    exact ev_pos (by rw [lenL]; omega) (ev_pos (by omega) (ev_pos (by rw [lenL]; omega) (ev_pos (by simp [L]; omega) ih)))

theorem impl_isStep_eq (s : List Int) : impl_isStep.f s = some (stepB s) := by
  match s with
  | [] => rfl
  | [_] => rfl
  | [x, y] =>
    unfold impl_isStep.f
    have h0 : rd [x, y] 0 = x := rfl
    have h1 : rd [x, y] 1 = y := rfl
    have hl : ([x, y].length : Int) = 2 := rfl
    rw [h0, h1, hl, if_pos rfl, if_pos (by decide)]
    rw [stepB_two]
    by_cases a : x ≥ -9
    · rw [if_pos a]
      by_cases b : x ≤ 9
      · rw [if_pos b, if_pos (by decide)]
        by_cases c : y ≥ -9
        · rw [if_pos c]
          by_cases d : y ≤ 9
          · rw [if_pos d]
            by_cases e : x = 0
            · rw [if_pos e]
              by_cases f : y = 0
              · subst e f; rfl
              · have : (y != 0) = true := by simpa using f
                rw [this, decide_eq_true (by omega)]
            · rw [if_neg e, decide_eq_true (by omega)]
          · rw [if_neg d, decide_eq_false (by omega)]
        · rw [if_neg c, decide_eq_false (by omega)]
      · rw [if_neg b, decide_eq_false (by omega)]
    · rw [if_neg a, decide_eq_false (by omega)]
  | a :: b :: c :: t =>
    unfold impl_isStep.f
    rw [if_neg (by simp; omega)]; rfl

theorem gx_take {p : List (List Int)} {i : Nat} (h : i < p.length) : gx (p.take (i + 1)) = gx (p.take i) + p[i].getD 0 0 := by
  unfold gx; rw [List.take_succ_eq_append_getElem h, List.map_append, List.sum_append]
  simp only [List.map_cons, List.map_nil, List.sum_cons, List.sum_nil, Int.add_zero]
theorem gy_take {p : List (List Int)} {i : Nat} (h : i < p.length) : gy (p.take (i + 1)) = gy (p.take i) + p[i].getD 1 0 := by
  unfold gy; rw [List.take_succ_eq_append_getElem h, List.map_append, List.sum_append]
  simp only [List.map_cons, List.map_nil, List.sum_cons, List.sum_nil, Int.add_zero]
theorem g_bound {p : List (List Int)} (h : p.all stepB = true) : (-(9 * (p.length : Int)) ≤ gx p ∧ gx p ≤ 9 * p.length) ∧ -(9 * (p.length : Int)) ≤ gy p ∧ gy p ≤ 9 * p.length := by
  obtain ⟨q, rfl, hq⟩ := all_steps p h
  rw [gx_L, gy_L, L_length]
  exact ⟨sx_bound hq, sy_bound hq⟩
theorem all_take {p : List (List Int)} {i : Nat} (h : i < p.length) (ha : (p.take i).all stepB = true) (hs : stepB p[i] = true) : (p.take (i + 1)).all stepB = true := by
  rw [List.take_succ_eq_append_getElem h, List.all_append, ha]; simp [hs]
theorem impl_PathIn_loop (p : List (List Int)) (h : p.length ≤ 1048576) : Ev (fun k => impl_PathIn.l0 k 0 0 p (p.length : Int) 0) (p.all stepB && decide (gx p = 0) && decide (gy p = 0)) := by
  have key := down (fun i => (p.take i).all stepB = true → Ev (fun k => impl_PathIn.l0 k (gx (p.take i)) (gy (p.take i)) p (p.length : Int) (i : Int)) ((p.drop i).all stepB && decide (gx p = 0) && decide (gy p = 0))) p.length ?_ ?_ 0 (by omega)
  · exact key rfl
  · intro _
    refine ev_step ?_
    simp only [impl_PathIn.l0]
    refine ev_neg (by omega) ?_
    rw [List.take_length, List.drop_length]
    by_cases c : gx p = 0
    · refine ev_pos c ?_
      rw [c]
      have : (gy p == 0) = decide (gy p = 0) := rfl
      rw [this]
      simpa using ev_some _
    · refine ev_neg c ?_
      rw [decide_eq_false c]
      simpa using ev_some _
  · intro i hi ih ha
    refine ev_step ?_
    simp only [impl_PathIn.l0]
    refine ev_pos (by omega) (ev_pos (by omega) (ev_pos (by omega) ?_))
    rw [rdl_get hi, impl_isStep_eq, drop_cons hi, List.all_cons]
    simp only [Option.bind_some]
    by_cases hs : stepB p[i] = true
    · refine ev_pos hs ?_
      have ha' := all_take hi ha hs
      have ih' := ih ha'
      have hb := g_bound ha'
      rw [gx_take hi, gy_take hi] at ih' hb
      obtain ⟨v, hv, hsv⟩ := stepB_of _ hs
      rw [hv] at ih' hb ⊢
      refine ev_pos (by rw [len_ofV]; decide) (ev_pos (by rw [len_ofV]; decide) ?_)
      have hlen : ((p.take (i + 1)).length : Int) ≤ 1048576 := by simp; omega
      rw [w64_succ (by omega), rd0, rd1]
      have e0 : (ofV v).getD 0 0 = v.1 := rfl
      have e1 : (ofV v).getD 1 0 = v.2 := rfl
      rw [e0, e1] at ih' hb
      rw [w64 (by omega), w64 (by omega), (stepB_ofV v).2 hsv, Bool.true_and]
      exact ih'
    · refine ev_neg hs ?_
      rw [Bool.eq_false_iff.2 hs]
      simpa using ev_some _
theorem impl_PathIn_ev (p : List (List Int)) (h : p.length ≤ 1048576) : Ev (fun k => impl_PathIn.f k p) (pathB p) := by
  unfold impl_PathIn.f pathB
  by_cases c : (p.length : Int) < 3
  · refine ev_pos c (ev_step ?_)
    simp only [impl_PathIn.j0]
    refine ev_pos (by trivial) ?_
    rw [decide_eq_false (by omega)]
    simpa using ev_some _
  · refine ev_neg c (ev_step ?_)
    simp only [impl_PathIn.j0]
    by_cases d : (p.length : Int) > 8
    · refine ev_pos (by simpa using d) ?_
      rw [decide_eq_false (p := p.length ≤ 8) (by omega)]
      simpa using ev_some _
    · refine ev_neg (by simpa using d) ?_
      rw [decide_eq_true (by omega), decide_eq_true (by omega)]
      simpa using impl_PathIn_loop p h

theorem impl_run_eq {q : List V} {i j : Nat} (h1 : i ≤ j) (h2 : j < q.length) (h3 : q.length ≤ 1048576) : impl_run.f (L q) (i : Int) (j : Int) = some (L (turned q i j)) := by
  unfold impl_run.f
  rw [if_pos (by omega), if_pos (by omega), lenL, if_pos (by omega), L_length, if_pos (by omega), Int.toNat_natCast, Int.toNat_natCast, L_turned]
theorem impl_OrderRun_ev {q : List V} (h : Path q) {i j : Nat} (h1 : i ≤ j) (h2 : j < q.length) : Ev (fun n => impl_OrderRun.f n (L q) (i : Int) (j : Int)) (L (turned q i j), true) := by
  unfold impl_OrderRun.f
  have hq := h.hi
  refine Ev.bind (impl_PathIn_ev _ (by rw [L_length]; omega)) ?_
  rw [pathB_L h]
  refine ev_pos rfl (ev_neg (by omega) (ev_neg (by omega) (ev_step ?_)))
  simp only [impl_OrderRun.j0]
  refine ev_neg (by rw [lenL]; simp; omega) ?_
  rw [impl_run_eq h1 h2 (by omega)]
  simp only [Option.bind_some]
  exact Ev.bind (copySteps_ev _ (by rw [turned_length h1 h2]; omega)) (ev_some _)
theorem impl_OrderRun_no {p : List (List Int)} (hl : p.length ≤ 1048576) (a b : Int) (h : pathB p = false ∨ a < 0 ∨ a > b ∨ b ≥ p.length) : Ev (fun n => impl_OrderRun.f n p a b) ([], false) := by
  unfold impl_OrderRun.f
  refine Ev.bind (impl_PathIn_ev p hl) ?_
  have stop : Ev (fun n => impl_OrderRun.j0 n p a b true) ([], false) := by
    refine ev_step ?_
    simp only [impl_OrderRun.j0]
    exact ev_pos (by trivial) (ev_some _)
  by_cases c : pathB p = true
  · refine ev_pos c ?_
    by_cases d : a < 0
    · exact ev_pos d stop
    · refine ev_neg d ?_
      by_cases e : a > b
      · exact ev_pos e stop
      · refine ev_neg e ?_
        rw [decide_eq_true (by
          rcases h with h | h | h | h
          · rw [c] at h; cases h
          · exact absurd h d
          · exact absurd h e
          · exact h)]
        exact stop
  · exact ev_neg c stop

theorem spec_l6In_eq' (a b c : Int) : spec_l6In.f a b c = some (decide (b ≤ a ∧ a ≤ c)) := by
  unfold spec_l6In.f
  by_cases h : a ≥ b
  · rw [if_pos h]; simp; intro _; exact h
  · rw [if_neg h]; simp; omega
theorem spec_l6sStep_eq (s : List Int) : spec_l6sStep.f s = some (stepB s) := by
  match s with
  | [] => rfl
  | [_] => rfl
  | [x, y] =>
    unfold spec_l6sStep.f
    have h0 : rd [x, y] 0 = x := rfl
    have h1 : rd [x, y] 1 = y := rfl
    have hl : ([x, y].length : Int) = 2 := rfl
    rw [h0, h1, hl, if_pos rfl, if_pos (by decide), spec_l6In_eq', spec_l6In_eq']
    simp only [Option.bind_some]
    rw [stepB_two]
    by_cases b : -9 ≤ x ∧ x ≤ 9
    · rw [if_pos (by simpa using b), if_pos (by decide)]
      by_cases d : -9 ≤ y ∧ y ≤ 9
      · rw [if_pos (by simpa using d)]
        by_cases e : x = 0
        · rw [if_pos e]
          by_cases f : y = 0
          · subst e f; rfl
          · have : (y != 0) = true := by simpa using f
            rw [this, decide_eq_true (by omega)]
        · rw [if_neg e, decide_eq_true (by omega)]
      · rw [if_neg (by simpa using d), decide_eq_false (by omega)]
    · rw [if_neg (by simpa using b), decide_eq_false (by omega)]
  | a :: b :: c :: t =>
    unfold spec_l6sStep.f
    rw [if_neg (by simp; omega)]; rfl

theorem spec_l6sSum_ev (p : List (List Int)) (h : p.length ≤ 1048576) (ha : p.all stepB = true) : Ev (fun k => spec_l6sSum.f k p) (gx p, gy p) := by
  unfold spec_l6sSum.f
  have key := ev_count (fun k i => spec_l6sSum.l0 k p (gx (p.take i)) (gy (p.take i)) (i : Int)) (fun _ => (gx p, gy p)) p.length ?_ ?_ 0 (by omega)
  · exact key
  · refine ev_step ?_
    simp only [spec_l6sSum.l0]
    refine ev_neg (by omega) ?_
    rw [List.take_length]
    exact ev_some _
  · intro i hi ih
    refine ev_step ?_
    simp only [spec_l6sSum.l0]
    refine ev_pos (by omega) (ev_pos (by omega) ?_)
    rw [rdl_get hi]
    have hs : stepB p[i] = true := List.all_eq_true.1 ha _ (List.getElem_mem _)
    have ha' : (p.take (i + 1)).all stepB = true := List.all_eq_true.2 (fun s hs => List.all_eq_true.1 ha s (List.mem_of_mem_take hs))
    have hb := g_bound ha'
    rw [gx_take hi, gy_take hi] at ih hb
    obtain ⟨v, hv, hsv⟩ := stepB_of _ hs
    rw [hv] at ih hb ⊢
    refine ev_pos (by rw [len_ofV]; decide) (ev_pos (by rw [len_ofV]; decide) ?_)
    have hlen : ((p.take (i + 1)).length : Int) ≤ 1048576 := by simp; omega
    rw [w64_succ (by omega), rd0, rd1]
    have e0 : (ofV v).getD 0 0 = v.1 := rfl
    have e1 : (ofV v).getD 1 0 = v.2 := rfl
    rw [e0, e1] at ih hb
    rw [w64 (by omega), w64 (by omega)]
    exact ih
theorem spec_PathIn_ev (p : List (List Int)) (h : p.length ≤ 1048576) : Ev (fun k => spec_PathIn.f k p) (pathB p) := by
  unfold spec_PathIn.f
  have key := down (fun i => (p.take i).all stepB = true → Ev (fun k => spec_PathIn.l0 k p (i : Int)) (decide (3 ≤ p.length) && decide (p.length ≤ 8) && (p.drop i).all stepB && decide (gx p = 0) && decide (gy p = 0))) p.length ?_ ?_ 0 (by omega)
  · exact key rfl
  · intro ha
    rw [List.take_length] at ha
    refine ev_step ?_
    simp only [spec_PathIn.l0]
    refine ev_neg (by omega) (Ev.bind (spec_l6sSum_ev p h ha) ?_)
    rw [spec_l6In_eq', List.drop_length]
    simp only [Option.bind_some]
    by_cases c : (3 : Int) ≤ p.length ∧ (p.length : Int) ≤ 8
    · refine ev_pos (by simpa using c) ?_
      rw [decide_eq_true (by omega), decide_eq_true (by omega)]
      by_cases c : gx p = 0
      · refine ev_pos c ?_
        rw [c]
        have : (gy p == 0) = decide (gy p = 0) := rfl
        rw [this]
        simpa using ev_some _
      · refine ev_neg c ?_
        rw [decide_eq_false c]
        simpa using ev_some _
    · refine ev_neg (by simpa using c) ?_
      have : (decide (3 ≤ p.length) && decide (p.length ≤ 8)) = false := by
        rw [Bool.and_eq_false_iff]; simp; omega
      rw [this]
      simpa using ev_some _
  · intro i hi ih ha
    refine ev_step ?_
    simp only [spec_PathIn.l0]
    refine ev_pos (by omega) (ev_pos (by omega) ?_)
    rw [rdl_get hi, spec_l6sStep_eq, drop_cons hi, List.all_cons]
    simp only [Option.bind_some]
    by_cases hs : stepB p[i] = true
    · refine ev_pos hs ?_
      rw [w64_succ (by omega), hs, Bool.true_and]
      exact ih (all_take hi ha hs)
    · refine ev_neg hs ?_
      rw [Bool.eq_false_iff.2 hs]
      simpa using ev_some _

theorem back_step {q : List V} {j : Nat} (h : j < q.length) : L (((q.drop (j + 1)).map neg).reverse) ++ [[-q[j].1, -q[j].2]] = L (((q.drop j).map neg).reverse) := by
  rw [drop_cons h, List.map_cons, List.reverse_cons, ← L_snoc]; rfl

theorem spec_l7Places_ev (p : List (List Int)) (h : p.length ≤ 1048576) (a b : Int) : Ev (fun k => spec_l7Places.f k p a b) (pathB p && decide (0 ≤ a ∧ a ≤ b ∧ b < (p.length : Int))) := by
  unfold spec_l7Places.f
  refine Ev.bind (spec_PathIn_ev p h) ?_
  by_cases c : pathB p = true
  · refine ev_pos c ?_
    rw [spec_l6In_eq', spec_l6In_eq', w64 (by omega), c]
    simp only [Option.bind_some]
    by_cases d : 0 ≤ a ∧ a ≤ (p.length : Int) - 1
    · refine ev_pos (by simpa using d) ?_
      have e : decide (a ≤ b ∧ b ≤ (p.length : Int) - 1) = (true && decide (0 ≤ a ∧ a ≤ b ∧ b < (p.length : Int))) := by
        rw [Bool.true_and, decide_eq_decide]; omega
      rw [e]
      exact ev_some _
    · refine ev_neg (by simpa using d) ?_
      have e : (true && decide (0 ≤ a ∧ a ≤ b ∧ b < (p.length : Int))) = false := by
        rw [Bool.true_and]; exact decide_eq_false (by omega)
      rw [e]
      exact ev_some _
  · refine ev_neg c ?_
    rw [Bool.eq_false_iff.2 c]
    exact ev_some _
theorem turned_take {q : List V} {i j m : Nat} (h1 : i ≤ j) (h2 : j < q.length) (hm : m < q.length) (t : Nat) (ht : t < q.length) (e : t = if i ≤ m ∧ m ≤ j then i + j - m else m) :
    L ((turned q i j).take m) ++ [[q[t].1, q[t].2]] = L ((turned q i j).take (m + 1)) := by
  have hl : m < (turned q i j).length := by rw [turned_length h1 h2]; exact hm
  have hg := turned_get h1 h2 m
  rw [List.getElem?_eq_getElem hl] at hg
  have e2 : (turned q i j)[m] = q[t] := by
    by_cases c : i ≤ m ∧ m ≤ j
    · rw [if_pos c] at hg e
      subst e
      rw [List.getElem?_eq_getElem ht] at hg
      exact Option.some.inj hg
    · rw [if_neg c] at hg e
      subst e
      rw [List.getElem?_eq_getElem ht] at hg
      exact Option.some.inj hg
  rw [List.take_succ_eq_append_getElem hl, ← L_snoc, e2]; rfl
theorem spec_l7Run_ev {q : List V} {i j : Nat} (h1 : i ≤ j) (h2 : j < q.length) (h3 : q.length ≤ 1048576) : Ev (fun k => spec_l7Run.f k (L q) (i : Int) (j : Int)) (L (turned q i j)) := by
  unfold spec_l7Run.f
  have key := ev_count (fun k m => spec_l7Run.l0 k (L q) (i : Int) (j : Int) (L ((turned q i j).take m)) (m : Int)) (fun _ => L (turned q i j)) q.length ?_ ?_ 0 (by omega)
  · exact key
  · refine ev_step ?_
    simp only [spec_l7Run.l0]
    refine ev_neg (by rw [lenL]; omega) ?_
    rw [List.take_of_length_le (by rw [turned_length h1 h2]; omega)]
    exact ev_some _
  · intro m hm ih
    have ew : wrap64 (wrap64 ((i : Int) + (j : Int)) - (m : Int)) = (i : Int) + j - m := by rw [w64 (x := (i : Int) + j) (by omega), w64 (by omega)]
    refine ev_step ?_
    simp only [spec_l7Run.l0]
    rw [ew]
    refine ev_pos (by rw [lenL]; omega) (ev_pos (by omega) ?_)
    by_cases c : i ≤ m ∧ m ≤ j
    · have ht : i + j - m < q.length := by omega
      rw [show (i : Int) + j - m = ((i + j - m : Nat) : Int) from by omega, rdl_L ht, len_ofV, rd0, rd1, w64_succ (by omega), turned_take h1 h2 hm (i + j - m) ht (by rw [if_pos c])]
      exact ev_pos (by omega) (ev_pos (by omega) (ev_pos (by omega) (ev_pos (by rw [lenL]; omega) (ev_pos (by decide) (ev_pos (by decide) (ev_pos (by simp [L]; omega) ih))))))
    · have key2 : Ev (fun k => (if 0 < ((rd_L1 (L q) (m : Int)).length : Int) then (if 1 < ((rd_L1 (L q) (m : Int)).length : Int) then (if (L ((turned q i j).take m)).length < 5864062014805 then (spec_l7Run.l0 k (L q) (i : Int) (j : Int) (L ((turned q i j).take m) ++ [[rd (rd_L1 (L q) (m : Int)) 0, rd (rd_L1 (L q) (m : Int)) 1]]) (wrap64 ((m : Int) + 1))) else none) else none) else none)) (L (turned q i j)) := by
        rw [rdl_L hm, len_ofV, rd0, rd1, w64_succ (by omega), turned_take h1 h2 hm m hm (by rw [if_neg c])]
        exact ev_pos (by decide) (ev_pos (by decide) (ev_pos (by simp [L]; omega) ih))
      by_cases d : i ≤ m
      · exact ev_pos (by omega) (ev_neg (by omega) key2)
      · exact ev_neg (by omega) key2

theorem spec_OrderRun_ev {q : List V} (h : Path q) {i j : Nat} (h1 : i ≤ j) (h2 : j < q.length) : Ev (fun n => spec_OrderRun.f n (L q) (i : Int) (j : Int)) (L (turned q i j), true) := by
  unfold spec_OrderRun.f
  have hq := h.hi
  refine Ev.bind (spec_l7Places_ev _ (by rw [L_length]; omega) _ _) ?_
  rw [pathB_L h, Bool.true_and, lenL, decide_eq_true (by omega)]
  exact ev_pos rfl (Ev.bind (spec_l7Run_ev h1 h2 (by omega)) (ev_some _))
theorem spec_OrderRun_no {p : List (List Int)} (hl : p.length ≤ 1048576) (a b : Int) (h : pathB p = false ∨ a < 0 ∨ a > b ∨ b ≥ p.length) : Ev (fun n => spec_OrderRun.f n p a b) ([], false) := by
  unfold spec_OrderRun.f
  refine Ev.bind (spec_l7Places_ev p hl _ _) ?_
  have e : (pathB p && decide (0 ≤ a ∧ a ≤ b ∧ b < (p.length : Int))) = false := by
    rw [Bool.and_eq_false_iff]
    rcases h with h | h | h | h
    · exact Or.inl h
    · exact Or.inr (decide_eq_false (by omega))
    · exact Or.inr (decide_eq_false (by omega))
    · exact Or.inr (decide_eq_false (by omega))
  rw [e]
  exact ev_neg (by decide) (by first | exact ev_some _ | (simp only [Option.bind_some]; exact ev_some _))

/-- The size's test: where it leaves something, there are no more rows than the bound, and no row is longer. -/
theorem szIntSS_ev (p : List (List Int)) (n : Nat) (hn : n ≤ 1048576) (hp : p.length ≤ 9223372036854775807) (hs : ∀ s ∈ p, s.length ≤ 9223372036854775807) :
    ∃ r : Int, Ev (fun k => laws_szIntSS.f k p (n : Int)) r ∧ (r < 0 ∨ (0 ≤ r ∧ r ≤ n ∧ p.length ≤ n ∧ ∀ s ∈ p, s.length ≤ n)) := by
  unfold laws_szIntSS.f
  rw [w64 (x := (n : Int) - (p.length : Int)) (by omega)]
  by_cases c : (n : Int) - (p.length : Int) < 0
  · exact ⟨-1, ev_pos c (ev_some _), Or.inl (by decide)⟩
  · have hpn : p.length ≤ n := by omega
    have key := down (fun i => ∀ m : Nat, m ≤ n → (∀ s ∈ p.take i, s.length ≤ n) → ∃ r : Int, Ev (fun k => laws_szIntSS.l0 k p (m : Int) (i : Int)) r ∧ (r < 0 ∨ (0 ≤ r ∧ r ≤ n ∧ p.length ≤ n ∧ ∀ s ∈ p, s.length ≤ n))) p.length ?_ ?_ 0 (by omega)
    · obtain ⟨r, hr, hr2⟩ := key (n - p.length) (by omega) (fun s hs => by cases hs)
      refine ⟨r, ev_neg c ?_, hr2⟩
      rw [show ((n - p.length : Nat) : Int) = (n : Int) - (p.length : Int) from by omega] at hr
      exact hr
    · intro m hm h
      rw [List.take_length] at h
      refine ⟨m, ev_step ?_, Or.inr ⟨by omega, by omega, hpn, h⟩⟩
      simp only [laws_szIntSS.l0]
      exact ev_neg (by omega) (ev_some _)
    · intro i hi ih m hm h
      have hl := hs p[i] (List.getElem_mem _)
      have es : laws_szIntS.f p[i] (m : Int) = some (if (m : Int) - (p[i].length : Int) < 0 then -1 else (m : Int) - (p[i].length : Int)) := by
        unfold laws_szIntS.f
        rw [w64 (by omega)]
        split <;> rfl
      by_cases d : (m : Int) - (p[i].length : Int) < 0
      · refine ⟨-1, ev_step ?_, Or.inl (by decide)⟩
        simp only [laws_szIntSS.l0]
        refine ev_pos (by omega) (ev_pos (by omega) ?_)
        rw [rdl_get hi, es, if_pos d]
        simp only [Option.bind_some]
        exact ev_pos (by decide) (ev_some _)
      · obtain ⟨r, hr, hr2⟩ := ih (m - p[i].length) (by omega) (by
          intro s hs2
          rw [List.take_succ_eq_append_getElem hi] at hs2
          rcases List.mem_append.1 hs2 with hs2 | hs2
          · exact h s hs2
          · obtain rfl := List.mem_singleton.1 hs2
            omega)
        refine ⟨r, ev_step ?_, hr2⟩
        simp only [laws_szIntSS.l0]
        refine ev_pos (by omega) (ev_pos (by omega) ?_)
        rw [rdl_get hi, es, if_neg d, w64_succ (by omega)]
        simp only [Option.bind_some]
        refine ev_neg (by omega) ?_
        rw [show ((m - p[i].length : Nat) : Int) = (m : Int) - (p[i].length : Int) from by omega] at hr
        exact hr

theorem toIntS_ev (l : List Int) (h : l.length ≤ 1048576) : Ev (fun k => laws_toIntS.f k l) l := by
  unfold laws_toIntS.f
  refine ev_pos (by omega) (ev_pos (by omega) ?_)
  have key := ev_count (fun k i => laws_toIntS.l0 k l (l.take i ++ List.replicate (l.length - i) 0) (i : Int)) (fun _ => l) l.length
    (by
      refine ev_step ?_
      simp only [laws_toIntS.l0]
      refine ev_neg (by omega) ?_
      simpa using ev_some l)
    (by
      intro i hi ih
      refine ev_step ?_
      simp only [laws_toIntS.l0]
      refine ev_pos (by omega) (ev_pos (by omega) (ev_pos (by simp; omega) ?_))
      rw [w64_succ (by omega), Int.toNat_natCast, rd_get hi, set_copy hi]
      exact ih)
  have := key 0 (by omega)
  simpa using this

theorem set_copyR {l : List (List Int)} {i : Nat} (h : i < l.length) : (l.take i ++ List.replicate (l.length - i) []).set i l[i] = l.take (i + 1) ++ List.replicate (l.length - (i + 1)) [] := by
  rw [List.set_append_right _ _ (by simp; omega), show l.length - i = (l.length - (i + 1)) + 1 from by omega, List.replicate_succ]
  have hz : i - (l.take i).length = 0 := by simp; omega
  rw [hz, List.set_cons_zero, List.take_succ_eq_append_getElem h, List.append_assoc]; rfl
theorem toIntSS_ev (l : List (List Int)) (h : l.length ≤ 1048576) (hs : ∀ s ∈ l, s.length ≤ 1048576) : Ev (fun k => laws_toIntSS.f k l) l := by
  unfold laws_toIntSS.f
  refine ev_pos (by omega) (ev_pos (by omega) ?_)
  have key := ev_count (fun k i => laws_toIntSS.l0 k l (l.take i ++ List.replicate (l.length - i) []) (i : Int)) (fun _ => l) l.length
    (by
      refine ev_step ?_
      simp only [laws_toIntSS.l0]
      refine ev_neg (by omega) ?_
      simpa using ev_some l)
    (by
      intro i hi ih
      refine ev_step ?_
      simp only [laws_toIntSS.l0]
      refine ev_pos (by omega) (ev_pos (by omega) ?_)
      rw [rdl_get hi]
      refine Ev.bind (toIntS_ev _ (hs _ (List.getElem_mem _))) (ev_pos (by simp; omega) ?_)
      rw [w64_succ (by omega), Int.toNat_natCast, set_copyR hi]
      exact ih)
  have := key 0 (by omega)
  simpa using this

theorem eqIntS_self (l : List Int) (h : l.length ≤ 1048576) : Ev (fun k => laws_eqIntS.f k l l) true := by
  unfold laws_eqIntS.f
  refine ev_pos (by trivial) ?_
  refine ev_count (fun k i => laws_eqIntS.l0 k l l (i : Int)) (fun _ => true) l.length ?_ ?_ 0 (by omega)
  · refine ev_step ?_
    simp only [laws_eqIntS.l0]
    exact ev_neg (by omega) (ev_some _)
  · intro i hi ih
    refine ev_step ?_
    simp only [laws_eqIntS.l0]
    refine ev_pos (by omega) (ev_pos (by omega) (ev_pos (by omega) (ev_pos (by trivial) ?_)))
    rw [w64_succ (by omega)]
    exact ih

theorem eqIntSS_self (l : List (List Int)) (h : l.length ≤ 1048576) (hs : ∀ s ∈ l, s.length ≤ 1048576) : Ev (fun k => laws_eqIntSS.f k l l) true := by
  unfold laws_eqIntSS.f
  refine ev_pos (by trivial) ?_
  refine ev_count (fun k i => laws_eqIntSS.l0 k l l (i : Int)) (fun _ => true) l.length ?_ ?_ 0 (by omega)
  · refine ev_step ?_
    simp only [laws_eqIntSS.l0]
    exact ev_neg (by omega) (ev_some _)
  · intro i hi ih
    refine ev_step ?_
    simp only [laws_eqIntSS.l0]
    refine ev_pos (by omega) (ev_pos (by omega) (ev_pos (by omega) ?_))
    rw [rdl_get hi]
    refine Ev.bind (eqIntS_self _ (hs _ (List.getElem_mem _))) (ev_pos (by trivial) ?_)
    rw [w64_succ (by omega)]
    exact ih

def marks (n : Nat) (a : Int) : List Int := (List.range n).map fun (i : Nat) => a + (i : Int)
theorem marks_length (n : Nat) (a : Int) : (marks n a).length = n := by simp [marks]
theorem marks_get {n i : Nat} (a : Int) (h : i < n) : rd (marks n a) (i : Int) = a + i := by
  rw [rd_nat]; simp [marks, h]
theorem marks_set (l : List Int) (a : Int) {i : Nat} (h : i < l.length) : (marks i a ++ l.drop i).set i (a + i) = marks (i + 1) a ++ l.drop (i + 1) := by
  rw [List.set_append_right _ _ (by simp [marks]), marks_length, Nat.sub_self, drop_cons h, List.set_cons_zero]
  unfold marks
  rw [List.range_succ, List.map_append, List.append_assoc]; rfl
theorem markIntS_ev (l : List Int) (a : Int) (h : l.length ≤ 1048576) (ha : 0 ≤ a ∧ a ≤ 4611686018427387904) : Ev (fun k => laws_markIntS.f k l a) (a + l.length, marks l.length a) := by
  unfold laws_markIntS.f
  have := ev_count (fun k i => laws_markIntS.l0 k (marks i a ++ l.drop i) (a + i) (i : Int)) (fun _ => (a + l.length, marks l.length a)) l.length ?_ ?_ 0 (by omega)
  · simpa [marks] using this
  · refine ev_step ?_
    simp only [laws_markIntS.l0]
    refine ev_neg (by simp [marks_length]) ?_
    simpa using ev_some _
  · intro i hi ih
    refine ev_step ?_
    simp only [laws_markIntS.l0]
    refine ev_pos (by simp [marks_length]; omega) (ev_pos (by omega) ?_)
    rw [w64_succ (by omega), Int.toNat_natCast, marks_set l a hi, w64 (by omega), show a + (i : Int) + 1 = a + ((i + 1 : Nat) : Int) from by omega]
    exact ih
theorem heldIntS_ev (n : Nat) (a : Int) (h : n ≤ 1048576) (ha : 0 ≤ a ∧ a ≤ 4611686018427387904) : Ev (fun k => laws_heldIntS.f k (marks n a) a) (a + n) := by
  unfold laws_heldIntS.f
  have := ev_count (fun k i => laws_heldIntS.l0 k (marks n a) (a + i) (i : Int)) (fun _ => a + (n : Int)) n ?_ ?_ 0 (by omega)
  · simpa using this
  · refine ev_step ?_
    simp only [laws_heldIntS.l0]
    exact ev_neg (by simp [marks_length]) (ev_some _)
  · intro i hi ih
    refine ev_step ?_
    simp only [laws_heldIntS.l0]
    refine ev_pos (by simp [marks_length]; omega) (ev_pos (by omega) (ev_pos (marks_get a hi) ?_))
    rw [w64_succ (by omega), w64 (by omega), show a + (i : Int) + 1 = a + ((i + 1 : Nat) : Int) from by omega]
    exact ih

def marksR : List (List Int) → Int → List (List Int)
  | [], _ => []
  | s :: t, a => marks s.length a :: marksR t (a + s.length)
def tot (l : List (List Int)) : Int := (l.map (fun s => (s.length : Int))).sum
theorem tot_cons (s : List Int) (t : List (List Int)) : tot (s :: t) = s.length + tot t := rfl
theorem tot_nonneg (l : List (List Int)) : 0 ≤ tot l := by
  induction l with
  | nil => exact Int.le_refl _
  | cons s t ih => rw [tot_cons]; omega
theorem tot_le {l : List (List Int)} (hs : ∀ s ∈ l, s.length ≤ 1048576) : tot l ≤ 1048576 * l.length := by
  induction l with
  | nil => exact Int.le_refl _
  | cons s t ih =>
    have h1 := hs s (by simp)
    have h2 := ih (fun u hu => hs u (by simp [hu]))
    rw [tot_cons, List.length_cons]; omega
theorem marksR_length (l : List (List Int)) (a : Int) : (marksR l a).length = l.length := by
  induction l generalizing a with
  | nil => rfl
  | cons s t ih => simp [marksR, ih]
theorem marksR_get (l : List (List Int)) : ∀ (a : Int) (i : Nat) (h : i < l.length), (marksR l a)[i]'(by rw [marksR_length]; exact h) = marks (l[i]).length (a + tot (l.take i)) := by
  induction l with
  | nil => intro a i h; exact absurd h (by simp)
  | cons s t ih =>
    intro a i h
    match i with
    | 0 => simp [marksR, tot]
    | i + 1 =>
      have := ih (a + s.length) i (by simpa using h)
      simp only [marksR, List.getElem_cons_succ, List.take_succ_cons, tot_cons]
      rw [this, Int.add_assoc]
theorem markIntSS_ev (l : List (List Int)) (hl : l.length ≤ 1048576) (hs : ∀ s ∈ l, s.length ≤ 1048576) : Ev (fun k => laws_markIntSS.f k l 1) (1 + tot l, marksR l 1) := by
  have key : ∀ (l : List (List Int)) (a : Int), (∀ s ∈ l, s.length ≤ 1048576) → 0 ≤ a → a + 1048576 * l.length ≤ 4611686018427387904 → Ev (fun k => laws_markIntSS.l0 k l a) (a + tot l, marksR l a) := by
    intro l
    induction l with
    | nil =>
      intro a _ _ _
      simp only [laws_markIntSS.l0]
      have : (a + tot [], marksR [] a) = (a, ([] : List (List Int))) := by simp [tot, marksR]
      rw [this]
      exact ev_some _
    | cons s t ih =>
      intro a hs h0 ha
      have h1 := hs s (by simp)
      simp only [List.length_cons] at ha
      simp only [laws_markIntSS.l0]
      refine Ev.bind (markIntS_ev s a h1 (by omega)) (Ev.bind (ih (a + s.length) (fun u hu => hs u (by simp [hu])) (by omega) (by omega)) ?_)
      have : (a + tot (s :: t), marksR (s :: t) a) = (a + s.length + tot t, marks s.length a :: marksR t (a + s.length)) := by rw [tot_cons, ← Int.add_assoc]; rfl
      rw [this]
      exact ev_some _
  unfold laws_markIntSS.f
  exact key l 1 hs (by omega) (by omega)
theorem tot_take {l : List (List Int)} {i : Nat} (h : i < l.length) : tot (l.take (i + 1)) = tot (l.take i) + l[i].length := by
  unfold tot
  rw [List.take_succ_eq_append_getElem h, List.map_append, List.sum_append]; simp
theorem tot_take_le {l : List (List Int)} (hs : ∀ s ∈ l, s.length ≤ 1048576) (i : Nat) : tot (l.take i) ≤ 1048576 * l.length := by
  have := tot_le (l := l.take i) (fun s h => hs s (List.mem_of_mem_take h))
  have h2 : (l.take i).length ≤ l.length := by simp; omega
  omega
theorem heldIntSS_ev (l : List (List Int)) (hl : l.length ≤ 1048576) (hs : ∀ s ∈ l, s.length ≤ 1048576) : Ev (fun k => laws_heldIntSS.f k (marksR l 1) 1) (1 + tot l) := by
  unfold laws_heldIntSS.f
  have key := ev_count (fun k i => laws_heldIntSS.l0 k (marksR l 1) (1 + tot (l.take i)) (i : Int)) (fun _ => 1 + tot l) l.length ?_ ?_ 0 (by omega)
  · simpa [tot] using key
  · refine ev_step ?_
    simp only [laws_heldIntSS.l0]
    refine ev_neg (by rw [marksR_length]; omega) ?_
    rw [List.take_length]
    exact ev_some _
  · intro i hi ih
    have hi' : i < (marksR l 1).length := by rw [marksR_length]; exact hi
    have h0 := tot_nonneg (l.take i)
    have h1 := tot_take_le hs i
    have h2 := tot_take hi
    have h3 := tot_nonneg (l.take (i + 1))
    refine ev_step ?_
    simp only [laws_heldIntSS.l0]
    rw [rdl_get hi', marksR_get l 1 i hi, w64_succ (by omega)]
    refine ev_pos (by rw [marksR_length]; omega) (ev_pos (by omega) (Ev.bind (heldIntS_ev _ _ (hs _ (List.getElem_mem _)) (by omega)) (ev_neg (by omega) ?_)))
    rw [h2, ← Int.add_assoc] at ih
    exact ih

theorem L_short {q : List V} : ∀ s ∈ L q, s.length ≤ 1048576 := by
  intro s hs
  obtain ⟨v, _, rfl⟩ := List.mem_map.1 hs
  exact (by decide : 2 ≤ 1048576)
theorem FnExactOrderRun (p : List (List Int)) (hp : p.length ≤ 9223372036854775807) (hs : ∀ s ∈ p, s.length ≤ 9223372036854775807) (a : Int) (_ : (Lit.int .i64 a).wf = true) (b : Int) (_ : (Lit.int .i64 b).wf = true) : ∃ k, laws_FnExactOrderRun.f k p a b = some true := by
  refine Ev.rounds ?_
  unfold laws_FnExactOrderRun.f
  obtain ⟨r, hr, hr2⟩ := szIntSS_ev p 1048576 (by omega) hp hs
  refine Ev.bind hr ?_
  rcases hr2 with h | ⟨h0, h1, h2, h3⟩
  · exact ev_pos h (ev_some _)
  · refine ev_neg (by omega) (Ev.bind (toIntSS_ev p h2 h3) ?_)
    have fin : ∀ (g : List (List Int)) (b : Bool), g.length ≤ 1048576 → (∀ s ∈ g, s.length ≤ 1048576) → Ev (fun k => (laws_eqIntSS.f k (g, b).1 (g, b).1).bind fun e1 => (laws_eqIntSS.f k p p).bind fun e2 => (laws_markIntSS.f k p 1).bind fun mx => (laws_markIntSS.f k (g, b).1 1).bind fun mg => (laws_heldIntSS.f k mg.2 1).bind fun q => if e1 = true ∧ (g, b).2 = (g, b).2 ∧ e2 = true ∧ 0 ≤ mx.1 ∧ 0 ≤ q ∧ q = mg.1 then some true else none) true := by
      intro g b hg hgs
      have n1 := tot_nonneg p
      have n2 := tot_nonneg g
      exact Ev.bind (eqIntSS_self g hg hgs) (Ev.bind (eqIntSS_self p h2 h3) (Ev.bind (markIntSS_ev p h2 h3) (Ev.bind (markIntSS_ev g hg hgs) (Ev.bind (heldIntSS_ev g hg hgs) (ev_pos ⟨rfl, rfl, rfl, by dsimp only; omega, by omega, rfl⟩ (ev_some _))))))
    by_cases c : pathB p = true ∧ 0 ≤ a ∧ a ≤ b ∧ b < (p.length : Int)
    · obtain ⟨c, d0, d1, d2⟩ := c
      obtain ⟨q, hq, hP⟩ := path_of c
      obtain ⟨i, rfl⟩ := Int.eq_ofNat_of_zero_le d0
      obtain ⟨j, rfl⟩ := Int.eq_ofNat_of_zero_le (Int.le_trans d0 d1)
      have h8 := hP.hi
      rw [hq] at fin h2 h3 d2 ⊢
      rw [lenL] at d2
      exact Ev.bind (spec_OrderRun_ev hP (by omega) (by omega)) (Ev.bind (impl_OrderRun_ev hP (by omega) (by omega)) (fin _ true (by rw [L_length, turned_length (by omega) (by omega)]; omega) L_short))
    · have c' : pathB p = false ∨ a < 0 ∨ a > b ∨ b ≥ p.length := by
        by_cases z : pathB p = true
        · right; by_cases y : a < 0
          · exact Or.inl y
          · right; by_cases x : a > b
            · exact Or.inl x
            · exact Or.inr (by
                by_cases w : b < (p.length : Int)
                · exact absurd ⟨z, by omega, by omega, w⟩ c
                · omega)
        · exact Or.inl (Bool.eq_false_iff.2 z)
      exact Ev.bind (spec_OrderRun_no h2 a b c') (Ev.bind (impl_OrderRun_no h2 a b c') (fin [] false (by decide) (fun s hs => by cases hs)))

end Go.Proofs.Ytkphiccdgclldaa.Pure
