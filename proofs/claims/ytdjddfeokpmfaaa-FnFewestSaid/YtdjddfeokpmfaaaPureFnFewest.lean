/- A promise of the given program: fewer runs put in opposite order than there are steps lead to a convex path, none just if the path is convex, and only if the steps in order have an area (for every code that draws a path). -/
import Derived.Test.YtdjddfeokpmfaaaPFnFewestx11
import Derived.Test.YtdjddfeokpmfaaaBase
import Derived.Test.YtdjddfeokpmfaaaPth
import Derived.Test.YtdjddfeokpmfaaaSrt
import Derived.Test.YtdjddfeokpmfaaaBox
import Derived.Test.YtdjddfeokpmfaaaCvx
import Derived.Test.YtdjddfeokpmfaaaIso
import Derived.Test.YtdjddfeokpmfaaaOrd
import Derived.Test.YtdjddfeokpmfaaaHRaw
import Derived.Test.YtdjddfeokpmfaaaHSrt
import Derived.Test.YtdjddfeokpmfaaaRim
import Derived.Test.YtdjddfeokpmfaaaTurn
import Derived.Test.YtdjddfeokpmfaaaHOrd
import Derived.Test.YtdjddfeokpmfaaaPerm
import Derived.Test.YtdjddfeokpmfaaaFew
namespace Go.Proofs.Ytdjddfeokpmfaaa.Pure
open Go.RowKit Go.Proofs.Ytdjddfeokpmfaaa.PFnFewest Go.Proofs.YtdjddfeokpmfaaaW.PrintWords Go.Proofs.YtdjddfeokpmfaaaW.PrintLast Go.Proofs.YtdjddfeokpmfaaaW.PrintMore Go.Proofs.Ytdjddfeokpmfaaa.Base Go.Proofs.Ytdjddfeokpmfaaa.Pth Go.Proofs.Ytdjddfeokpmfaaa.Srt Go.Proofs.Ytdjddfeokpmfaaa.Box Go.Proofs.Ytdjddfeokpmfaaa.Cvx Go.Proofs.Ytdjddfeokpmfaaa.Iso Go.Proofs.Ytdjddfeokpmfaaa.Ord Go.Proofs.Ytdjddfeokpmfaaa.HRaw Go.Proofs.Ytdjddfeokpmfaaa.HSrt Go.Proofs.Ytdjddfeokpmfaaa.Rim Go.Proofs.Ytdjddfeokpmfaaa.Turn Go.Proofs.Ytdjddfeokpmfaaa.HOrd Go.Proofs.Ytdjddfeokpmfaaa.Perm Go.Proofs.Ytdjddfeokpmfaaa.Few
set_option linter.unusedVariables false
set_option linter.unusedSimpArgs false
theorem rdl_get {p : List (List Int)} {i : Nat} (h : i < p.length) : rd_L2 p (i : Int) = p[i] := by unfold rd_L2; rw [Int.toNat_natCast]; simp [h]
theorem rdl_L {q : List V} {i : Nat} (h : i < q.length) : rd_L2 (L q) (i : Int) = ofV q[i] := by
  rw [rdl_get (by rw [L_length]; exact h)]; simp [L]
theorem rd0 (v : V) : rd (ofV v) 0 = v.1 := rfl
theorem rd1 (v : V) : rd (ofV v) 1 = v.2 := rfl
theorem len_ofV (v : V) : ((ofV v).length : Int) = 2 := rfl
theorem lenL (q : List V) : ((L q).length : Int) = (q.length : Int) := by rw [L_length]

theorem L_take (q : List V) (n : Nat) : (L q).take n = L (q.take n) := by simp [L]
theorem L_drop (q : List V) (n : Nat) : (L q).drop n = L (q.drop n) := by simp [L]
theorem L_append (a b : List V) : L a ++ L b = L (a ++ b) := by simp [L]
theorem L_snoc (q : List V) (v : V) : L q ++ [ofV v] = L (q ++ [v]) := by simp [L]

theorem clone_int_eq (l : List Int) (h : l.length ≤ 1048576) : slices_Clone_int_int_48.f l = some l := by
  unfold slices_Clone_int_int_48.f
  simp only [Option.bind_some]
  rw [if_pos (by simp; omega)]; rfl
theorem copySteps_ev (q : List V) (hl : q.length ≤ 1048576) : Ev (fun k => impl_copySteps.f k (L q)) (L q) := by
  unfold impl_copySteps.f
  have key := ev_count (fun k i => impl_copySteps.l0 k (L (q.take i)) (L q) ((L q).length : Int) (i : Int)) (fun _ => L q) q.length ?_ ?_ 0 (by omega)
  · exact key
  · refine ev_step ?_
    simp only [impl_copySteps.l0]
    refine ev_neg (by rw [lenL]; omega) ?_
    rw [List.take_length]
    exact ev_some _
  · intro i hi ih
    refine ev_step ?_
    simp only [impl_copySteps.l0]
    rw [rdl_L hi, clone_int_eq (ofV q[i]) (show 2 ≤ 1048576 from by decide), w64_succ (by omega)]
    simp only [Option.bind_some]
    have e : L (q.take i) ++ [ofV q[i]] = L (q.take (i + 1)) := by rw [List.take_succ_eq_append_getElem hi, ← L_snoc]
    rw [e]
    exact ev_pos (by rw [lenL]; omega) (ev_pos (by omega) (ev_pos (by rw [lenL]; omega) (ev_pos (by simp [L]; omega) ih)))

theorem impl_isStep_eq (s : List Int) : impl_isStep.f s = some (stepB s) := by
  match s with
  | [] => rfl
  | [_] => rfl
  | [x, y] =>
    unfold impl_isStep.f
    have h0 : rd [x, y] 0 = x := rfl
    have h1 : rd [x, y] 1 = y := rfl
    have hl : ([x, y].length : Int) = 2 := rfl
    rw [h0, h1, hl, if_pos rfl, if_pos (by decide)]
    rw [stepB_two]
    by_cases a : x ≥ -9
    · rw [if_pos a]
      by_cases b : x ≤ 9
      · rw [if_pos b, if_pos (by decide)]
        by_cases c : y ≥ -9
        · rw [if_pos c]
          by_cases d : y ≤ 9
          · rw [if_pos d]
            by_cases e : x = 0
            · rw [if_pos e]
              by_cases f : y = 0
              · subst e f; rfl
              · have : (y != 0) = true := by simpa using f
                rw [this, decide_eq_true (by omega)]
            · rw [if_neg e, decide_eq_true (by omega)]
          · rw [if_neg d, decide_eq_false (by omega)]
        · rw [if_neg c, decide_eq_false (by omega)]
      · rw [if_neg b, decide_eq_false (by omega)]
    · rw [if_neg a, decide_eq_false (by omega)]
  | a :: b :: c :: t =>
    unfold impl_isStep.f
    rw [if_neg (by simp; omega)]; rfl

theorem gx_take {p : List (List Int)} {i : Nat} (h : i < p.length) : gx (p.take (i + 1)) = gx (p.take i) + p[i].getD 0 0 := by
  unfold gx; rw [List.take_succ_eq_append_getElem h, List.map_append, List.sum_append]
  simp only [List.map_cons, List.map_nil, List.sum_cons, List.sum_nil, Int.add_zero]
theorem gy_take {p : List (List Int)} {i : Nat} (h : i < p.length) : gy (p.take (i + 1)) = gy (p.take i) + p[i].getD 1 0 := by
  unfold gy; rw [List.take_succ_eq_append_getElem h, List.map_append, List.sum_append]
  simp only [List.map_cons, List.map_nil, List.sum_cons, List.sum_nil, Int.add_zero]
theorem g_bound {p : List (List Int)} (h : p.all stepB = true) : (-(9 * (p.length : Int)) ≤ gx p ∧ gx p ≤ 9 * p.length) ∧ -(9 * (p.length : Int)) ≤ gy p ∧ gy p ≤ 9 * p.length := by
  obtain ⟨q, rfl, hq⟩ := all_steps p h
  rw [gx_L, gy_L, L_length]
  exact ⟨sx_bound hq, sy_bound hq⟩
theorem all_take {p : List (List Int)} {i : Nat} (h : i < p.length) (ha : (p.take i).all stepB = true) (hs : stepB p[i] = true) : (p.take (i + 1)).all stepB = true := by
  rw [List.take_succ_eq_append_getElem h, List.all_append, ha]; simp [hs]
theorem impl_PathIn_loop (p : List (List Int)) (h : p.length ≤ 1048576) : Ev (fun k => impl_PathIn.l0 k 0 0 p (p.length : Int) 0) (p.all stepB && decide (gx p = 0) && decide (gy p = 0)) := by
  have key := down (fun i => (p.take i).all stepB = true → Ev (fun k => impl_PathIn.l0 k (gx (p.take i)) (gy (p.take i)) p (p.length : Int) (i : Int)) ((p.drop i).all stepB && decide (gx p = 0) && decide (gy p = 0))) p.length ?_ ?_ 0 (by omega)
  · exact key rfl
  · intro _
    refine ev_step ?_
    simp only [impl_PathIn.l0]
    refine ev_neg (by omega) ?_
    rw [List.take_length, List.drop_length]
    by_cases c : gx p = 0
    · refine ev_pos c ?_
      rw [c]
      have : (gy p == 0) = decide (gy p = 0) := rfl
      rw [this]
      simpa using ev_some _
    · refine ev_neg c ?_
      rw [decide_eq_false c]
      simpa using ev_some _
  · intro i hi ih ha
    refine ev_step ?_
    simp only [impl_PathIn.l0]
    refine ev_pos (by omega) (ev_pos (by omega) (ev_pos (by omega) ?_))
    rw [rdl_get hi, impl_isStep_eq, drop_cons hi, List.all_cons]
    simp only [Option.bind_some]
    by_cases hs : stepB p[i] = true
    · refine ev_pos hs ?_
      have ha' := all_take hi ha hs
      have ih' := ih ha'
      have hb := g_bound ha'
      rw [gx_take hi, gy_take hi] at ih' hb
      obtain ⟨v, hv, hsv⟩ := stepB_of _ hs
      rw [hv] at ih' hb ⊢
      refine ev_pos (by rw [len_ofV]; decide) (ev_pos (by rw [len_ofV]; decide) ?_)
      have hlen : ((p.take (i + 1)).length : Int) ≤ 1048576 := by simp; omega
      rw [w64_succ (by omega), rd0, rd1]
      have e0 : (ofV v).getD 0 0 = v.1 := rfl
      have e1 : (ofV v).getD 1 0 = v.2 := rfl
      rw [e0, e1] at ih' hb
      rw [w64 (by omega), w64 (by omega), (stepB_ofV v).2 hsv, Bool.true_and]
      exact ih'
    · refine ev_neg hs ?_
      rw [Bool.eq_false_iff.2 hs]
      simpa using ev_some _
theorem impl_PathIn_ev (p : List (List Int)) (h : p.length ≤ 1048576) : Ev (fun k => impl_PathIn.f k p) (pathB p) := by
  unfold impl_PathIn.f pathB
  by_cases c : (p.length : Int) < 3
  · refine ev_pos c (ev_step ?_)
    simp only [impl_PathIn.j0]
    refine ev_pos (by trivial) ?_
    rw [decide_eq_false (by omega)]
    simpa using ev_some _
  · refine ev_neg c (ev_step ?_)
    simp only [impl_PathIn.j0]
    by_cases d : (p.length : Int) > 8
    · refine ev_pos (by simpa using d) ?_
      rw [decide_eq_false (p := p.length ≤ 8) (by omega)]
      simpa using ev_some _
    · refine ev_neg (by simpa using d) ?_
      rw [decide_eq_true (by omega), decide_eq_true (by omega)]
      simpa using impl_PathIn_loop p h

theorem impl_run_eq {q : List V} {i j : Nat} (h1 : i ≤ j) (h2 : j < q.length) (h3 : q.length ≤ 1048576) : impl_run.f (L q) (i : Int) (j : Int) = some (L (turned q i j)) := by
  unfold impl_run.f
  rw [if_pos (by omega), if_pos (by omega), lenL, if_pos (by omega), L_length, if_pos (by omega), Int.toNat_natCast, Int.toNat_natCast, L_turned]
def b9 (v : V) : Prop := -9 ≤ v.1 ∧ v.1 ≤ 9 ∧ -9 ≤ v.2 ∧ v.2 ≤ 9
theorem cr_bound {a b : V} (ha : b9 a) (hb : b9 b) : -162 ≤ cr a b ∧ cr a b ≤ 162 := by
  unfold b9 at ha hb
  have h1 := mul9 (x := a.1) (v := b.2) (M := 9) ⟨ha.1, ha.2.1⟩ ⟨hb.2.2.1, hb.2.2.2⟩
  have h2 := mul9 (x := a.2) (v := b.1) (M := 9) ⟨ha.2.2.1, ha.2.2.2⟩ ⟨hb.1, hb.2.1⟩
  unfold cr; omega

theorem b9_of {q : List V} (h : Path q) : ∀ v ∈ q, b9 v := fun v hv => by
  have := h.st v hv
  simp only [stepV] at this
  unfold b9; omega
theorem impl_cross_eq {a b : V} (ha : b9 a) (hb : b9 b) : impl_cross.f (ofV a) (ofV b) = some (cr a b) := by
  unfold impl_cross.f
  rw [len_ofV, len_ofV, if_pos (by decide), if_pos (by decide), if_pos (by decide), if_pos (by decide), rd0, rd0, rd1, rd1]
  simp only [w_sub_l, w_sub_r]
  have := cr_bound ha hb
  unfold cr at this ⊢
  rw [w64 (by omega)]
theorem impl_lower_eq {a : V} (h : stepV a) : impl_lower.f (ofV a) = some (decide (half a = 1)) := by
  unfold impl_lower.f half
  simp only [stepV] at h
  rw [len_ofV, rd0, rd1, if_pos (by decide)]
  by_cases c : a.2 < 0
  · rw [if_pos c, if_neg (by omega), if_neg (by omega)]; rfl
  · rw [if_neg c]
    by_cases d : a.2 = 0
    · rw [if_pos d, if_pos (by decide), if_neg (by omega)]
      by_cases e : a.1 > 0
      · rw [if_pos ⟨d, e⟩, decide_eq_false (by omega)]; rfl
      · rw [if_neg (fun h => e h.2), decide_eq_true (by omega)]; rfl
    · rw [if_neg d, if_pos (by omega)]; rfl
theorem half01 (a : V) : half a = 0 ∨ half a = 1 := by
  unfold half
  split
  · exact Or.inl rfl
  · split
    · exact Or.inl rfl
    · exact Or.inr rfl
theorem impl_compare_ev {a b : V} (ha : stepV a) (hb : stepV b) : ∃ n, impl_compareSteps.f (ofV a) (ofV b) = some n ∧ (decide (n > 0) = desc a b) ∧ -1 ≤ n ∧ n ≤ 1 := by
  unfold impl_compareSteps.f
  rw [impl_lower_eq ha, impl_lower_eq hb, impl_cross_eq (by simp only [stepV] at ha; unfold b9; omega) (by simp only [stepV] at hb; unfold b9; omega)]
  simp only [Option.bind_some]
  unfold desc before
  rcases half01 a with h0 | h0 <;> rcases half01 b with h1 | h1 <;> rw [h0, h1]
  · rw [if_neg (by decide), if_pos rfl]
    have e : cr b a = -cr a b := by unfold cr; grind
    rw [e]
    by_cases c : cr a b > 0
    · exact ⟨-1, by rw [if_pos c], by rw [decide_eq_false (by omega), decide_eq_false (by omega)], by omega⟩
    · by_cases d : cr a b < 0
      · exact ⟨1, by rw [if_neg c, if_pos d], by rw [decide_eq_true (by omega), decide_eq_true (by omega)], by omega⟩
      · exact ⟨0, by rw [if_neg c, if_neg d], by rw [decide_eq_false (by omega), decide_eq_false (by omega)], by omega⟩
  · exact ⟨-1, by simp, by simp, by omega⟩
  · exact ⟨1, by simp, by simp, by omega⟩
  · rw [if_neg (by decide), if_pos rfl]
    have e : cr b a = -cr a b := by unfold cr; grind
    rw [e]
    by_cases c : cr a b > 0
    · exact ⟨-1, by rw [if_pos c], by rw [decide_eq_false (by omega), decide_eq_false (by omega)], by omega⟩
    · by_cases d : cr a b < 0
      · exact ⟨1, by rw [if_neg c, if_pos d], by rw [decide_eq_true (by omega), decide_eq_true (by omega)], by omega⟩
      · exact ⟨0, by rw [if_neg c, if_neg d], by rw [decide_eq_false (by omega), decide_eq_false (by omega)], by omega⟩

theorem dot_bound {a b : V} (ha : b9 a) (hb : b9 b) : -162 ≤ dot a b ∧ dot a b ≤ 162 := by
  unfold b9 at ha hb
  have h1 := mul9 (x := a.1) (v := b.1) (M := 9) ⟨ha.1, ha.2.1⟩ ⟨hb.1, hb.2.1⟩
  have h2 := mul9 (x := a.2) (v := b.2) (M := 9) ⟨ha.2.2.1, ha.2.2.2⟩ ⟨hb.2.2.1, hb.2.2.2⟩
  unfold dot; omega
theorem dot_wrap {a b : V} (ha : b9 a) (hb : b9 b) : wrap64 (wrap64 (a.1 * b.1) + wrap64 (a.2 * b.2)) = dot a b := by
  have := dot_bound ha hb
  simp only [w_add_l, w_add_r]
  unfold dot at this ⊢
  rw [w64 (by omega)]
theorem cnt_take {q : List V} {i : Nat} (h : i < q.length) : (((prs q).take (i + 1)).countP dsc : Nat) = ((prs q).take i).countP dsc + if desc q[i] (q[(i + 1) % q.length]'(Nat.mod_lt _ (by omega))) = true then 1 else 0 := by
  rw [List.take_succ_eq_append_getElem (by rw [prs_length]; exact h), List.countP_append, prs_get h]
  simp only [List.countP_cons, List.countP_nil, Nat.zero_add]
  rfl
theorem cnt_le (q : List V) (i : Nat) : ((prs q).take i).countP dsc ≤ q.length := by
  have := List.countP_le_length (p := dsc) (l := (prs q).take i)
  have h2 := prs_length q
  simp at this
  omega
theorem prs_drop {q : List V} {i : Nat} (h : i < q.length) : ((prs q).drop i).all good = (!bad q[i] (q[(i + 1) % q.length]'(Nat.mod_lt _ (by omega))) && ((prs q).drop (i + 1)).all good) := by
  rw [drop_cons (by rw [prs_length]; exact h), List.all_cons, prs_get h]; rfl
theorem impl_convex_ev {q : List V} (h : Path q) : Ev (fun k => impl_convex.f k (L q)) (cvx q) := by
  unfold impl_convex.f cvx
  have hq := h.hi
  have h3 := h.lo
  have key := ev_count (fun k i => impl_convex.l0 k (L q) ((((prs q).take i).countP dsc : Nat) : Int) (L q) ((L q).length : Int) (i : Int)) (fun i => ((prs q).drop i).all good && decide ((prs q).countP dsc = 1)) q.length ?_ ?_ 0 (by omega)
  · exact key
  · refine ev_step ?_
    simp only [impl_convex.l0]
    refine ev_neg (by rw [lenL]; omega) ?_
    rw [List.take_of_length_le (by rw [prs_length]; omega), List.drop_of_length_le (by rw [prs_length]; omega)]
    have e : ((((prs q).countP dsc : Nat) : Int) == 1) = decide ((prs q).countP dsc = 1) := by
      rw [Bool.eq_iff_iff]; simp; omega
    rw [e]
    simpa using ev_some _
  · intro i hi ih
    have hm : (i + 1) % q.length < q.length := Nat.mod_lt _ (by omega)
    have em : Int.tmod (wrap64 ((i : Int) + 1)) ((L q).length : Int) = (((i + 1) % q.length : Nat) : Int) := by
      rw [w64_succ (by omega), lenL, ← Int.ofNat_tmod]
    have ba := b9_of h q[i] (List.getElem_mem _)
    have bb := b9_of h q[(i + 1) % q.length] (List.getElem_mem _)
    have sa := h.st q[i] (List.getElem_mem _)
    have sb := h.st q[(i + 1) % q.length] (List.getElem_mem _)
    obtain ⟨n, hn, hd, hn1, hn2⟩ := impl_compare_ev sa sb
    have hc := cnt_le q i
    have hct := cnt_take hi
    have cont : bad q[i] q[(i + 1) % q.length] = false → Ev (fun k => impl_convex.j1 k (L q) ((((prs q).take i).countP dsc : Nat) : Int) (ofV q[i]) (ofV q[(i + 1) % q.length]) (L q) ((L q).length : Int) (i : Int) false) (((prs q).drop i).all good && decide ((prs q).countP dsc = 1)) := by
      intro hb
      refine ev_step ?_
      simp only [impl_convex.j1]
      refine ev_neg (by simp) ?_
      rw [hn, prs_drop hi, hb, w64_succ (i := i) (by omega)]
      simp only [Option.bind_some, Bool.not_false, Bool.true_and]
      by_cases hz : desc q[i] q[(i + 1) % q.length] = true
      · rw [hz] at hd
        refine ev_pos (by simpa using hd) ?_
        rw [if_pos hz] at hct
        rw [w64_succ (i := ((prs q).take i).countP dsc) (by omega)]
        rw [hct] at ih
        exact ih
      · rw [Bool.eq_false_iff.2 hz] at hd
        refine ev_neg (by simpa using hd) ?_
        rw [if_neg hz, Nat.add_zero] at hct
        rw [hct] at ih
        exact ih
    have stop : bad q[i] q[(i + 1) % q.length] = true → Ev (fun k => impl_convex.j1 k (L q) ((((prs q).take i).countP dsc : Nat) : Int) (ofV q[i]) (ofV q[(i + 1) % q.length]) (L q) ((L q).length : Int) (i : Int) true) (((prs q).drop i).all good && decide ((prs q).countP dsc = 1)) := by
      intro hb
      refine ev_step ?_
      simp only [impl_convex.j1]
      refine ev_pos (by trivial) ?_
      rw [prs_drop hi, hb]
      simpa using ev_some _
    refine ev_step ?_
    simp only [impl_convex.l0]
    rw [em, rdl_L hi, rdl_L hm, impl_cross_eq ba bb, len_ofV, len_ofV, rd0, rd0, rd1, rd1, dot_wrap ba bb]
    simp only [Option.bind_some]
    refine ev_pos (by rw [lenL]; omega) (ev_pos (by omega) (ev_pos (by rw [lenL]; omega) (ev_neg (by rw [lenL]; omega) (ev_pos (by omega) (ev_pos (by rw [lenL]; omega) ?_)))))
    by_cases c1 : cr q[i] q[(i + 1) % q.length] < 0
    · exact ev_pos c1 (stop (by unfold bad; rw [decide_eq_true c1]; rfl))
    · refine ev_neg c1 ?_
      by_cases c2 : cr q[i] q[(i + 1) % q.length] = 0
      · refine ev_pos c2 (ev_pos (by decide) (ev_pos (by decide) (ev_pos (by decide) (ev_pos (by decide) ?_))))
        by_cases c3 : dot q[i] q[(i + 1) % q.length] < 0
        · rw [decide_eq_true c3]
          exact stop (by unfold bad; rw [decide_eq_true c2, decide_eq_true c3]; simp)
        · rw [decide_eq_false c3]
          exact cont (by unfold bad; rw [decide_eq_false c1, decide_eq_false c3]; simp)
      · exact ev_neg c2 (cont (by unfold bad; rw [decide_eq_false c1, decide_eq_false c2]; rfl))
theorem impl_PathConvex_ev {q : List V} (h : Path q) : Ev (fun k => impl_PathConvex.f k (L q)) (cvx q) := by
  unfold impl_PathConvex.f
  have hq := h.hi
  refine Ev.bind (impl_PathIn_ev _ (by rw [L_length]; omega)) ?_
  rw [pathB_L h]
  exact ev_pos rfl (Ev.bind (impl_convex_ev h) (ev_some _))
theorem ev_shift {ρ : Type} {g : Nat → Option ρ} {r : ρ} (h : Ev g r) (c : Nat) : Ev (fun k => g (k + c)) r := by
  obtain ⟨N, hN⟩ := h
  exact ⟨N, fun k hk => hN (k + c) (by omega)⟩
theorem Ls_inj : ∀ {a b : List V}, L a = L b → a = b
  | [], [], _ => rfl
  | [], b :: t, h => by cases h
  | a :: s, [], h => by cases h
  | a :: s, b :: t, h => by
    have h' : ofV a :: L s = ofV b :: L t := h
    injection h' with h1 h2
    rw [Ls_inj h2]
    congr 1
    injection h1 with h3 h1
    injection h1 with h4 h1
    exact Prod.ext h3 h4
def ML (l : List Q) : List (List (List Int)) := l.map L
theorem ML_length (l : List Q) : (ML l).length = l.length := by simp [ML]
theorem mem_ML {r : Q} {l : List Q} : L r ∈ ML l ↔ r ∈ l := by
  unfold ML
  rw [List.mem_map]
  constructor
  · rintro ⟨x, hx, e⟩
    rw [← Ls_inj e]
    exact hx
  · exact fun h => ⟨r, h, rfl⟩
theorem impl_one_eq {q : Q} {base X : List Q} {i j : Nat} (h1 : i ≤ j) (h2 : j < q.length) (h8 : q.length ≤ 8) (hB : (base ++ X).length ≤ 120) :
    impl_OrderFewest.one (L q) (i : Int) (j : Int) (ML (base ++ X), ML X) = some (ML (base ++ ad base X (turned q i j)), ML (ad base X (turned q i j))) := by
  unfold impl_OrderFewest.one
  rw [impl_run_eq h1 h2 (by omega)]
  have hX : X.length ≤ 120 := by rw [List.length_append] at hB; omega
  have hs : ∀ x ∈ ML (base ++ X), ∀ y ∈ x, y.length < 4611686018427387904 := by
    intro x hx y hy
    obtain ⟨z, _, rfl⟩ := List.mem_map.1 hx
    obtain ⟨v, _, rfl⟩ := List.mem_map.1 hy
    exact (by decide : 2 < 4611686018427387904)
  show (if (ML (base ++ X)).length < 1000 ∧ (ML X).length < 1000 ∧ ∀ x ∈ ML (base ++ X), ∀ y ∈ x, y.length < 4611686018427387904 then some (if L (turned q i j) ∈ ML (base ++ X) then _ else _) else none) = _
  rw [if_pos ⟨by rw [ML_length]; omega, by rw [ML_length]; omega, hs⟩]
  unfold ad
  by_cases c : turned q i j ∈ base ++ X
  · rw [if_pos (mem_ML.2 c), if_pos c]
  · rw [if_neg (fun h => c (mem_ML.1 h)), if_neg c]
    simp only [ML, List.map_append, List.map_cons, List.map_nil, List.append_assoc]
theorem impl_toL_eq {q0 q : Q} (h5 : q0.length ≤ 5) (hq : q.Perm q0) {base : List Q} {i : Nat} : ∀ (r j : Nat) (X : List Q), i ≤ j → j + r ≤ q.length → Ok q0 (base ++ X) →
    impl_OrderFewest.toL (L q) (i : Int) r (j : Int) (ML (base ++ X), ML X) = some (ML (base ++ grow base X (rowR q i r j)), ML (grow base X (rowR q i r j)))
  | 0, j, X, _, _, _ => rfl
  | r + 1, j, X, h1, h2, hO => by
    have hl := hq.length_eq
    unfold impl_OrderFewest.toL
    rw [impl_one_eq h1 (by omega) (by omega) (hO.len h5), Option.bind_some, show (j : Int) + 1 = ((j + 1 : Nat) : Int) by omega]
    rw [impl_toL_eq h5 hq r (j + 1) _ (by omega) (by omega) (ad_ok hO ((turned_perm q h1).trans hq))]
    rfl
theorem impl_frL_eq {q0 q : Q} (h5 : q0.length ≤ 5) (hq : q.Perm q0) {base : List Q} : ∀ (r i : Nat) (X : List Q), i + r ≤ q.length → Ok q0 (base ++ X) →
    impl_OrderFewest.frL (L q) r (i : Int) (ML (base ++ X), ML X) = some (ML (base ++ grow base X (nxR q r i)), ML (grow base X (nxR q r i)))
  | 0, i, X, _, _ => rfl
  | r + 1, i, X, h2, hO => by
    unfold impl_OrderFewest.frL
    rw [show (i : Int) + 1 = ((i + 1 : Nat) : Int) by omega, impl_toL_eq h5 hq r (i + 1) X (by omega) (by omega) hO, Option.bind_some]
    rw [impl_frL_eq h5 hq r (i + 1) _ (by omega) (grow_ok _ _ hO (fun x hx => by
      obtain ⟨t, h3, _, rfl⟩ := mem_row hx
      exact (turned_perm q (by omega)).trans hq))]
    show _ = some (ML (base ++ grow base X (rowR q i r (i + 1) ++ nxR q r (i + 1))), ML (grow base X (rowR q i r (i + 1) ++ nxR q r (i + 1))))
    rw [grow_append]
theorem impl_nowL_ev {q0 : Q} (hP : Path q0) (h5 : q0.length ≤ 5) {dn rest X : List Q} {n : Nat} {R : Int × Bool} (h : Res dn rest X n R) : Inv q0 dn rest X n → ∀ c, Ev (fun k => (impl_OrderFewest.nowL (k + c) (ML rest) (ML (dn ++ rest ++ X), ML X)).bind fun o => match o with | none => some ((n : Int), true) | some s => impl_OrderFewest.lev (k + c) k s.2 s.1 ((n : Int) + 1)) R := by
  induction h with
  | @found dn q rest X n hc =>
    intro hI c
    have hq : Path q := path_perm hP (hI.ok.pm q (by simp))
    have e : ML (q :: rest) = L q :: ML rest := rfl
    simp only [e, impl_OrderFewest.nowL, Option.bind_assoc]
    refine Ev.bind (ev_shift (impl_convex_ev hq) c) ?_
    rw [hc]
    exact ev_some _
  | @step dn q rest X n R hc h ih =>
    intro hI c
    have hq0 := hI.ok.pm q (by simp)
    have hq : Path q := path_perm hP hq0
    have hl := hq0.length_eq
    have e : ML (q :: rest) = L q :: ML rest := rfl
    simp only [e, impl_OrderFewest.nowL, Option.bind_assoc]
    refine Ev.bind (ev_shift (impl_convex_ev hq) c) ?_
    rw [hc]
    simp only [Bool.false_eq_true, if_false]
    have h1 := impl_frL_eq h5 hq0 (base := dn ++ q :: rest) q.length 0 X (by omega) hI.ok
    rw [L_length]
    rw [show ((0 : Nat) : Int) = 0 from rfl] at h1
    simp only [h1, Option.bind_some]
    have h2 := ih hI.step c
    rw [show dn ++ [q] ++ rest = dn ++ q :: rest by simp] at h2
    exact h2
  | @turn dn x X n R h ih =>
    intro hI c
    have hn := hI.nlt h5
    have e0 : ∀ k s, impl_OrderFewest.nowL k (ML []) s = some (some s) := fun _ _ => rfl
    simp only [e0, Option.bind_some]
    refine ev_step ?_
    simp only [impl_OrderFewest.lev]
    refine ev_neg (by rw [ML_length]; simp) (ev_pos (by omega) ?_)
    have h2 := ih hI.turn (c + 1)
    rw [List.append_nil] at h2 ⊢
    refine Ev.congr (fun k => ?_) h2
    rw [show k + (c + 1) = k + 1 + c by omega, show ((n + 1 : Nat) : Int) = (n : Int) + 1 by omega]
    rfl
  | @stop dn n =>
    intro hI c
    have e0 : ∀ k s, impl_OrderFewest.nowL k (ML []) s = some (some s) := fun _ _ => rfl
    simp only [e0, Option.bind_some]
    refine ev_step ?_
    simp only [impl_OrderFewest.lev]
    exact ev_pos rfl (ev_some _)
theorem impl_OrderFewest_ev {q : Q} (hP : Path q) (h5 : q.length ≤ 5) {R : Int × Bool} (h : Res [] [q] [] 0 R) : Ev (fun k => impl_OrderFewest.f k (L q)) R := by
  unfold impl_OrderFewest.f
  refine Ev.bind (impl_PathIn_ev _ (by rw [L_length]; omega)) ?_
  rw [pathB_L hP]
  refine ev_pos rfl (ev_neg (by rw [lenL]; omega) (ev_step ?_))
  simp only [impl_OrderFewest.lev]
  refine ev_neg (by simp) (ev_pos (by omega) ?_)
  exact impl_nowL_ev hP h5 h (Inv.start q) 1
theorem impl_OrderFewest_no {p : List (List Int)} (hl : p.length ≤ 1048576) (h : ¬ (pathB p = true ∧ p.length ≤ 5)) : Ev (fun k => impl_OrderFewest.f k p) (0, false) := by
  unfold impl_OrderFewest.f
  refine Ev.bind (impl_PathIn_ev _ hl) ?_
  by_cases c : pathB p = true
  · have c5 : ¬ p.length ≤ 5 := fun e => h ⟨c, e⟩
    exact ev_pos c (ev_pos (by omega) (ev_some _))
  · exact ev_neg c (ev_some _)

theorem spec_cross_eq {a b : V} (ha : b9 a) (hb : b9 b) : spec_l6sCross.f (ofV a) (ofV b) = some (cr a b) := by
  unfold spec_l6sCross.f
  rw [len_ofV, len_ofV, if_pos (by decide), if_pos (by decide), if_pos (by decide), if_pos (by decide), rd0, rd0, rd1, rd1]
  simp only [w_sub_l, w_sub_r]
  have := cr_bound ha hb
  unfold cr at this ⊢
  rw [w64 (by omega)]
theorem spec_half_eq (a : V) : spec_l6sHalf.f (ofV a) = some (half a) := by
  unfold spec_l6sHalf.f half
  rw [len_ofV, rd0, rd1, if_pos (by decide)]
  by_cases c : a.2 > 0
  · rw [if_pos c, if_pos c]
  · rw [if_neg c, if_neg c]
    by_cases d : a.2 = 0
    · rw [if_pos d, if_pos (by decide)]
      by_cases e : a.1 > 0
      · rw [if_pos e, if_pos ⟨d, e⟩]
      · rw [if_neg e, if_neg (fun h => e h.2)]
    · rw [if_neg d, if_neg (fun h => d h.1)]
theorem spec_before_eq {a b : V} (ha : b9 a) (hb : b9 b) : spec_l6sBefore.f (ofV a) (ofV b) = some (before a b) := by
  unfold spec_l6sBefore.f before
  rw [spec_half_eq, spec_half_eq, spec_cross_eq ha hb]
  simp only [Option.bind_some]
  by_cases c : half a = half b
  · rw [if_pos c, if_pos c]
  · rw [if_neg c, if_neg c]

theorem spec_l6In_eq' (a b c : Int) : spec_l6In.f a b c = some (decide (b ≤ a ∧ a ≤ c)) := by
  unfold spec_l6In.f
  by_cases h : a ≥ b
  · rw [if_pos h]; simp; intro _; exact h
  · rw [if_neg h]; simp; omega
theorem spec_l6sStep_eq (s : List Int) : spec_l6sStep.f s = some (stepB s) := by
  match s with
  | [] => rfl
  | [_] => rfl
  | [x, y] =>
    unfold spec_l6sStep.f
    have h0 : rd [x, y] 0 = x := rfl
    have h1 : rd [x, y] 1 = y := rfl
    have hl : ([x, y].length : Int) = 2 := rfl
    rw [h0, h1, hl, if_pos rfl, if_pos (by decide), spec_l6In_eq', spec_l6In_eq']
    simp only [Option.bind_some]
    rw [stepB_two]
    by_cases b : -9 ≤ x ∧ x ≤ 9
    · rw [if_pos (by simpa using b), if_pos (by decide)]
      by_cases d : -9 ≤ y ∧ y ≤ 9
      · rw [if_pos (by simpa using d)]
        by_cases e : x = 0
        · rw [if_pos e]
          by_cases f : y = 0
          · subst e f; rfl
          · have : (y != 0) = true := by simpa using f
            rw [this, decide_eq_true (by omega)]
        · rw [if_neg e, decide_eq_true (by omega)]
      · rw [if_neg (by simpa using d), decide_eq_false (by omega)]
    · rw [if_neg (by simpa using b), decide_eq_false (by omega)]
  | a :: b :: c :: t =>
    unfold spec_l6sStep.f
    rw [if_neg (by simp; omega)]; rfl

theorem spec_l6sSum_ev (p : List (List Int)) (h : p.length ≤ 1048576) (ha : p.all stepB = true) : Ev (fun k => spec_l6sSum.f k p) (gx p, gy p) := by
  unfold spec_l6sSum.f
  have key := ev_count (fun k i => spec_l6sSum.l0 k p (gx (p.take i)) (gy (p.take i)) (i : Int)) (fun _ => (gx p, gy p)) p.length ?_ ?_ 0 (by omega)
  · exact key
  · refine ev_step ?_
    simp only [spec_l6sSum.l0]
    refine ev_neg (by omega) ?_
    rw [List.take_length]
    exact ev_some _
  · intro i hi ih
    refine ev_step ?_
    simp only [spec_l6sSum.l0]
    refine ev_pos (by omega) (ev_pos (by omega) ?_)
    rw [rdl_get hi]
    have hs : stepB p[i] = true := List.all_eq_true.1 ha _ (List.getElem_mem _)
    have ha' : (p.take (i + 1)).all stepB = true := List.all_eq_true.2 (fun s hs => List.all_eq_true.1 ha s (List.mem_of_mem_take hs))
    have hb := g_bound ha'
    rw [gx_take hi, gy_take hi] at ih hb
    obtain ⟨v, hv, hsv⟩ := stepB_of _ hs
    rw [hv] at ih hb ⊢
    refine ev_pos (by rw [len_ofV]; decide) (ev_pos (by rw [len_ofV]; decide) ?_)
    have hlen : ((p.take (i + 1)).length : Int) ≤ 1048576 := by simp; omega
    rw [w64_succ (by omega), rd0, rd1]
    have e0 : (ofV v).getD 0 0 = v.1 := rfl
    have e1 : (ofV v).getD 1 0 = v.2 := rfl
    rw [e0, e1] at ih hb
    rw [w64 (by omega), w64 (by omega)]
    exact ih
theorem spec_PathIn_ev (p : List (List Int)) (h : p.length ≤ 1048576) : Ev (fun k => spec_PathIn.f k p) (pathB p) := by
  unfold spec_PathIn.f
  have key := down (fun i => (p.take i).all stepB = true → Ev (fun k => spec_PathIn.l0 k p (i : Int)) (decide (3 ≤ p.length) && decide (p.length ≤ 8) && (p.drop i).all stepB && decide (gx p = 0) && decide (gy p = 0))) p.length ?_ ?_ 0 (by omega)
  · exact key rfl
  · intro ha
    rw [List.take_length] at ha
    refine ev_step ?_
    simp only [spec_PathIn.l0]
    refine ev_neg (by omega) (Ev.bind (spec_l6sSum_ev p h ha) ?_)
    rw [spec_l6In_eq', List.drop_length]
    simp only [Option.bind_some]
    by_cases c : (3 : Int) ≤ p.length ∧ (p.length : Int) ≤ 8
    · refine ev_pos (by simpa using c) ?_
      rw [decide_eq_true (by omega), decide_eq_true (by omega)]
      by_cases c : gx p = 0
      · refine ev_pos c ?_
        rw [c]
        have : (gy p == 0) = decide (gy p = 0) := rfl
        rw [this]
        simpa using ev_some _
      · refine ev_neg c ?_
        rw [decide_eq_false c]
        simpa using ev_some _
    · refine ev_neg (by simpa using c) ?_
      have : (decide (3 ≤ p.length) && decide (p.length ≤ 8)) = false := by
        rw [Bool.and_eq_false_iff]; simp; omega
      rw [this]
      simpa using ev_some _
  · intro i hi ih ha
    refine ev_step ?_
    simp only [spec_PathIn.l0]
    refine ev_pos (by omega) (ev_pos (by omega) ?_)
    rw [rdl_get hi, spec_l6sStep_eq, drop_cons hi, List.all_cons]
    simp only [Option.bind_some]
    by_cases hs : stepB p[i] = true
    · refine ev_pos hs ?_
      rw [w64_succ (by omega), hs, Bool.true_and]
      exact ih (all_take hi ha hs)
    · refine ev_neg hs ?_
      rw [Bool.eq_false_iff.2 hs]
      simpa using ev_some _

theorem turned_take {q : List V} {i j m : Nat} (h1 : i ≤ j) (h2 : j < q.length) (hm : m < q.length) (t : Nat) (ht : t < q.length) (e : t = if i ≤ m ∧ m ≤ j then i + j - m else m) :
    L ((turned q i j).take m) ++ [[q[t].1, q[t].2]] = L ((turned q i j).take (m + 1)) := by
  have hl : m < (turned q i j).length := by rw [turned_length h1 h2]; exact hm
  have hg := turned_get h1 h2 m
  rw [List.getElem?_eq_getElem hl] at hg
  have e2 : (turned q i j)[m] = q[t] := by
    by_cases c : i ≤ m ∧ m ≤ j
    · rw [if_pos c] at hg e
      subst e
      rw [List.getElem?_eq_getElem ht] at hg
      exact Option.some.inj hg
    · rw [if_neg c] at hg e
      subst e
      rw [List.getElem?_eq_getElem ht] at hg
      exact Option.some.inj hg
  rw [List.take_succ_eq_append_getElem hl, ← L_snoc, e2]; rfl
theorem spec_l7Run_ev {q : List V} {i j : Nat} (h1 : i ≤ j) (h2 : j < q.length) (h3 : q.length ≤ 1048576) : Ev (fun k => spec_l7Run.f k (L q) (i : Int) (j : Int)) (L (turned q i j)) := by
  unfold spec_l7Run.f
  have key := ev_count (fun k m => spec_l7Run.l0 k (L q) (i : Int) (j : Int) (L ((turned q i j).take m)) (m : Int)) (fun _ => L (turned q i j)) q.length ?_ ?_ 0 (by omega)
  · exact key
  · refine ev_step ?_
    simp only [spec_l7Run.l0]
    refine ev_neg (by rw [lenL]; omega) ?_
    rw [List.take_of_length_le (by rw [turned_length h1 h2]; omega)]
    exact ev_some _
  · intro m hm ih
    have ew : wrap64 (wrap64 ((i : Int) + (j : Int)) - (m : Int)) = (i : Int) + j - m := by rw [w64 (x := (i : Int) + j) (by omega), w64 (by omega)]
    refine ev_step ?_
    simp only [spec_l7Run.l0]
    rw [ew]
    refine ev_pos (by rw [lenL]; omega) (ev_pos (by omega) ?_)
    by_cases c : i ≤ m ∧ m ≤ j
    · have ht : i + j - m < q.length := by omega
      rw [show (i : Int) + j - m = ((i + j - m : Nat) : Int) from by omega, rdl_L ht, len_ofV, rd0, rd1, w64_succ (by omega), turned_take h1 h2 hm (i + j - m) ht (by rw [if_pos c])]
      exact ev_pos (by omega) (ev_pos (by omega) (ev_pos (by omega) (ev_pos (by rw [lenL]; omega) (ev_pos (by decide) (ev_pos (by decide) (ev_pos (by simp [L]; omega) ih))))))
    · have key2 : Ev (fun k => (if 0 < ((rd_L2 (L q) (m : Int)).length : Int) then (if 1 < ((rd_L2 (L q) (m : Int)).length : Int) then (if (L ((turned q i j).take m)).length < 5864062014805 then (spec_l7Run.l0 k (L q) (i : Int) (j : Int) (L ((turned q i j).take m) ++ [[rd (rd_L2 (L q) (m : Int)) 0, rd (rd_L2 (L q) (m : Int)) 1]]) (wrap64 ((m : Int) + 1))) else none) else none) else none)) (L (turned q i j)) := by
        rw [rdl_L hm, len_ofV, rd0, rd1, w64_succ (by omega), turned_take h1 h2 hm m hm (by rw [if_neg c])]
        exact ev_pos (by decide) (ev_pos (by decide) (ev_pos (by simp [L]; omega) ih))
      by_cases d : i ≤ m
      · exact ev_pos (by omega) (ev_neg (by omega) key2)
      · exact ev_neg (by omega) key2

theorem spec_convex_ev {q : List V} (h : Path q) : Ev (fun k => spec_l6sConvex.f k (L q)) (cvx q) := by
  unfold spec_l6sConvex.f cvx
  have hq := h.hi
  have h3 := h.lo
  have key := ev_count (fun k i => spec_l6sConvex.l0 k (L q) ((((prs q).take i).countP dsc : Nat) : Int) (i : Int)) (fun i => ((prs q).drop i).all good && decide ((prs q).countP dsc = 1)) q.length ?_ ?_ 0 (by omega)
  · exact key
  · refine ev_step ?_
    simp only [spec_l6sConvex.l0]
    refine ev_neg (by rw [lenL]; omega) ?_
    rw [List.take_of_length_le (by rw [prs_length]; omega), List.drop_of_length_le (by rw [prs_length]; omega)]
    have e : ((((prs q).countP dsc : Nat) : Int) == 1) = decide ((prs q).countP dsc = 1) := by
      rw [Bool.eq_iff_iff]; simp; omega
    rw [e]
    simpa using ev_some _
  · intro i hi ih
    have hm : (i + 1) % q.length < q.length := Nat.mod_lt _ (by omega)
    have em : Int.tmod (wrap64 ((i : Int) + 1)) ((L q).length : Int) = (((i + 1) % q.length : Nat) : Int) := by
      rw [w64_succ (by omega), lenL, ← Int.ofNat_tmod]
    have ba := b9_of h q[i] (List.getElem_mem _)
    have bb := b9_of h q[(i + 1) % q.length] (List.getElem_mem _)
    have hc := cnt_le q i
    have hct := cnt_take hi
    have cont : bad q[i] q[(i + 1) % q.length] = false → Ev (fun k => spec_l6sConvex.j1 k (L q) ((((prs q).take i).countP dsc : Nat) : Int) (i : Int) (ofV q[i]) (ofV q[(i + 1) % q.length]) false) (((prs q).drop i).all good && decide ((prs q).countP dsc = 1)) := by
      intro hb
      refine ev_step ?_
      simp only [spec_l6sConvex.j1]
      refine ev_neg (by simp) ?_
      rw [spec_before_eq bb ba, prs_drop hi, hb, w64_succ (i := i) (by omega)]
      simp only [Option.bind_some, Bool.not_false, Bool.true_and]
      by_cases hz : desc q[i] q[(i + 1) % q.length] = true
      · refine ev_pos hz ?_
        rw [if_pos hz] at hct
        rw [w64_succ (i := ((prs q).take i).countP dsc) (by omega)]
        rw [hct] at ih
        exact ih
      · refine ev_neg hz ?_
        rw [if_neg hz, Nat.add_zero] at hct
        rw [hct] at ih
        exact ih
    have stop : bad q[i] q[(i + 1) % q.length] = true → Ev (fun k => spec_l6sConvex.j1 k (L q) ((((prs q).take i).countP dsc : Nat) : Int) (i : Int) (ofV q[i]) (ofV q[(i + 1) % q.length]) true) (((prs q).drop i).all good && decide ((prs q).countP dsc = 1)) := by
      intro hb
      refine ev_step ?_
      simp only [spec_l6sConvex.j1]
      refine ev_pos (by trivial) ?_
      rw [prs_drop hi, hb]
      simpa using ev_some _
    refine ev_step ?_
    simp only [spec_l6sConvex.l0]
    rw [em, rdl_L hi, rdl_L hm, spec_cross_eq ba bb, len_ofV, len_ofV, rd0, rd0, rd1, rd1, dot_wrap ba bb]
    simp only [Option.bind_some]
    refine ev_pos (by rw [lenL]; omega) (ev_pos (by omega) (ev_neg (by rw [lenL]; omega) (ev_pos (by omega) (ev_pos (by rw [lenL]; omega) ?_))))
    by_cases c1 : cr q[i] q[(i + 1) % q.length] < 0
    · exact ev_pos c1 (stop (by unfold bad; rw [decide_eq_true c1]; rfl))
    · refine ev_neg c1 ?_
      by_cases c2 : cr q[i] q[(i + 1) % q.length] = 0
      · refine ev_pos c2 (ev_pos (by decide) (ev_pos (by decide) (ev_pos (by decide) (ev_pos (by decide) ?_))))
        by_cases c3 : dot q[i] q[(i + 1) % q.length] < 0
        · rw [decide_eq_true c3]
          exact stop (by unfold bad; rw [decide_eq_true c2, decide_eq_true c3]; simp)
        · rw [decide_eq_false c3]
          exact cont (by unfold bad; rw [decide_eq_false c1, decide_eq_false c3]; simp)
      · exact ev_neg c2 (cont (by unfold bad; rw [decide_eq_false c1, decide_eq_false c2]; rfl))

theorem spec_l7Equal_ev {x y : Q} (h : x.length = y.length) (h8 : x.length ≤ 1048576) : Ev (fun k => spec_l7Equal.f k (L x) (L y)) (decide (x = y)) := by
  unfold spec_l7Equal.f
  have key := down (fun i => x.take i = y.take i → Ev (fun k => spec_l7Equal.l0 k (L x) (L y) (i : Int)) (decide (x = y))) x.length ?_ ?_ 0 (by omega)
  · exact key rfl
  · intro ht
    rw [List.take_length, h, List.take_length] at ht
    rw [decide_eq_true ht]
    refine ev_step ?_
    simp only [spec_l7Equal.l0]
    rw [lenL, lenL, h]
    refine ev_neg (by omega) ?_
    simpa using ev_some _
  · intro i hi ih ht
    have hi2 : i < y.length := by omega
    refine ev_step ?_
    simp only [spec_l7Equal.l0]
    rw [rdl_L hi, rdl_L hi2, len_ofV, len_ofV, rd0, rd0, rd1, rd1, lenL, lenL, w64_succ (by omega)]
    refine ev_pos (by omega) (ev_pos (by omega) (ev_pos (by decide) (ev_pos (by omega) (ev_pos (by decide) ?_))))
    by_cases c1 : x[i].1 = y[i].1
    · refine ev_pos c1 (ev_pos (by decide) (ev_pos (by decide) ?_))
      by_cases c2 : x[i].2 = y[i].2
      · refine ev_pos c2 (ih ?_)
        rw [List.take_succ_eq_append_getElem hi, List.take_succ_eq_append_getElem hi2, ht, show x[i] = y[i] from Prod.ext c1 c2]
      · refine ev_neg c2 ?_
        rw [decide_eq_false (fun e => c2 (by subst e; rfl))]
        exact ev_some _
    · refine ev_neg c1 ?_
      rw [decide_eq_false (fun e => c1 (by subst e; rfl))]
      exact ev_some _
theorem rd2_ML {S : List Q} {d : Nat} (h : d < S.length) : rd_L3 (ML S) (d : Int) = L S[d] := by
  unfold rd_L3 ML
  rw [Int.toNat_natCast, List.getD_eq_getElem?_getD, List.getElem?_map, List.getElem?_eq_getElem h]
  rfl
theorem lenM (l : List Q) : ((ML l).length : Int) = (l.length : Int) := by rw [ML_length]
def fars (fb : List Int) (n : Nat) (X : List Q) : List Int := fb ++ List.replicate X.length ((n : Int) + 1)
theorem spec_l3_ev {p r : Q} {base X : List Q} {fb : List Int} {d i j n : Nat} {R : Int × Bool} (hS : ∀ x ∈ base ++ X, x.length = r.length) (hr : r.length ≤ 8) (hl : (base ++ X).length ≤ 120) (hfb : fb.length = base.length) (hd : d < fb.length) (hn : fb[d]? = some (n : Int)) (hn2 : n ≤ 120) (hj : j ≤ 8)
    (cont : Ev (fun k => spec_OrderFewest.l2 k (L p) (ML (base ++ ad base X r)) (fars fb n (ad base X r)) (d : Int) (i : Int) ((j + 1 : Nat) : Int)) R) :
    ∀ t, t ≤ (base ++ X).length → ∀ b : Bool, (b = true → r ∈ base ++ X) → (r ∈ base ++ X → b = true ∨ r ∈ (base ++ X).drop t) → Ev (fun k => spec_OrderFewest.l3 k (L p) (ML (base ++ X)) (fars fb n X) (d : Int) (i : Int) (j : Int) (L r) b (t : Int)) R := by
  refine down (fun t => ∀ b : Bool, (b = true → r ∈ base ++ X) → (r ∈ base ++ X → b = true ∨ r ∈ (base ++ X).drop t) → Ev (fun k => spec_OrderFewest.l3 k (L p) (ML (base ++ X)) (fars fb n X) (d : Int) (i : Int) (j : Int) (L r) b (t : Int)) R) (base ++ X).length ?_ ?_
  · intro b h1 h2
    have hfl : (fars fb n X).length = (base ++ X).length := by unfold fars; simp [hfb]
    refine ev_step ?_
    simp only [spec_OrderFewest.l3]
    refine ev_neg (by rw [lenM]; omega) ?_
    rw [w64_succ (i := j) (by omega)]
    cases b with
    | true =>
      have e : ad base X r = X := by unfold ad; rw [if_pos (h1 rfl)]
      rw [e] at cont
      exact ev_pos rfl cont
    | false =>
      have hnot : r ∉ base ++ X := fun h => by
        rcases h2 h with h3 | h3
        · cases h3
        · rw [List.drop_length] at h3; cases h3
      have e : ad base X r = X ++ [r] := by unfold ad; rw [if_neg hnot]
      rw [e] at cont
      have e1 : rd (fars fb n X) (d : Int) = (n : Int) := by
        rw [rd_nat, List.getD_eq_getElem?_getD]
        unfold fars
        rw [List.getElem?_append_left hd, hn]
        rfl
      have e2 : fars fb n (X ++ [r]) = fars fb n X ++ [(n : Int) + 1] := by
        unfold fars
        rw [List.length_append, List.length_singleton, List.replicate_succ', List.append_assoc]
      have e3 : ML (base ++ (X ++ [r])) = ML (base ++ X) ++ [L r] := by simp [ML]
      rw [e2, e3] at cont
      rw [e1, w64 (x := (n : Int) + 1) (by omega), hfl]
      have hb : base.length ≤ (base ++ X).length := by rw [List.length_append]; omega
      exact ev_neg (by decide) (ev_pos (by rw [ML_length]; omega) (ev_pos (by omega) (ev_pos (by omega) (ev_pos (by omega) cont))))
  · intro t ht ih b h1 h2
    refine ev_step ?_
    simp only [spec_OrderFewest.l3]
    rw [w64_succ (i := t) (by omega)]
    refine ev_pos (by rw [lenM]; omega) ?_
    cases b with
    | true => exact ev_pos rfl (ih true h1 (fun _ => .inl rfl))
    | false =>
      refine ev_neg (by decide) (ev_pos (by omega) ?_)
      rw [rd2_ML ht]
      have hx := hS _ (List.getElem_mem ht)
      refine Ev.bind (spec_l7Equal_ev hx (by omega)) (ih _ (fun h => ?_) (fun h => ?_))
      · rw [← of_decide_eq_true h]
        exact List.getElem_mem ht
      · rcases h2 h with h3 | h3
        · cases h3
        · rw [List.drop_eq_getElem_cons ht] at h3
          rcases List.mem_cons.1 h3 with h3 | h3
          · exact .inl (decide_eq_true h3.symm)
          · exact .inr h3
theorem spec_l2_ev {q0 q : Q} (h5 : q0.length ≤ 5) (hq : q.Perm q0) {base : List Q} {fb : List Int} {d i n : Nat} {R : Int × Bool} (hfb : fb.length = base.length) (hd : d < fb.length) (hn : fb[d]? = some (n : Int)) (hn2 : n ≤ 120) (hbq : base[d]? = some q) :
    ∀ (r j : Nat) (X : List Q), i ≤ j → j + r = q.length → Ok q0 (base ++ X) → Ev (fun k => spec_OrderFewest.l1 k (L q0) (ML (base ++ grow base X (rowR q i r j))) (fars fb n (grow base X (rowR q i r j))) (d : Int) ((i + 1 : Nat) : Int)) R → Ev (fun k => spec_OrderFewest.l2 k (L q0) (ML (base ++ X)) (fars fb n X) (d : Int) (i : Int) (j : Int)) R
  | 0, j, X, h1, h2, hO, cont => by
    have hl := hq.length_eq
    refine ev_step ?_
    simp only [spec_OrderFewest.l2]
    rw [w64_succ (i := i) (by omega)]
    exact ev_neg (by rw [lenL]; omega) cont
  | r + 1, j, X, h1, h2, hO, cont => by
    have hl := hq.length_eq
    have hdb : d < (base ++ X).length := by rw [List.length_append]; omega
    have hqd : (base ++ X)[d] = q := by
      have : (base ++ X)[d]? = some q := by rw [List.getElem?_append_left (by omega), hbq]
      rw [List.getElem?_eq_getElem hdb] at this
      exact Option.some.inj this
    refine ev_step ?_
    simp only [spec_OrderFewest.l2]
    rw [rd2_ML hdb, hqd]
    refine ev_pos (by rw [lenL]; omega) (ev_pos (by omega) (ev_pos (by rw [lenM]; omega) (Ev.bind (spec_l7Run_ev h1 (by omega) (by omega)) ?_)))
    have hp := (turned_perm q h1).trans hq
    refine spec_l3_ev (fun x hx => ((hO.pm x hx).trans hp.symm).length_eq) (by rw [hp.length_eq]; omega) (hO.len h5) hfb hd hn hn2 (by omega) ?_ 0 (Nat.zero_le _) false (fun e => by cases e) (fun h => .inr h)
    exact spec_l2_ev h5 hq hfb hd hn hn2 hbq r (j + 1) _ (by omega) (by omega) (ad_ok hO hp) cont
theorem spec_l1_ev {q0 q : Q} (h5 : q0.length ≤ 5) (hq : q.Perm q0) {base : List Q} {fb : List Int} {d n : Nat} {R : Int × Bool} (hfb : fb.length = base.length) (hd : d < fb.length) (hd2 : d ≤ 120) (hn : fb[d]? = some (n : Int)) (hn2 : n ≤ 120) (hbq : base[d]? = some q) :
    ∀ (r i : Nat) (X : List Q), i + r = q.length → Ok q0 (base ++ X) → Ev (fun k => spec_OrderFewest.l0 k (L q0) (ML (base ++ grow base X (nxR q r i))) (fars fb n (grow base X (nxR q r i))) ((d + 1 : Nat) : Int)) R → Ev (fun k => spec_OrderFewest.l1 k (L q0) (ML (base ++ X)) (fars fb n X) (d : Int) (i : Int)) R
  | 0, i, X, h2, hO, cont => by
    have hl := hq.length_eq
    refine ev_step ?_
    simp only [spec_OrderFewest.l1]
    rw [w64_succ (i := d) (by omega)]
    exact ev_neg (by rw [lenL]; omega) cont
  | r + 1, i, X, h2, hO, cont => by
    have hl := hq.length_eq
    refine ev_step ?_
    simp only [spec_OrderFewest.l1]
    rw [w64_succ (i := i) (by omega)]
    refine ev_pos (by rw [lenL]; omega) ?_
    refine spec_l2_ev h5 hq hfb hd hn hn2 hbq r (i + 1) X (by omega) (by omega) hO ?_
    refine spec_l1_ev h5 hq hfb hd hd2 hn hn2 hbq r (i + 1) _ (by omega) (grow_ok _ _ hO (fun x hx => by
      obtain ⟨t, h3, _, rfl⟩ := mem_row hx
      exact (turned_perm q (by omega)).trans hq)) ?_
    have e : nxR q (r + 1) i = rowR q i r (i + 1) ++ nxR q r (i + 1) := rfl
    rw [e, grow_append] at cont
    exact cont
theorem spec_l0_ev {q0 : Q} (hP : Path q0) (h5 : q0.length ≤ 5) {dn rest X : List Q} {n : Nat} {R : Int × Bool} (h : Res dn rest X n R) : Inv q0 dn rest X n → ∀ fd : List Int, fd.length = dn.length → Ev (fun k => spec_OrderFewest.l0 k (L q0) (ML (dn ++ rest ++ X)) (fars (fd ++ List.replicate rest.length (n : Int)) n X) (dn.length : Int)) R := by
  induction h with
  | @found dn q rest X n hc =>
    intro hI fd hfd
    have hq : Path q := path_perm hP (hI.ok.pm q (by simp))
    have hd : dn.length < (dn ++ q :: rest ++ X).length := by simp
    have e : (dn ++ q :: rest ++ X)[dn.length] = q := by simp
    have e2 : rd (fars (fd ++ List.replicate (q :: rest).length (n : Int)) n X) (dn.length : Int) = (n : Int) := by
      rw [rd_nat, ← hfd, List.getD_eq_getElem?_getD]
      unfold fars
      rw [List.append_assoc, List.getElem?_append_right (Nat.le_refl _), Nat.sub_self, List.length_cons, List.replicate_succ]
      rfl
    refine ev_step ?_
    simp only [spec_OrderFewest.l0]
    rw [rd2_ML hd, e, e2]
    refine ev_pos (by rw [lenM]; omega) (ev_pos (by omega) (Ev.bind (spec_convex_ev hq) ?_))
    rw [hc]
    refine ev_pos rfl (ev_pos ?_ (ev_some _))
    unfold fars
    simp [hfd]
    omega
  | @step dn q rest X n R hc h ih =>
    intro hI fd hfd
    have hq0 := hI.ok.pm q (by simp)
    have hq : Path q := path_perm hP hq0
    have hl := hI.len h5
    rw [List.length_cons] at hl
    have hd : dn.length < (dn ++ q :: rest ++ X).length := by simp
    have e : (dn ++ q :: rest ++ X)[dn.length] = q := by simp
    refine ev_step ?_
    simp only [spec_OrderFewest.l0]
    rw [rd2_ML hd, e]
    refine ev_pos (by rw [lenM]; omega) (ev_pos (by omega) (Ev.bind (spec_convex_ev hq) ?_))
    rw [hc]
    refine ev_neg (by decide) ?_
    have h2 := ih hI.step (fd ++ [(n : Int)]) (by simp [hfd])
    rw [show dn ++ [q] ++ rest = dn ++ q :: rest by simp, show fd ++ [(n : Int)] ++ List.replicate rest.length (n : Int) = fd ++ List.replicate (q :: rest).length (n : Int) by rw [List.append_assoc, List.length_cons, List.replicate_succ]; rfl, show (dn ++ [q]).length = dn.length + 1 by simp] at h2
    refine spec_l1_ev h5 hq0 (by simp [hfd]) (by simp [hfd]) (by omega) ?_ (hI.nlt h5) (by simp) q.length 0 X (by omega) hI.ok h2
    rw [← hfd, List.getElem?_append_right (Nat.le_refl _)]
    simp
  | @turn dn x X n R h ih =>
    intro hI fd hfd
    have h2 := ih hI.turn fd hfd
    rw [show dn ++ (x :: X) ++ [] = dn ++ [] ++ (x :: X) by simp, show fars (fd ++ List.replicate (x :: X).length ((n + 1 : Nat) : Int)) (n + 1) [] = fars (fd ++ List.replicate ([] : List Q).length (n : Int)) n (x :: X) by
      unfold fars
      rw [List.length_nil, List.replicate_zero, List.replicate_zero, List.append_nil, List.append_nil]
      rfl] at h2
    exact h2
  | @stop dn n =>
    intro hI fd hfd
    refine ev_step ?_
    simp only [spec_OrderFewest.l0]
    exact ev_neg (by rw [lenM]; simp) (ev_some _)
theorem spec_OrderFewest_ev {q : Q} (hP : Path q) (h5 : q.length ≤ 5) {R : Int × Bool} (h : Res [] [q] [] 0 R) : Ev (fun k => spec_OrderFewest.f k (L q)) R := by
  unfold spec_OrderFewest.f
  refine Ev.bind (spec_PathIn_ev _ (by rw [L_length]; omega)) ?_
  rw [pathB_L hP]
  refine ev_pos rfl (ev_step ?_)
  simp only [spec_OrderFewest.j0]
  exact ev_neg (by rw [lenL]; simp; omega) (spec_l0_ev hP h5 h (Inv.start q) [] rfl)
theorem spec_OrderFewest_no {p : List (List Int)} (hl : p.length ≤ 1048576) (h : ¬ (pathB p = true ∧ p.length ≤ 5)) : Ev (fun k => spec_OrderFewest.f k p) (0, false) := by
  unfold spec_OrderFewest.f
  refine Ev.bind (spec_PathIn_ev _ hl) ?_
  by_cases c : pathB p = true
  · have c5 : ¬ p.length ≤ 5 := fun e => h ⟨c, e⟩
    refine ev_pos c (ev_step ?_)
    simp only [spec_OrderFewest.j0]
    exact ev_pos (by simp; omega) (ev_some _)
  · refine ev_neg c (ev_step ?_)
    simp only [spec_OrderFewest.j0]
    exact ev_pos (by trivial) (ev_some _)

theorem impl_compare_lt {a b : V} (ha : stepV a) (hb : stepV b) : ∃ n, impl_compareSteps.f (ofV a) (ofV b) = some n ∧ decide (n < 0) = before a b := by
  unfold impl_compareSteps.f
  rw [impl_lower_eq ha, impl_lower_eq hb, impl_cross_eq (by simp only [stepV] at ha; unfold b9; omega) (by simp only [stepV] at hb; unfold b9; omega)]
  simp only [Option.bind_some]
  unfold before
  rcases half01 a with h0 | h0 <;> rcases half01 b with h1 | h1 <;> rw [h0, h1]
  · rw [if_neg (by decide), if_pos rfl]
    by_cases c : cr a b > 0
    · exact ⟨-1, by rw [if_pos c], by rw [decide_eq_true (by omega), decide_eq_true (by omega)]⟩
    · by_cases d : cr a b < 0
      · exact ⟨1, by rw [if_neg c, if_pos d], by rw [decide_eq_false (by omega), decide_eq_false (by omega)]⟩
      · exact ⟨0, by rw [if_neg c, if_neg d], by rw [decide_eq_false (by omega), decide_eq_false (by omega)]⟩
  · exact ⟨-1, by simp, by simp⟩
  · exact ⟨1, by simp, by simp⟩
  · rw [if_neg (by decide), if_pos rfl]
    by_cases c : cr a b > 0
    · exact ⟨-1, by rw [if_pos c], by rw [decide_eq_true (by omega), decide_eq_true (by omega)]⟩
    · by_cases d : cr a b < 0
      · exact ⟨1, by rw [if_neg c, if_pos d], by rw [decide_eq_false (by omega), decide_eq_false (by omega)]⟩
      · exact ⟨0, by rw [if_neg c, if_neg d], by rw [decide_eq_false (by omega), decide_eq_false (by omega)]⟩
theorem isort_L (cmp : List Int → List Int → Int) (hc : ∀ a b : V, stepV a → stepV b → decide (cmp (ofV a) (ofV b) < 0) = before a b) {q : List V} (hq : ∀ v ∈ q, stepV v) : isort (fun a b => decide (cmp a b < 0)) (L q) = L (srt q) := by
  have hpos : ∀ (v : V) (out : List V), stepV v → (∀ u ∈ out, stepV u) → ∀ k, k ≤ out.length → posR (fun a b => decide (cmp a b < 0)) (ofV v) (L out) k = pos v out k := by
    intro v out hv ho k
    induction k with
    | zero => intro _; rfl
    | succ k ih =>
      intro hk
      have hk' : k < out.length := by omega
      have e1 : (L out).getD k default = ofV out[k] := by simp [L, hk']
      have e2 : out.getD k (0, 0) = out[k] := by simp [hk']
      unfold posR pos
      rw [e1, e2]
      show (if decide (cmp (ofV v) (ofV out[k]) < 0) = true then _ else _) = _
      rw [hc v out[k] hv (ho _ (List.getElem_mem _)), ih (by omega)]
  have hins : ∀ (v : V) (out : List V), stepV v → (∀ u ∈ out, stepV u) → insR (fun a b => decide (cmp a b < 0)) (ofV v) (L out) = L (ins v out) := by
    intro v out hv ho
    unfold insR ins
    rw [hpos v out hv ho _ (by rw [L_length]; exact Nat.le_refl _), L_length, L_take, L_drop]
    simp [L]
  have key : ∀ (q out : List V), (∀ v ∈ q, stepV v) → (∀ u ∈ out, stepV u) → (L q).foldl (fun out x => insR (fun a b => decide (cmp a b < 0)) x out) (L out) = L (q.foldl (fun out v => ins v out) out) := by
    intro q
    induction q with
    | nil => intro out _ _; rfl
    | cons v t ih =>
      intro out hq ho
      show (L t).foldl _ (insR _ (ofV v) (L out)) = _
      rw [hins v out (hq v (by simp)) ho, List.foldl_cons]
      refine ih _ (fun u hu => hq u (by simp [hu])) (fun u hu => ?_)
      rcases List.mem_cons.1 ((ins_perm v out).mem_iff.1 hu) with rfl | hu
      · exact hq _ (by simp)
      · exact ho u hu
  exact key q [] hq (fun u hu => by cases hu)

theorem impl_OrderSorted_ev {q : List V} (h : Path q) : Ev (fun k => impl_OrderSorted.f k (L q)) (L (srt q), true) := by
  unfold impl_OrderSorted.f
  have hq := h.hi
  have h3 := h.lo
  refine Ev.bind (impl_PathIn_ev _ (by rw [L_length]; omega)) ?_
  rw [pathB_L h]
  refine ev_pos rfl (Ev.bind (copySteps_ev q (by omega)) (ev_pos ⟨by rw [L_length]; omega, by rw [L_length]; omega, ?_⟩ ?_))
  · intro a ha b hb
    obtain ⟨u, hu, rfl⟩ := List.mem_map.1 ha
    obtain ⟨v, hv, rfl⟩ := List.mem_map.1 hb
    obtain ⟨n, hn, _⟩ := impl_compare_lt (h.st u hu) (h.st v hv)
    rw [hn]; rfl
  · rw [isort_L impl_OrderSorted.cmp (fun a b ha hb => by
      obtain ⟨n, hn, e⟩ := impl_compare_lt ha hb
      unfold impl_OrderSorted.cmp
      rw [hn]; exact e) h.st]
    exact ev_some _
theorem sx_take {q : List V} {i : Nat} (h : i < q.length) : sx (q.take (i + 1)) = sx (q.take i) + q[i].1 := by
  rw [List.take_succ_eq_append_getElem h, sx_append]; simp [sx]
theorem sy_take {q : List V} {i : Nat} (h : i < q.length) : sy (q.take (i + 1)) = sy (q.take i) + q[i].2 := by
  rw [List.take_succ_eq_append_getElem h, sy_append]; simp [sy]
theorem st_bound {q : List V} (h : Path q) (i : Nat) : (-72 ≤ sx (q.take i) ∧ sx (q.take i) ≤ 72) ∧ -72 ≤ sy (q.take i) ∧ sy (q.take i) ≤ 72 := by
  have hx := sx_bound (take_mem h.st i)
  have hy := sy_bound (take_mem h.st i)
  have hl : ((q.take i).length : Int) ≤ 8 := by have := h.hi; simp; omega
  omega
/-- The corners of a path. -/
def corn (q : List V) : List V := (List.range q.length).map fun i => (sx (q.take i), sy (q.take i))
theorem A_take {q : List V} {i : Nat} (h : i < q.length) : A (q.take (i + 1)) = A (q.take i) + (sx (q.take i) * q[i].2 - sy (q.take i) * q[i].1) := by
  rw [List.take_succ_eq_append_getElem h, A_snoc]
theorem A_tb {q : List V} (h : Path q) (i : Nat) : -10368 ≤ A (q.take i) ∧ A (q.take i) ≤ 10368 := by
  have hl : (q.take i).length ≤ 8 := by have := h.hi; simp; omega
  have := A_bound (take_mem h.st i) 8 hl
  have h2 : ((q.take i).length : Int) ≤ 8 := by omega
  omega
theorem impl_areaOf_ev {q : List V} (h : Path q) : Ev (fun k => impl_areaOf.f k (L q)) (A q) := by
  unfold impl_areaOf.f
  have hq := h.hi
  have key := ev_count (fun k i => impl_areaOf.l0 k (A (q.take i)) (sx (q.take i)) (sy (q.take i)) (L q) ((L q).length : Int) (i : Int)) (fun _ => A q) q.length ?_ ?_ 0 (by omega)
  · exact key
  · refine ev_step ?_
    simp only [impl_areaOf.l0]
    refine ev_neg (by rw [lenL]; omega) ?_
    rw [List.take_length]
    exact ev_some _
  · intro i hi ih
    have hv := h.st q[i] (List.getElem_mem _)
    simp only [stepV] at hv
    have hb := st_bound h i
    have ha := A_tb h (i + 1)
    rw [A_take hi] at ih ha
    rw [sx_take hi, sy_take hi] at ih
    refine ev_step ?_
    simp only [impl_areaOf.l0]
    rw [rdl_L hi, len_ofV, rd0, rd1, w64_succ (by omega), w64 (x := sx (q.take i) + q[i].1) (by omega), w64 (x := sy (q.take i) + q[i].2) (by omega)]
    simp only [w_sub_l, w_sub_r, w_add_r]
    have e : A (q.take i) + (sx (q.take i) * (sy (q.take i) + q[i].2) - sy (q.take i) * (sx (q.take i) + q[i].1)) = A (q.take i) + (sx (q.take i) * q[i].2 - sy (q.take i) * q[i].1) := by grind
    rw [e, w64 (by omega)]
    exact ev_pos (by rw [lenL]; omega) (ev_pos (by omega) (ev_pos (by rw [lenL]; omega) (ev_pos (by decide) (ev_pos (by decide) ih))))

theorem impl_PathArea_ev {q : List V} (h : Path q) : Ev (fun k => impl_PathArea.f k (L q)) (A q, true) := by
  unfold impl_PathArea.f
  have hq := h.hi
  refine Ev.bind (impl_PathIn_ev _ (by rw [L_length]; omega)) ?_
  rw [pathB_L h]
  exact ev_pos rfl (Ev.bind (impl_areaOf_ev h) (ev_some _))
theorem open_eq (l : List Int) : ∃ b, spec_l6Open.f l = some (b, 0) ∧ b.length ≤ 2000 ∧ ∀ x ∈ b, x ∈ l := by
  unfold spec_l6Open.f
  by_cases h : (l.length : Int) > 2000
  · refine ⟨l.take 2000, by rw [if_pos h, if_pos (by omega)], by simp; omega, fun x hx => List.mem_of_mem_take hx⟩
  · exact ⟨l, by rw [if_neg h], by omega, fun x hx => hx⟩
theorem u8_range {l : List Int} (h : ∀ x ∈ l, (Lit.int .u8 x).wf = true) : ∀ x ∈ l, 0 ≤ x ∧ x ≤ 255 := by
  intro x hx
  have := h x hx
  have h0 : IntKind.u8.min = 0 := rfl
  have h1 : IntKind.u8.max = 255 := rfl
  simp [Lit.wf, h0, h1] at this
  omega

/-- A draw: a number from 0 to n-1 (0 where n is less than 1), the place goes on by one. -/
theorem pick_ev (b : List Int) (p n : Int) (hp : 0 ≤ p ∧ p ≤ 1000000000) (hb : b.length ≤ 2000) (hx : ∀ x ∈ b, 0 ≤ x ∧ x ≤ 255) (hn : -1000000 ≤ n ∧ n ≤ 1000000) :
    ∃ r, Ev (fun k => spec_l6Rd_pick.f k b p n) (r, p + 1) ∧ 0 ≤ r ∧ (1 ≤ n → r < n) ∧ (n < 1 → r = 0) := by
  have e1 : wrap64 (p + 1) = p + 1 := w64 (by omega)
  have e2 : wrap64 (p + 1 - 1) = p := by rw [show p + 1 - 1 = p from by omega]; exact w64 (by omega)
  have hrd : ∀ i : Int, 0 ≤ i → i < b.length → 0 ≤ rd b i ∧ rd b i ≤ 255 := by
    intro i h0 h1
    obtain ⟨j, rfl⟩ := Int.eq_ofNat_of_zero_le h0
    rw [rd_get (by omega)]
    exact hx _ (List.getElem_mem _)
  unfold spec_l6Rd_pick.f
  rw [e1]
  by_cases h1 : n < 1
  · refine ⟨0, ev_pos h1 ?_, by omega, by omega, fun _ => rfl⟩
    refine ev_step ?_
    simp only [spec_l6Rd_pick.j0]
    exact ev_pos (by trivial) (ev_some _)
  · by_cases h2 : b.length = 0
    · refine ⟨0, ev_neg h1 ?_, by omega, by omega, fun _ => rfl⟩
      refine ev_step ?_
      simp only [spec_l6Rd_pick.j0]
      refine ev_pos ?_ (ev_some _)
      rw [h2]; rfl
    · by_cases h3 : p < b.length
      · have hr := hrd p hp.1 h3
        refine ⟨Int.tmod (wrap64 (rd b p)) n, ev_neg h1 ?_, ?_, ?_, by omega⟩
        · refine ev_step ?_
          simp only [spec_l6Rd_pick.j0, e2]
          refine ev_neg ?_ (ev_pos h3 (ev_pos hp.1 (ev_neg (by omega) (ev_some _))))
          simpa using h2
        · rw [w64 (by omega)]; exact Int.tmod_nonneg _ hr.1
        · intro _; rw [w64 (by omega)]; exact Int.tmod_lt_of_pos _ (by omega)
      · have hL : (0 : Int) < b.length := by omega
        have q0 : 0 ≤ Int.tmod p b.length := Int.tmod_nonneg _ hp.1
        have q1 : Int.tmod p b.length < b.length := Int.tmod_lt_of_pos _ hL
        have e3 : wrap64 (p * 7) = p * 7 := w64 (by omega)
        have e4 : wrap64 (p * 7 + 3) = p * 7 + 3 := w64 (by omega)
        have s0 : 0 ≤ Int.tmod (p * 7 + 3) b.length := Int.tmod_nonneg _ (by omega)
        have s1 : Int.tmod (p * 7 + 3) b.length < b.length := Int.tmod_lt_of_pos _ hL
        have hu := hrd _ q0 q1
        have hv := hrd _ s0 s1
        have hd0 : 0 ≤ Int.tdiv p b.length := Int.tdiv_nonneg hp.1 (by omega)
        have hd1 : Int.tdiv p b.length ≤ p := by
          rw [Int.tdiv_eq_ediv_of_nonneg hp.1]
          exact Int.ediv_le_self _ hp.1
        generalize hu' : rd b (Int.tmod p b.length) = u at hu
        generalize hv' : rd b (Int.tmod (p * 7 + 3) b.length) = v at hv
        generalize hd' : Int.tdiv p b.length = d at hd0 hd1
        obtain ⟨X, hX, hX0, hX1⟩ : ∃ X : Int, wrap64 (wrap64 (wrap64 (wrap64 (wrap64 u * 131) + wrap64 (wrap64 v * 1117)) + wrap64 (p * 29)) + wrap64 (wrap64 d * 53)) = X ∧ 0 ≤ X ∧ X < 4611686018427387904 := by
          refine ⟨u * 131 + v * 1117 + p * 29 + d * 53, ?_, by omega, by omega⟩
          rw [w64 (x := u) (by omega), w64 (x := u * 131) (by omega), w64 (x := v) (by omega), w64 (x := v * 1117) (by omega), w64 (x := d) (by omega), w64 (x := d * 53) (by omega), w64 (x := p * 29) (by omega),
            w64 (x := u * 131 + v * 1117) (by omega), w64 (x := u * 131 + v * 1117 + p * 29) (by omega), w64 (by omega)]
        have hY0 : 0 ≤ Int.tdiv X 64 := Int.tdiv_nonneg hX0 (by omega)
        have hY1 : Int.tdiv X 64 < 4611686018427387904 := by
          rw [Int.tdiv_eq_ediv_of_nonneg hX0]; omega
        have eY : wrap64 (Int.tdiv X 64) = Int.tdiv X 64 := w64 (by omega)
        have hz : 0 ≤ Go.bits .xor .i64 X (Int.tdiv X 64) := xor_nonneg hX0 (by omega) hY0 (by omega)
        refine ⟨Int.tmod (Go.bits .xor .i64 X (Int.tdiv X 64)) n, ev_neg h1 ?_, ?_, ?_, by omega⟩
        · refine ev_step ?_
          simp only [spec_l6Rd_pick.j0, e2, e3, e4, hu', hv', hd', hX, eY]
          refine ev_neg ?_ (ev_neg h3 (ev_neg (by omega) (ev_pos q0 (ev_pos q1 (ev_pos s0 (ev_pos s1 (ev_neg (by omega) (ev_some _))))))))
          simpa using h2
        · exact Int.tmod_nonneg _ hz
        · intro _; exact Int.tmod_lt_of_pos _ (by omega)

theorem l92Step_ev (b : List Int) (hb : b.length ≤ 2000) (hx : ∀ x ∈ b, 0 ≤ x ∧ x ≤ 255) (p m : Int) (hp : 0 ≤ p ∧ p ≤ 1000) (hm : 0 ≤ m ∧ m ≤ 9) :
    ∃ v : V, Ev (fun k => spec_l92Step.f k b p m) (ofV v, p + 1 + 1) ∧ (-m ≤ v.1 ∧ v.1 ≤ max m 1) ∧ -m ≤ v.2 ∧ v.2 ≤ m := by
  have e : wrap64 (wrap64 (2 * m) + 1) = 2 * m + 1 := by rw [w64 (x := 2 * m) (by omega), w64 (by omega)]
  obtain ⟨r, hr, h0, h1, _⟩ := pick_ev b p (2 * m + 1) (by omega) hb hx (by omega)
  obtain ⟨s, hs, k0, k1, _⟩ := pick_ev b (p + 1) (2 * m + 1) (by omega) hb hx (by omega)
  have h1 := h1 (by omega)
  have k1 := k1 (by omega)
  have e1 : wrap64 (r - m) = r - m := w64 (by omega)
  have e2 : wrap64 (s - m) = s - m := w64 (by omega)
  unfold spec_l92Step.f
  rw [e]
  by_cases c : r - m = 0
  · by_cases d : s - m = 0
    · refine ⟨(1, s - m), Ev.bind hr (Ev.bind hs ?_), by omega, by omega⟩
      simp only [e1, e2]
      exact ev_pos c (ev_pos d (ev_some _))
    · refine ⟨(r - m, s - m), Ev.bind hr (Ev.bind hs ?_), by omega, by omega⟩
      simp only [e1, e2]
      exact ev_pos c (ev_neg d (ev_some _))
  · refine ⟨(r - m, s - m), Ev.bind hr (Ev.bind hs ?_), by omega, by omega⟩
    simp only [e1, e2]
    exact ev_neg c (ev_some _)

theorem sorted_inner {q : List V} (hq : ∀ v ∈ q, b9 v) (hl : q.length ≤ 1048576) {i : Nat} (hi : i < q.length) (out : List V) (ho : ∀ v ∈ out, b9 v) (hol : out.length = i) (r : List (List Int))
    (hk : Ev (fun k => spec_l7Sorted.l0 k (L q) (L (ins q[i] out)) ((i + 1 : Nat) : Int)) r) :
    ∀ k : Nat, k ≤ out.length → pos q[i] out k = pos q[i] out out.length → Ev (fun n => spec_l7Sorted.l1 n (L q) (L out) (i : Int) (k : Int)) r := by
  have put : ∀ k : Nat, k ≤ out.length → k = pos q[i] out out.length → Ev (fun n => (if 0 < (([q[i].1, q[i].2] : List Int).length : Int) then (if 1 < (([q[i].1, q[i].2] : List Int).length : Int) then ((some ([] : List (List Int))).bind fun y => (if 0 ≤ (k : Int) then (if (k : Int) ≤ ((L out).length : Int) then ((some ((L out).take (k : Int).toNat)).bind fun y2 => (if y.length + y2.length < 5864062014805 then ((some (y ++ y2)).bind fun y3 => ((some [[rd [q[i].1, q[i].2] 0, rd [q[i].1, q[i].2] 1]]).bind fun y4 => (if y3.length + y4.length < 5864062014805 then ((some (y3 ++ y4)).bind fun y5 => ((some ((L out).drop (k : Int).toNat)).bind fun y6 => (if y5.length + y6.length < 5864062014805 then spec_l7Sorted.l0 n (L q) (y5 ++ y6) ((i + 1 : Nat) : Int) else none))) else none))) else none)) else none) else none)) else none) else none)) r := by
    intro k hk1 hkp
    have h2 : (([q[i].1, q[i].2] : List Int).length : Int) = 2 := rfl
    refine ev_pos (by rw [h2]; decide) (ev_pos (by rw [h2]; decide) ?_)
    simp only [Option.bind_some]
    refine ev_pos (by omega) (ev_pos (by rw [lenL]; omega) ?_)
    refine ev_pos (by simp [L]; omega) (ev_pos (by simp [L]; omega) (ev_pos (by simp [L]; omega) ?_))
    have e : ([] ++ (L out).take (k : Int).toNat ++ [[rd [q[i].1, q[i].2] 0, rd [q[i].1, q[i].2] 1]]) ++ (L out).drop (k : Int).toNat = L (ins q[i] out) := by
      rw [Int.toNat_natCast, List.nil_append, L_take, L_drop, hkp]
      unfold ins
      rw [← L_append, ← L_append]; rfl
    rw [e]
    exact hk
  intro k
  induction k with
  | zero =>
    intro _ hp
    refine ev_step ?_
    simp only [spec_l7Sorted.l1]
    refine ev_neg (by omega) (ev_pos (by omega) (ev_pos (by rw [lenL]; omega) ?_))
    rw [rdl_L hi, w64_succ (by omega)]
    exact put 0 (by omega) (by rw [← hp]; rfl)
  | succ k ih =>
    intro hkl hp
    refine ev_step ?_
    simp only [spec_l7Sorted.l1]
    have ek : wrap64 (((k + 1 : Nat) : Int) - 1) = (k : Int) := by rw [w64 (by omega)]; omega
    rw [ek]
    refine ev_pos (by omega) (ev_pos (by omega) (ev_pos (by rw [lenL]; omega) (ev_pos (by omega) (ev_pos (by rw [lenL]; omega) ?_))))
    rw [rdl_L hi, rdl_L (show k < out.length by omega), spec_before_eq (hq _ (List.getElem_mem _)) (ho _ (List.getElem_mem _))]
    simp only [Option.bind_some]
    have eg : out.getD k (0, 0) = out[k]'(by omega) := by simp [show k < out.length by omega]
    rw [pos_succ, eg] at hp
    by_cases c : before q[i] (out[k]'(by omega)) = true
    · rw [if_pos c] at hp
      exact ev_pos c (ih (by omega) hp)
    · rw [if_neg c] at hp
      refine ev_neg c ?_
      rw [w64_succ (by omega)]
      exact put (k + 1) hkl hp
theorem spec_sorted_ev {q : List V} (hq : ∀ v ∈ q, b9 v) (hl : q.length ≤ 1048576) : Ev (fun k => spec_l7Sorted.f k (L q)) (L (srt q)) := by
  unfold spec_l7Sorted.f
  have key := ev_count (fun k i => spec_l7Sorted.l0 k (L q) (L (srt (q.take i))) (i : Int)) (fun _ => L (srt q)) q.length ?_ ?_ 0 (by omega)
  · exact key
  · refine ev_step ?_
    simp only [spec_l7Sorted.l0]
    refine ev_neg (by rw [lenL]; omega) ?_
    rw [List.take_length]
    exact ev_some _
  · intro i hi ih
    refine ev_step ?_
    simp only [spec_l7Sorted.l0]
    refine ev_pos (by rw [lenL]; omega) ?_
    rw [lenL]
    rw [srt_take hi] at ih
    refine sorted_inner hq hl hi (srt (q.take i)) (fun v hv => hq v (List.mem_of_mem_take (srt_mem.1 hv))) (by rw [srt_length]; simp; omega) _ ih _ (Nat.le_refl _) rfl

theorem l92Path_end (b : List Int) (hb : b.length ≤ 2000) (hx : ∀ x ∈ b, 0 ≤ x ∧ x ≤ 255) (q : List V) (hq : ∀ v ∈ q, b9 v) (hl : 1 ≤ q.length ∧ q.length ≤ 20) (p : Int) (hp : 0 ≤ p ∧ p ≤ 1000) :
    ∃ (t : List V) (c : Int), Ev (fun k => spec_l92Path.j3 k (L q) b p) (L t, c) ∧ t.length ≤ q.length + 1 ∧ (∀ v ∈ t, b9 v) ∧ 0 ≤ c ∧ c ≤ p + 1 := by
  obtain ⟨r, hr, _⟩ := pick_ev b p 40 (by omega) hb hx (by omega)
  by_cases c0 : r = 0
  · refine ⟨q ++ [(1, 0)], p + 1, ev_step ?_, by simp, ?_, by omega, by omega⟩
    · simp only [spec_l92Path.j3]
      refine Ev.bind hr (ev_pos c0 (ev_pos (by rw [L_length]; omega) ?_))
      have : L q ++ [[1, 0]] = L (q ++ [(1, 0)]) := by rw [← L_append]; rfl
      rw [this]
      exact ev_some _
    · intro v hv
      rcases List.mem_append.1 hv with hv | hv
      · exact hq v hv
      · obtain rfl := List.mem_singleton.1 hv
        unfold b9; decide
  · by_cases c1 : r = 1
    · refine ⟨q.drop 1, p + 1, ev_step ?_, by simp; omega, fun v hv => hq v (List.mem_of_mem_drop hv), by omega, by omega⟩
      simp only [spec_l92Path.j3]
      refine Ev.bind hr (ev_neg c0 (ev_pos c1 (ev_pos (by rw [lenL]; omega) ?_)))
      have : (L q).drop (1 : Int).toNat = L (q.drop 1) := L_drop q 1
      rw [this]
      exact ev_some _
    · refine ⟨q, p + 1, ev_step ?_, by omega, hq, by omega, by omega⟩
      simp only [spec_l92Path.j3]
      exact Ev.bind hr (ev_neg c0 (ev_neg c1 (ev_some _)))
theorem l92Path_shut (b : List Int) (hb : b.length ≤ 2000) (hx : ∀ x ∈ b, 0 ≤ x ∧ x ≤ 255) (q : List V) (hq : ∀ v ∈ q, b9 v) (hl : q.length ≤ 15) (x y : Int) (hxy : (-9 ≤ x ∧ x ≤ 9) ∧ -9 ≤ y ∧ y ≤ 9) (p : Int) (hp : 0 ≤ p ∧ p ≤ 900) :
    ∃ (t : List V) (c : Int), Ev (fun k => spec_l92Path.j2 k (L q) x y b p) (L t, c) ∧ t.length ≤ q.length + 2 ∧ (∀ v ∈ t, b9 v) ∧ 0 ≤ c ∧ c ≤ p + 2 := by
  obtain ⟨r, hr, _⟩ := pick_ev b p 2 (by omega) hb hx (by omega)
  have hq2 : ∀ v ∈ q ++ [(-x, -y)], b9 v := by
    intro v hv
    rcases List.mem_append.1 hv with hv | hv
    · exact hq v hv
    · obtain rfl := List.mem_singleton.1 hv
      unfold b9; dsimp only; omega
  have e : L q ++ [[-x, -y]] = L (q ++ [(-x, -y)]) := by rw [← L_append]; rfl
  by_cases c0 : r = 0
  · obtain ⟨t, c, ht, h1, h2, h3, h4⟩ := l92Path_end b hb hx (srt (q ++ [(-x, -y)])) (fun v hv => hq2 v (srt_mem.1 hv)) (by rw [srt_length]; simp; omega) (p + 1) (by omega)
    rw [srt_length, List.length_append, List.length_singleton] at h1
    refine ⟨t, c, ev_step ?_, by omega, h2, h3, by omega⟩
    simp only [spec_l92Path.j2]
    rw [w64 (by omega), w64 (by omega), e]
    refine ev_pos (by rw [L_length]; omega) ?_
    simp only [Option.bind_some]
    exact Ev.bind hr (ev_pos c0 (Ev.bind (spec_sorted_ev hq2 (by simp; omega)) ht))
  · obtain ⟨t, c, ht, h1, h2, h3, h4⟩ := l92Path_end b hb hx (q ++ [(-x, -y)]) hq2 (by simp; omega) (p + 1) (by omega)
    rw [List.length_append, List.length_singleton] at h1
    refine ⟨t, c, ev_step ?_, by omega, h2, h3, by omega⟩
    simp only [spec_l92Path.j2]
    rw [w64 (by omega), w64 (by omega), e]
    refine ev_pos (by rw [L_length]; omega) ?_
    simp only [Option.bind_some]
    exact Ev.bind hr (ev_neg c0 ht)
theorem l92Path_choose (b : List Int) (hb : b.length ≤ 2000) (hx : ∀ x ∈ b, 0 ≤ x ∧ x ≤ 255) (q : List V) (hq : ∀ v ∈ q, b9 v) (hl : q.length ≤ 15) (x y : Int) (f : Bool) (hf : f = false → (-9 ≤ x ∧ x ≤ 9) ∧ -9 ≤ y ∧ y ≤ 9) (p : Int) (hp : 0 ≤ p ∧ p ≤ 900) :
    ∃ (t : List V) (c : Int), Ev (fun k => spec_l92Path.j1 k (L q) x y f b p) (L t, c) ∧ t.length ≤ max q.length 2 + 2 ∧ (∀ v ∈ t, b9 v) ∧ 0 ≤ c ∧ c ≤ p + 2 := by
  cases f with
  | true =>
    obtain ⟨t, c, ht, h1, h2⟩ := l92Path_shut b hb hx [(2, 1), (-1, 2)] (by intro v hv; rcases List.mem_cons.1 hv with rfl | hv; · unfold b9; decide
                                                                            · obtain rfl := List.mem_singleton.1 hv
                                                                              unfold b9; decide) (by decide) 1 3 (by omega) p hp
    refine ⟨t, c, ev_step ?_, by simp only [List.length_cons, List.length_nil] at h1; omega, h2⟩
    simp only [spec_l92Path.j1]
    exact ev_pos (by trivial) ht
  | false =>
    obtain ⟨t, c, ht, h1, h2⟩ := l92Path_shut b hb hx q hq hl x y (hf rfl) p hp
    refine ⟨t, c, ev_step ?_, by omega, h2⟩
    simp only [spec_l92Path.j1]
    exact ev_neg (by simp) ht
theorem l92Path_loop (b : List Int) (hb : b.length ≤ 2000) (hx : ∀ x ∈ b, 0 ≤ x ∧ x ≤ 255) (n : Nat) (hn : n ≤ 15) (d : Nat) : ∀ (i : Nat) (q : List V) (x y p : Int), i + d = n → q.length = i → (∀ v ∈ q, b9 v) → (-(3 * (i : Int)) ≤ x ∧ x ≤ 3 * i) → (-(3 * (i : Int)) ≤ y ∧ y ≤ 3 * i) → 0 ≤ p ∧ p ≤ 100 + 2 * i →
    ∃ (t : List V) (c : Int), Ev (fun k => spec_l92Path.l0 k (n : Int) (L q) x y (i : Int) b p) (L t, c) ∧ t.length ≤ max n 2 + 2 ∧ (∀ v ∈ t, b9 v) ∧ 0 ≤ c ∧ c ≤ 200 := by
  induction d with
  | zero =>
    intro i q x y p hi hl hq hxx hyy hp
    have ex : wrap64 (-x) = -x := w64 (by omega)
    have ey : wrap64 (-y) = -y := w64 (by omega)
    have run : ∀ f : Bool, (f = false → (-9 ≤ x ∧ x ≤ 9) ∧ -9 ≤ y ∧ y ≤ 9) → Ev (fun k => spec_l92Path.l0 (k + 1) (n : Int) (L q) x y (i : Int) b p) = Ev (fun k => spec_l92Path.j1 k (L q) x y f b p) →
        ∃ (t : List V) (c : Int), Ev (fun k => spec_l92Path.l0 k (n : Int) (L q) x y (i : Int) b p) (L t, c) ∧ t.length ≤ max n 2 + 2 ∧ (∀ v ∈ t, b9 v) ∧ 0 ≤ c ∧ c ≤ 200 := by
      intro f hf he
      obtain ⟨t, c, ht, h1, h2, h3, h4⟩ := l92Path_choose b hb hx q hq (by omega) x y f hf p (by omega)
      exact ⟨t, c, ev_step (by rw [he]; exact ht), by omega, h2, h3, by omega⟩
    by_cases c1 : mx x (-x) > 9
    · refine run true (by simp) ?_
      simp only [spec_l92Path.l0, ex, ey]
      simp only [if_neg (show ¬ ((i : Int) < (n : Int)) by omega), if_pos c1]
    · by_cases c2 : mx y (-y) > 9
      · refine run true (by simp) ?_
        simp only [spec_l92Path.l0, ex, ey]
        simp only [if_neg (show ¬ ((i : Int) < (n : Int)) by omega), if_neg c1, if_pos c2]
      · rw [mx_eq] at c1 c2
        by_cases c3 : x = 0
        · refine run (y == 0) (fun _ => by omega) ?_
          simp only [spec_l92Path.l0, ex, ey, mx_eq]
          simp only [if_neg (show ¬ ((i : Int) < (n : Int)) by omega), if_neg c1, if_neg c2, if_pos c3]
        · refine run false (fun _ => by omega) ?_
          simp only [spec_l92Path.l0, ex, ey, mx_eq]
          simp only [if_neg (show ¬ ((i : Int) < (n : Int)) by omega), if_neg c1, if_neg c2, if_neg c3]
  | succ d ih =>
    intro i q x y p hi hl hq hxx hyy hp
    obtain ⟨v, hv, v1, v2⟩ := l92Step_ev b hb hx p 3 (by omega) (by omega)
    obtain ⟨t, c, ht, h1⟩ := ih (i + 1) (q ++ [v]) (x + v.1) (y + v.2) (p + 1 + 1) (by omega) (by simp; omega) (by
      intro u hu
      rcases List.mem_append.1 hu with hu | hu
      · exact hq u hu
      · obtain rfl := List.mem_singleton.1 hu
        unfold b9; omega) (by omega) (by omega) (by omega)
    refine ⟨t, c, ev_step ?_, h1⟩
    simp only [spec_l92Path.l0]
    refine ev_pos (by omega) (Ev.bind hv (ev_pos (by rw [L_length]; omega) (ev_pos (by rw [len_ofV]; decide) (ev_pos (by rw [len_ofV]; decide) ?_))))
    have e : L q ++ [ofV v] = L (q ++ [v]) := by rw [← L_append]; rfl
    rw [rd0, rd1, w64 (by omega), w64 (by omega), w64_succ (by omega), e]
    exact ht
theorem l92Path_ev (b : List Int) (hb : b.length ≤ 2000) (hx : ∀ x ∈ b, 0 ≤ x ∧ x ≤ 255) (p m : Int) (hp : 0 ≤ p ∧ p ≤ 50) (hm : 3 ≤ m ∧ m ≤ 9) :
    ∃ (t : List V) (c : Int), Ev (fun k => spec_l92Path.f k b p m) (L t, c) ∧ (t.length : Int) ≤ m + 2 ∧ (∀ v ∈ t, b9 v) ∧ 0 ≤ c ∧ c ≤ 200 := by
  obtain ⟨r, hr, h0, h1, _⟩ := pick_ev b p (m - 2) (by omega) hb hx (by omega)
  have h1 := h1 (by omega)
  obtain ⟨n, hn⟩ := Int.eq_ofNat_of_zero_le (show 0 ≤ 2 + r by omega)
  obtain ⟨t, c, ht, h2, h3⟩ := l92Path_loop b hb hx n (by omega) n 0 [] 0 0 (p + 1) (by omega) rfl (fun v hv => by cases hv) (by omega) (by omega) (by omega)
  refine ⟨t, c, ?_, by omega, h3⟩
  unfold spec_l92Path.f
  rw [w64 (x := m - 2) (by omega)]
  refine Ev.bind hr ?_
  simp only []
  rw [w64 (by omega), hn]
  exact ht
theorem FnFewest : laws_FnFewest.Pure := by
  intro l _ _ hw
  refine Ev.rounds ?_
  unfold laws_FnFewest.f
  by_cases h : (l.length : Int) > 1048576
  · exact ev_pos h (ev_some _)
  · refine ev_neg h ?_
    obtain ⟨b, hb, hbl, hbm⟩ := open_eq l
    have hx : ∀ x ∈ b, 0 ≤ x ∧ x ≤ 255 := fun x hx => u8_range hw x (hbm x hx)
    obtain ⟨r1, p1, r0, rlt, _⟩ := pick_ev b 0 12 (by omega) hbl hx (by omega)
    have rlt := rlt (by omega)
    have hd : 0 ≤ Int.tdiv r1 11 ∧ Int.tdiv r1 11 ≤ 1 := by rw [Int.tdiv_eq_ediv_of_nonneg r0]; omega
    have hm : wrap64 (4 + wrap64 (wrap64 (Int.tdiv r1 11) * 2)) = 4 + Int.tdiv r1 11 * 2 := by
      rw [w64 (x := Int.tdiv r1 11) (by omega), w64 (x := Int.tdiv r1 11 * 2) (by omega), w64 (by omega)]
    obtain ⟨t, c, ht, hl, _, _⟩ := l92Path_ev b hbl hx (0 + 1) (4 + Int.tdiv r1 11 * 2) (by omega) (by omega)
    refine Ev.bind (a := L t) (by unfold spec_DrawOrderFewest.f; exact Ev.bind (ev_of_eq hb) (Ev.bind p1 (by dsimp only; rw [hm]; exact Ev.bind ht (ev_some _)))) ?_
    have hL : (L t).length ≤ 1048576 := by rw [L_length]; omega
    have no : ∀ R : Int × Bool, R.2 = false → Ev (fun k => laws_FnFewest.j0 k (L t) R.1 R.2 R.1 R.2 (!R.2)) true := by
      intro R hR
      refine ev_step ?_
      simp only [laws_FnFewest.j0]
      rw [hR]
      exact ev_pos rfl (ev_pos rfl (by simpa using ev_some _))
    by_cases c5 : pathB (L t) = true ∧ (L t).length ≤ 5
    · obtain ⟨q, hq, hP⟩ := path_of c5.1
      have h5 : q.length ≤ 5 := by have := c5.2; rw [hq, L_length] at this; exact this
      obtain ⟨R, hR⟩ := known h5
      have e1 := impl_OrderFewest_ev hP h5 hR
      have e2 := spec_OrderFewest_ev hP h5 hR
      rw [← hq] at e1 e2
      refine Ev.bind e1 (Ev.bind e2 (ev_neg (by simp) (ev_pos rfl ?_)))
      cases hR2 : R.2 with
      | false => have := no R hR2; rw [hR2] at this; exact this
      | true =>
        have hS : Path (srt q) := path_perm hP (srt_perm q)
        obtain ⟨x, hxq, hxc⟩ := hR.some (Inv.start q) hR2
        have hXP : Path x := path_perm hP hxq
        have hA : 0 < A (srt q) := by
          have h1 := cvx_A hXP hxc
          have h2 := A_le_srt hXP
          rw [A_srt hXP, Sm_perm hxq, ← A_srt hP] at h2
          omega
        have hlo := hP.lo
        have hfew := (hR.few hxq (by omega) hxc).2
        have hz := hR.zero hR2
        refine ev_step ?_
        simp only [laws_FnFewest.j0]
        rw [hq]
        refine ev_neg (by decide) (Ev.bind (impl_OrderSorted_ev hP) (Ev.bind (impl_PathArea_ev hS) (ev_pos rfl (ev_pos rfl (ev_pos hA (Ev.bind (impl_PathConvex_ev hP) (ev_pos ?_ ?_)))))))
        · rw [beq_iff_eq, Bool.eq_iff_iff, beq_iff_eq]
          exact hz
        · rw [lenL, decide_eq_true hfew]
          exact ev_some _
    · have := no (0, false) rfl
      refine Ev.bind (impl_OrderFewest_no hL c5) (Ev.bind (spec_OrderFewest_no hL c5) (ev_neg (by simp) (ev_pos rfl this)))

end Go.Proofs.Ytdjddfeokpmfaaa.Pure
