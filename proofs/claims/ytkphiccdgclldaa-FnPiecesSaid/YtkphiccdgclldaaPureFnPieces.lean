/- Promise 68 of the given program: pieces are at most as many as pairs of steps, and zonogons are convex just if they have pieces (for every code that draws a star). -/
import Derived.Test.YtkphiccdgclldaaPFnPiecesx6
import Derived.Test.YtkphiccdgclldaaBase
import Derived.Test.YtkphiccdgclldaaPth
import Derived.Test.YtkphiccdgclldaaSrt
import Derived.Test.YtkphiccdgclldaaCvx
import Derived.Test.YtkphiccdgclldaaIso
import Derived.Test.YtkphiccdgclldaaStar
import Derived.Test.YtkphiccdgclldaaHRaw
import Derived.Test.YtkphiccdgclldaaHSrt
import Derived.Test.YtkphiccdgclldaaZon
namespace Go.Proofs.Ytkphiccdgclldaa.Pure
open Go.RowKit Go.Proofs.Ytkphiccdgclldaa.PFnPieces Go.Proofs.YtkphiccdgclldaaW.PrintWords Go.Proofs.YtkphiccdgclldaaW.PrintLast Go.Proofs.YtkphiccdgclldaaW.PrintMore Go.Proofs.Ytkphiccdgclldaa.Base Go.Proofs.Ytkphiccdgclldaa.Pth Go.Proofs.Ytkphiccdgclldaa.Srt Go.Proofs.Ytkphiccdgclldaa.Cvx Go.Proofs.Ytkphiccdgclldaa.Iso Go.Proofs.Ytkphiccdgclldaa.Star Go.Proofs.Ytkphiccdgclldaa.HRaw Go.Proofs.Ytkphiccdgclldaa.HSrt Go.Proofs.Ytkphiccdgclldaa.Zon
set_option linter.unusedVariables false
set_option linter.unusedSimpArgs false
theorem rdl_get {p : List (List Int)} {i : Nat} (h : i < p.length) : rd_L1 p (i : Int) = p[i] := by unfold rd_L1; rw [Int.toNat_natCast]; simp [h]
theorem rdl_L {q : List V} {i : Nat} (h : i < q.length) : rd_L1 (L q) (i : Int) = ofV q[i] := by
  rw [rdl_get (by rw [L_length]; exact h)]; simp [L]
theorem rd0 (v : V) : rd (ofV v) 0 = v.1 := rfl
theorem rd1 (v : V) : rd (ofV v) 1 = v.2 := rfl
theorem len_ofV (v : V) : ((ofV v).length : Int) = 2 := rfl
theorem lenL (q : List V) : ((L q).length : Int) = (q.length : Int) := by rw [L_length]

theorem impl_isStep_eq (s : List Int) : impl_isStep.f s = some (stepB s) := by
  match s with
  | [] => rfl
  | [_] => rfl
  | [x, y] =>
    unfold impl_isStep.f
    have h0 : rd [x, y] 0 = x := rfl
    have h1 : rd [x, y] 1 = y := rfl
    have hl : ([x, y].length : Int) = 2 := rfl
    rw [h0, h1, hl, if_pos rfl, if_pos (by decide)]
    rw [stepB_two]
    by_cases a : x ≥ -9
    · rw [if_pos a]
      by_cases b : x ≤ 9
      · rw [if_pos b, if_pos (by decide)]
        by_cases c : y ≥ -9
        · rw [if_pos c]
          by_cases d : y ≤ 9
          · rw [if_pos d]
            by_cases e : x = 0
            · rw [if_pos e]
              by_cases f : y = 0
              · subst e f; rfl
              · have : (y != 0) = true := by simpa using f
                rw [this, decide_eq_true (by omega)]
            · rw [if_neg e, decide_eq_true (by omega)]
          · rw [if_neg d, decide_eq_false (by omega)]
        · rw [if_neg c, decide_eq_false (by omega)]
      · rw [if_neg b, decide_eq_false (by omega)]
    · rw [if_neg a, decide_eq_false (by omega)]
  | a :: b :: c :: t =>
    unfold impl_isStep.f
    rw [if_neg (by simp; omega)]; rfl

theorem impl_isStar_ev (p : List (List Int)) (h : p.length ≤ 1048576) : Ev (fun k => impl_isStar.f k p) (starB p) := by
  unfold impl_isStar.f
  have key := ev_count (fun k i => impl_isStar.l0 k p p (p.length : Int) (i : Int)) (fun i => (p.drop i).all stepB && decide (2 ≤ p.length) && decide (p.length ≤ 4)) p.length ?_ ?_ 0 (by omega)
  · exact key
  · refine ev_step ?_
    simp only [impl_isStar.l0]
    refine ev_neg (by omega) ?_
    rw [List.drop_length]
    by_cases c : (p.length : Int) ≥ 2
    · refine ev_pos c ?_
      rw [decide_eq_true (show 2 ≤ p.length by omega), show decide ((p.length : Int) ≤ 4) = decide (p.length ≤ 4) from decide_eq_decide.2 (by omega)]
      simpa using ev_some _
    · refine ev_neg c ?_
      rw [decide_eq_false (show ¬ 2 ≤ p.length by omega)]
      simpa using ev_some _
  · intro i hi ih
    refine ev_step ?_
    simp only [impl_isStar.l0]
    refine ev_pos (by omega) (ev_pos (by omega) (ev_pos (by omega) ?_))
    rw [rdl_get hi, impl_isStep_eq, drop_cons hi, List.all_cons]
    simp only [Option.bind_some]
    by_cases hs : stepB p[i] = true
    · refine ev_pos hs ?_
      rw [w64_succ (by omega), hs, Bool.true_and]
      exact ih
    · refine ev_neg hs ?_
      rw [Bool.eq_false_iff.2 hs]
      simpa using ev_some _

theorem L_take (q : List V) (n : Nat) : (L q).take n = L (q.take n) := by simp [L]
theorem L_drop (q : List V) (n : Nat) : (L q).drop n = L (q.drop n) := by simp [L]
theorem L_append (a b : List V) : L a ++ L b = L (a ++ b) := by simp [L]
theorem L_snoc (q : List V) (v : V) : L q ++ [ofV v] = L (q ++ [v]) := by simp [L]

theorem impl_crossS_eq {a b : V} (ha : stepV a) (hb : stepV b) : impl_cross.f (ofV a) (ofV b) = some (cr a b) := by
  have h := cr_bound ha hb
  unfold cr at h
  unfold impl_cross.f cr
  rw [len_ofV, len_ofV, if_pos (by decide), if_pos (by decide), if_pos (by decide), if_pos (by decide), rd0, rd0, rd1, rd1]
  simp only [w_sub_l, w_sub_r]
  rw [w64 (by omega)]

theorem impl_ZonoPieces_ev {q : List V} (h : Star q) : Ev (fun k => impl_ZonoPieces.f k (L q)) (PS nz q, true) := by
  have hq := h.hi
  unfold impl_ZonoPieces.f
  refine Ev.bind (impl_isStar_ev _ (by rw [L_length]; omega)) ?_
  rw [starB_L h]
  refine ev_pos rfl ?_
  have key := ev_count (fun k i => impl_ZonoPieces.l0 k (L q) (PS nz (q.take i)) (L q) ((L q).length : Int) (i : Int)) (fun _ => (PS nz q, true)) q.length ?_ ?_ 0 (by omega)
  · exact key
  · refine ev_step ?_
    simp only [impl_ZonoPieces.l0]
    refine ev_neg (by rw [lenL]; omega) ?_
    rw [List.take_length]
    exact ev_some _
  · intro i hi ih
    refine ev_step ?_
    simp only [impl_ZonoPieces.l0]
    refine ev_pos (by rw [lenL]; omega) (ev_pos (by omega) (ev_pos (by rw [lenL]; omega) (ev_pos (by rw [lenL]; omega) ?_)))
    rw [rdl_L hi, Int.toNat_natCast, L_take]
    simp only [Option.bind_some]
    have hil : (q.take i).length = i := by simp; omega
    have key2 := ev_count (fun k j => impl_ZonoPieces.l1 k (L q) (PS nz (q.take i) + RS nz q[i] (q.take j)) (ofV q[i]) (L q) ((L q).length : Int) (i : Int) (L (q.take i)) ((L (q.take i)).length : Int) (j : Int)) (fun _ => (PS nz q, true)) i ?_ ?_ 0 (by omega)
    · have e0 : RS nz q[i] (q.take 0) = 0 := rfl
      simp only [e0, Int.add_zero] at key2
      exact key2
    · refine ev_step ?_
      simp only [impl_ZonoPieces.l1]
      refine ev_neg (by rw [lenL, hil]; omega) ?_
      rw [PS_take _ hi] at ih
      rw [w64_succ (by omega)]
      exact ih
    · intro j hj ih2
      have hjq : j < q.length := by omega
      have ha := pieces_bound h i
      have hr := prow_bound h i (j + 1) hi
      have hjl : j < (q.take i).length := by omega
      have ej : (q.take i)[j] = q[j] := by simp
      rw [RS_take nz q[i] hjq] at ih2 hr
      refine ev_step ?_
      simp only [impl_ZonoPieces.l1]
      refine ev_pos (by rw [lenL, hil]; omega) (ev_pos (by omega) (ev_pos (by rw [lenL, hil]; omega) ?_))
      rw [rdl_L hjl, ej, impl_crossS_eq (h.st q[i] (List.getElem_mem _)) (h.st q[j] (List.getElem_mem _))]
      simp only [Option.bind_some]
      rw [w64_succ (by omega)]
      by_cases c : cr q[i] q[j] = 0
      · have en : nz q[i] q[j] = 0 := by unfold nz; rw [if_pos c]
        rw [en, Int.add_zero] at ih2
        exact ev_pos c ih2
      · have en : nz q[i] q[j] = 1 := by unfold nz; rw [if_neg c]
        rw [en] at ih2 hr
        rw [w64 (by omega), Int.add_assoc]
        exact ev_neg c ih2
theorem impl_ZonoPieces_no {p : List (List Int)} (hl : p.length ≤ 1048576) (h : starB p = false) : Ev (fun k => impl_ZonoPieces.f k p) (0, false) := by
  unfold impl_ZonoPieces.f
  refine Ev.bind (impl_isStar_ev p hl) ?_
  rw [h]
  exact ev_neg (by decide) (ev_some _)

theorem spec_l6In_eq' (a b c : Int) : spec_l6In.f a b c = some (decide (b ≤ a ∧ a ≤ c)) := by
  unfold spec_l6In.f
  by_cases h : a ≥ b
  · rw [if_pos h]; simp; intro _; exact h
  · rw [if_neg h]; simp; omega
theorem spec_l6sStep_eq (s : List Int) : spec_l6sStep.f s = some (stepB s) := by
  match s with
  | [] => rfl
  | [_] => rfl
  | [x, y] =>
    unfold spec_l6sStep.f
    have h0 : rd [x, y] 0 = x := rfl
    have h1 : rd [x, y] 1 = y := rfl
    have hl : ([x, y].length : Int) = 2 := rfl
    rw [h0, h1, hl, if_pos rfl, if_pos (by decide), spec_l6In_eq', spec_l6In_eq']
    simp only [Option.bind_some]
    rw [stepB_two]
    by_cases b : -9 ≤ x ∧ x ≤ 9
    · rw [if_pos (by simpa using b), if_pos (by decide)]
      by_cases d : -9 ≤ y ∧ y ≤ 9
      · rw [if_pos (by simpa using d)]
        by_cases e : x = 0
        · rw [if_pos e]
          by_cases f : y = 0
          · subst e f; rfl
          · have : (y != 0) = true := by simpa using f
            rw [this, decide_eq_true (by omega)]
        · rw [if_neg e, decide_eq_true (by omega)]
      · rw [if_neg (by simpa using d), decide_eq_false (by omega)]
    · rw [if_neg (by simpa using b), decide_eq_false (by omega)]
  | a :: b :: c :: t =>
    unfold spec_l6sStep.f
    rw [if_neg (by simp; omega)]; rfl

theorem spec_l7Star_ev (p : List (List Int)) (h : p.length ≤ 1048576) : Ev (fun k => spec_l7Star.f k p) (starB p) := by
  unfold spec_l7Star.f
  have key := ev_count (fun k i => spec_l7Star.l0 k p (i : Int)) (fun i => (p.drop i).all stepB && decide (2 ≤ p.length) && decide (p.length ≤ 4)) p.length ?_ ?_ 0 (by omega)
  · exact key
  · refine ev_step ?_
    simp only [spec_l7Star.l0]
    refine ev_neg (by omega) ?_
    rw [List.drop_length, spec_l6In_eq']
    simp only [Option.bind_some]
    have e : decide ((2 : Int) ≤ p.length ∧ (p.length : Int) ≤ 4) = (decide (2 ≤ p.length) && decide (p.length ≤ 4)) := by
      rw [← Bool.decide_and]; exact decide_eq_decide.2 (by omega)
    rw [e]
    simpa using ev_some _
  · intro i hi ih
    refine ev_step ?_
    simp only [spec_l7Star.l0]
    refine ev_pos (by omega) (ev_pos (by omega) ?_)
    rw [rdl_get hi, spec_l6sStep_eq, drop_cons hi, List.all_cons]
    simp only [Option.bind_some]
    by_cases hs : stepB p[i] = true
    · refine ev_pos hs ?_
      rw [w64_succ (by omega), hs, Bool.true_and]
      exact ih
    · refine ev_neg hs ?_
      rw [Bool.eq_false_iff.2 hs]
      simpa using ev_some _

theorem spec_l6sCross_eq {a b : V} (ha : stepV a) (hb : stepV b) : spec_l6sCross.f (ofV a) (ofV b) = some (cr a b) := by
  have h := cr_bound ha hb
  unfold cr at h
  unfold spec_l6sCross.f cr
  rw [len_ofV, len_ofV, if_pos (by decide), if_pos (by decide), if_pos (by decide), if_pos (by decide), rd0, rd0, rd1, rd1]
  simp only [w_sub_l, w_sub_r]
  rw [w64 (by omega)]

theorem spec_ZonoPieces_ev {q : List V} (h : Star q) : Ev (fun k => spec_ZonoPieces.f k (L q)) (PS nz q, true) := by
  have hq := h.hi
  unfold spec_ZonoPieces.f
  refine Ev.bind (spec_l7Star_ev _ (by rw [L_length]; omega)) ?_
  rw [starB_L h]
  refine ev_pos rfl (Ev.bind (a := PS nz q) ?_ (ev_some _))
  unfold spec_l7Pieces.f
  have key := ev_count (fun k i => spec_l7Pieces.l0 k (L q) (PS nz (q.take i)) (i : Int)) (fun _ => PS nz q) q.length ?_ ?_ 0 (by omega)
  · exact key
  · refine ev_step ?_
    simp only [spec_l7Pieces.l0]
    refine ev_neg (by rw [lenL]; omega) ?_
    rw [List.take_length]
    exact ev_some _
  · intro i hi ih
    refine ev_step ?_
    simp only [spec_l7Pieces.l0]
    refine ev_pos (by rw [lenL]; omega) ?_
    have key2 := ev_count (fun k j => spec_l7Pieces.l1 k (L q) (PS nz (q.take i) + RS nz q[i] (q.take j)) (i : Int) (j : Int)) (fun _ => PS nz q) i ?_ ?_ 0 (by omega)
    · have e0 : RS nz q[i] (q.take 0) = 0 := rfl
      simp only [e0, Int.add_zero] at key2
      exact key2
    · refine ev_step ?_
      simp only [spec_l7Pieces.l1]
      refine ev_neg (by omega) ?_
      rw [PS_take _ hi] at ih
      rw [w64_succ (by omega)]
      exact ih
    · intro j hj ih2
      have hjq : j < q.length := by omega
      have ha := pieces_bound h i
      have hr := prow_bound h i (j + 1) hi
      rw [RS_take nz q[i] hjq] at ih2 hr
      refine ev_step ?_
      simp only [spec_l7Pieces.l1]
      refine ev_pos (by omega) (ev_pos (by omega) (ev_pos (by rw [lenL]; omega) (ev_pos (by omega) (ev_pos (by rw [lenL]; omega) ?_))))
      rw [rdl_L hi, rdl_L hjq, spec_l6sCross_eq (h.st q[i] (List.getElem_mem _)) (h.st q[j] (List.getElem_mem _))]
      simp only [Option.bind_some]
      rw [w64_succ (by omega)]
      by_cases c : cr q[i] q[j] = 0
      · have en : nz q[i] q[j] = 0 := by unfold nz; rw [if_pos c]
        rw [en, Int.add_zero] at ih2
        exact ev_pos c ih2
      · have en : nz q[i] q[j] = 1 := by unfold nz; rw [if_neg c]
        rw [en] at ih2 hr
        rw [w64 (by omega), Int.add_assoc]
        exact ev_neg c ih2
theorem spec_ZonoPieces_no {p : List (List Int)} (hl : p.length ≤ 1048576) (h : starB p = false) : Ev (fun k => spec_ZonoPieces.f k p) (0, false) := by
  unfold spec_ZonoPieces.f
  refine Ev.bind (spec_l7Star_ev p hl) ?_
  rw [h]
  exact ev_neg (by decide) (ev_some _)

theorem gx_take {p : List (List Int)} {i : Nat} (h : i < p.length) : gx (p.take (i + 1)) = gx (p.take i) + p[i].getD 0 0 := by
  unfold gx; rw [List.take_succ_eq_append_getElem h, List.map_append, List.sum_append]
  simp only [List.map_cons, List.map_nil, List.sum_cons, List.sum_nil, Int.add_zero]
theorem gy_take {p : List (List Int)} {i : Nat} (h : i < p.length) : gy (p.take (i + 1)) = gy (p.take i) + p[i].getD 1 0 := by
  unfold gy; rw [List.take_succ_eq_append_getElem h, List.map_append, List.sum_append]
  simp only [List.map_cons, List.map_nil, List.sum_cons, List.sum_nil, Int.add_zero]
theorem g_bound {p : List (List Int)} (h : p.all stepB = true) : (-(9 * (p.length : Int)) ≤ gx p ∧ gx p ≤ 9 * p.length) ∧ -(9 * (p.length : Int)) ≤ gy p ∧ gy p ≤ 9 * p.length := by
  obtain ⟨q, rfl, hq⟩ := all_steps p h
  rw [gx_L, gy_L, L_length]
  exact ⟨sx_bound hq, sy_bound hq⟩
theorem all_take {p : List (List Int)} {i : Nat} (h : i < p.length) (ha : (p.take i).all stepB = true) (hs : stepB p[i] = true) : (p.take (i + 1)).all stepB = true := by
  rw [List.take_succ_eq_append_getElem h, List.all_append, ha]; simp [hs]
theorem impl_PathIn_loop (p : List (List Int)) (h : p.length ≤ 1048576) : Ev (fun k => impl_PathIn.l0 k 0 0 p (p.length : Int) 0) (p.all stepB && decide (gx p = 0) && decide (gy p = 0)) := by
  have key := down (fun i => (p.take i).all stepB = true → Ev (fun k => impl_PathIn.l0 k (gx (p.take i)) (gy (p.take i)) p (p.length : Int) (i : Int)) ((p.drop i).all stepB && decide (gx p = 0) && decide (gy p = 0))) p.length ?_ ?_ 0 (by omega)
  · exact key rfl
  · intro _
    refine ev_step ?_
    simp only [impl_PathIn.l0]
    refine ev_neg (by omega) ?_
    rw [List.take_length, List.drop_length]
    by_cases c : gx p = 0
    · refine ev_pos c ?_
      rw [c]
      have : (gy p == 0) = decide (gy p = 0) := rfl
      rw [this]
      simpa using ev_some _
    · refine ev_neg c ?_
      rw [decide_eq_false c]
      simpa using ev_some _
  · intro i hi ih ha
    refine ev_step ?_
    simp only [impl_PathIn.l0]
    refine ev_pos (by omega) (ev_pos (by omega) (ev_pos (by omega) ?_))
    rw [rdl_get hi, impl_isStep_eq, drop_cons hi, List.all_cons]
    simp only [Option.bind_some]
    by_cases hs : stepB p[i] = true
    · refine ev_pos hs ?_
      have ha' := all_take hi ha hs
      have ih' := ih ha'
      have hb := g_bound ha'
      rw [gx_take hi, gy_take hi] at ih' hb
      obtain ⟨v, hv, hsv⟩ := stepB_of _ hs
      rw [hv] at ih' hb ⊢
      refine ev_pos (by rw [len_ofV]; decide) (ev_pos (by rw [len_ofV]; decide) ?_)
      have hlen : ((p.take (i + 1)).length : Int) ≤ 1048576 := by simp; omega
      rw [w64_succ (by omega), rd0, rd1]
      have e0 : (ofV v).getD 0 0 = v.1 := rfl
      have e1 : (ofV v).getD 1 0 = v.2 := rfl
      rw [e0, e1] at ih' hb
      rw [w64 (by omega), w64 (by omega), (stepB_ofV v).2 hsv, Bool.true_and]
      exact ih'
    · refine ev_neg hs ?_
      rw [Bool.eq_false_iff.2 hs]
      simpa using ev_some _
theorem impl_PathIn_ev (p : List (List Int)) (h : p.length ≤ 1048576) : Ev (fun k => impl_PathIn.f k p) (pathB p) := by
  unfold impl_PathIn.f pathB
  by_cases c : (p.length : Int) < 3
  · refine ev_pos c (ev_step ?_)
    simp only [impl_PathIn.j0]
    refine ev_pos (by trivial) ?_
    rw [decide_eq_false (by omega)]
    simpa using ev_some _
  · refine ev_neg c (ev_step ?_)
    simp only [impl_PathIn.j0]
    by_cases d : (p.length : Int) > 8
    · refine ev_pos (by simpa using d) ?_
      rw [decide_eq_false (p := p.length ≤ 8) (by omega)]
      simpa using ev_some _
    · refine ev_neg (by simpa using d) ?_
      rw [decide_eq_true (by omega), decide_eq_true (by omega)]
      simpa using impl_PathIn_loop p h

def b9 (v : V) : Prop := -9 ≤ v.1 ∧ v.1 ≤ 9 ∧ -9 ≤ v.2 ∧ v.2 ≤ 9
theorem cr_bound {a b : V} (ha : b9 a) (hb : b9 b) : -162 ≤ cr a b ∧ cr a b ≤ 162 := by
  unfold b9 at ha hb
  have h1 := mul9 (x := a.1) (v := b.2) (M := 9) ⟨ha.1, ha.2.1⟩ ⟨hb.2.2.1, hb.2.2.2⟩
  have h2 := mul9 (x := a.2) (v := b.1) (M := 9) ⟨ha.2.2.1, ha.2.2.2⟩ ⟨hb.1, hb.2.1⟩
  unfold cr; omega

theorem b9_of {q : List V} (h : Path q) : ∀ v ∈ q, b9 v := fun v hv => by
  have := h.st v hv
  simp only [stepV] at this
  unfold b9; omega
theorem impl_cross_eq {a b : V} (ha : b9 a) (hb : b9 b) : impl_cross.f (ofV a) (ofV b) = some (cr a b) := by
  unfold impl_cross.f
  rw [len_ofV, len_ofV, if_pos (by decide), if_pos (by decide), if_pos (by decide), if_pos (by decide), rd0, rd0, rd1, rd1]
  simp only [w_sub_l, w_sub_r]
  have := cr_bound ha hb
  unfold cr at this ⊢
  rw [w64 (by omega)]
theorem impl_lower_eq {a : V} (h : stepV a) : impl_lower.f (ofV a) = some (decide (half a = 1)) := by
  unfold impl_lower.f half
  simp only [stepV] at h
  rw [len_ofV, rd0, rd1, if_pos (by decide)]
  by_cases c : a.2 < 0
  · rw [if_pos c, if_neg (by omega), if_neg (by omega)]; rfl
  · rw [if_neg c]
    by_cases d : a.2 = 0
    · rw [if_pos d, if_pos (by decide), if_neg (by omega)]
      by_cases e : a.1 > 0
      · rw [if_pos ⟨d, e⟩, decide_eq_false (by omega)]; rfl
      · rw [if_neg (fun h => e h.2), decide_eq_true (by omega)]; rfl
    · rw [if_neg d, if_pos (by omega)]; rfl
theorem half01 (a : V) : half a = 0 ∨ half a = 1 := by
  unfold half
  split
  · exact Or.inl rfl
  · split
    · exact Or.inl rfl
    · exact Or.inr rfl
theorem impl_compare_ev {a b : V} (ha : stepV a) (hb : stepV b) : ∃ n, impl_compareSteps.f (ofV a) (ofV b) = some n ∧ (decide (n > 0) = desc a b) ∧ -1 ≤ n ∧ n ≤ 1 := by
  unfold impl_compareSteps.f
  rw [impl_lower_eq ha, impl_lower_eq hb, impl_cross_eq (by simp only [stepV] at ha; unfold b9; omega) (by simp only [stepV] at hb; unfold b9; omega)]
  simp only [Option.bind_some]
  unfold desc before
  rcases half01 a with h0 | h0 <;> rcases half01 b with h1 | h1 <;> rw [h0, h1]
  · rw [if_neg (by decide), if_pos rfl]
    have e : cr b a = -cr a b := by unfold cr; grind
    rw [e]
    by_cases c : cr a b > 0
    · exact ⟨-1, by rw [if_pos c], by rw [decide_eq_false (by omega), decide_eq_false (by omega)], by omega⟩
    · by_cases d : cr a b < 0
      · exact ⟨1, by rw [if_neg c, if_pos d], by rw [decide_eq_true (by omega), decide_eq_true (by omega)], by omega⟩
      · exact ⟨0, by rw [if_neg c, if_neg d], by rw [decide_eq_false (by omega), decide_eq_false (by omega)], by omega⟩
  · exact ⟨-1, by simp, by simp, by omega⟩
  · exact ⟨1, by simp, by simp, by omega⟩
  · rw [if_neg (by decide), if_pos rfl]
    have e : cr b a = -cr a b := by unfold cr; grind
    rw [e]
    by_cases c : cr a b > 0
    · exact ⟨-1, by rw [if_pos c], by rw [decide_eq_false (by omega), decide_eq_false (by omega)], by omega⟩
    · by_cases d : cr a b < 0
      · exact ⟨1, by rw [if_neg c, if_pos d], by rw [decide_eq_true (by omega), decide_eq_true (by omega)], by omega⟩
      · exact ⟨0, by rw [if_neg c, if_neg d], by rw [decide_eq_false (by omega), decide_eq_false (by omega)], by omega⟩

theorem impl_compare_lt {a b : V} (ha : stepV a) (hb : stepV b) : ∃ n, impl_compareSteps.f (ofV a) (ofV b) = some n ∧ decide (n < 0) = before a b := by
  unfold impl_compareSteps.f
  rw [impl_lower_eq ha, impl_lower_eq hb, impl_cross_eq (by simp only [stepV] at ha; unfold b9; omega) (by simp only [stepV] at hb; unfold b9; omega)]
  simp only [Option.bind_some]
  unfold before
  rcases half01 a with h0 | h0 <;> rcases half01 b with h1 | h1 <;> rw [h0, h1]
  · rw [if_neg (by decide), if_pos rfl]
    by_cases c : cr a b > 0
    · exact ⟨-1, by rw [if_pos c], by rw [decide_eq_true (by omega), decide_eq_true (by omega)]⟩
    · by_cases d : cr a b < 0
      · exact ⟨1, by rw [if_neg c, if_pos d], by rw [decide_eq_false (by omega), decide_eq_false (by omega)]⟩
      · exact ⟨0, by rw [if_neg c, if_neg d], by rw [decide_eq_false (by omega), decide_eq_false (by omega)]⟩
  · exact ⟨-1, by simp, by simp⟩
  · exact ⟨1, by simp, by simp⟩
  · rw [if_neg (by decide), if_pos rfl]
    by_cases c : cr a b > 0
    · exact ⟨-1, by rw [if_pos c], by rw [decide_eq_true (by omega), decide_eq_true (by omega)]⟩
    · by_cases d : cr a b < 0
      · exact ⟨1, by rw [if_neg c, if_pos d], by rw [decide_eq_false (by omega), decide_eq_false (by omega)]⟩
      · exact ⟨0, by rw [if_neg c, if_neg d], by rw [decide_eq_false (by omega), decide_eq_false (by omega)]⟩
theorem isort_L (cmp : List Int → List Int → Int) (hc : ∀ a b : V, stepV a → stepV b → decide (cmp (ofV a) (ofV b) < 0) = before a b) {q : List V} (hq : ∀ v ∈ q, stepV v) : isort (fun a b => decide (cmp a b < 0)) (L q) = L (srt q) := by
  have hpos : ∀ (v : V) (out : List V), stepV v → (∀ u ∈ out, stepV u) → ∀ k, k ≤ out.length → posR (fun a b => decide (cmp a b < 0)) (ofV v) (L out) k = pos v out k := by
    intro v out hv ho k
    induction k with
    | zero => intro _; rfl
    | succ k ih =>
      intro hk
      have hk' : k < out.length := by omega
      have e1 : (L out).getD k default = ofV out[k] := by simp [L, hk']
      have e2 : out.getD k (0, 0) = out[k] := by simp [hk']
      unfold posR pos
      rw [e1, e2]
      show (if decide (cmp (ofV v) (ofV out[k]) < 0) = true then _ else _) = _
      rw [hc v out[k] hv (ho _ (List.getElem_mem _)), ih (by omega)]
  have hins : ∀ (v : V) (out : List V), stepV v → (∀ u ∈ out, stepV u) → insR (fun a b => decide (cmp a b < 0)) (ofV v) (L out) = L (ins v out) := by
    intro v out hv ho
    unfold insR ins
    rw [hpos v out hv ho _ (by rw [L_length]; exact Nat.le_refl _), L_length, L_take, L_drop]
    simp [L]
  have key : ∀ (q out : List V), (∀ v ∈ q, stepV v) → (∀ u ∈ out, stepV u) → (L q).foldl (fun out x => insR (fun a b => decide (cmp a b < 0)) x out) (L out) = L (q.foldl (fun out v => ins v out) out) := by
    intro q
    induction q with
    | nil => intro out _ _; rfl
    | cons v t ih =>
      intro out hq ho
      show (L t).foldl _ (insR _ (ofV v) (L out)) = _
      rw [hins v out (hq v (by simp)) ho, List.foldl_cons]
      refine ih _ (fun u hu => hq u (by simp [hu])) (fun u hu => ?_)
      rcases List.mem_cons.1 ((ins_perm v out).mem_iff.1 hu) with rfl | hu
      · exact hq _ (by simp)
      · exact ho u hu
  exact key q [] hq (fun u hu => by cases hu)

theorem clone_int_eq (l : List Int) (h : l.length ≤ 1048576) : slices_Clone_int_int_86.f l = some l := by
  unfold slices_Clone_int_int_86.f
  simp only [Option.bind_some]
  rw [if_pos (by simp; omega)]; rfl
theorem copySteps_ev (q : List V) (hl : q.length ≤ 1048576) : Ev (fun k => impl_copySteps.f k (L q)) (L q) := by
  unfold impl_copySteps.f
  have key := ev_count (fun k i => impl_copySteps.l0 k (L (q.take i)) (L q) ((L q).length : Int) (i : Int)) (fun _ => L q) q.length ?_ ?_ 0 (by omega)
  · exact key
  · refine ev_step ?_
    simp only [impl_copySteps.l0]
    refine ev_neg (by rw [lenL]; omega) ?_
    rw [List.take_length]
    exact ev_some _
  · intro i hi ih
    refine ev_step ?_
    simp only [impl_copySteps.l0]
    rw [rdl_L hi, clone_int_eq (ofV q[i]) (show 2 ≤ 1048576 from by decide), w64_succ (by omega)]
    simp only [Option.bind_some]
    have e : L (q.take i) ++ [ofV q[i]] = L (q.take (i + 1)) := by rw [List.take_succ_eq_append_getElem hi, ← L_snoc]
    rw [e]
    exact ev_pos (by rw [lenL]; omega) (ev_pos (by omega) (ev_pos (by rw [lenL]; omega) (ev_pos (by simp [L]; omega) ih)))

theorem dn_L {v : V} (h : stepV v) : impl_zonogon.dn (ofV v) = ofV (neg v) := by
  unfold impl_zonogon.dn
  simp only [stepV] at h
  rw [rd0, rd1, w64 (by omega), w64 (by omega)]; rfl
theorem up_L {v : V} (h : stepV v) : impl_zonogon.up (ofV v) = ofV (upV v) := by
  unfold impl_zonogon.up
  rw [impl_lower_eq h, dn_L h]
  unfold upV
  by_cases c : half v = 1
  · rw [if_pos c, decide_eq_true c]; rfl
  · rw [if_neg c, decide_eq_false c]; rfl
theorem so_L {q : List V} (h : ∀ v ∈ q, stepV v) : impl_zonogon.so (L q) = L (zs q) := by
  unfold impl_zonogon.so
  have e : (L q).map impl_zonogon.up = L (q.map upV) := by
    unfold L
    rw [List.map_map, List.map_map]
    exact List.map_congr_left (fun v hv => up_L (h v hv))
  rw [e]
  exact isort_L impl_zonogon.cmp (fun a b ha hb => by
      obtain ⟨n, hn, e⟩ := impl_compare_lt ha hb
      unfold impl_zonogon.cmp
      rw [hn]; exact e) (fun v hv => by
      obtain ⟨u, hu, rfl⟩ := List.mem_map.1 hv
      exact (step_up (h u hu)).1)
theorem dn_zs {q : List V} (h : ∀ v ∈ q, stepV v) : (L (zs q)).map impl_zonogon.dn = L ((zs q).map neg) := by
  unfold L
  rw [List.map_map, List.map_map]
  exact List.map_congr_left (fun v hv => dn_L (zs_mem h v hv).1)
theorem impl_zonogon_ev {q : List V} (h : Star q) : Ev (fun k => impl_zonogon.f k (L q)) (L (zono q)) := by
  unfold impl_zonogon.f
  have hq := h.hi
  have h3 := h.lo
  refine Ev.bind (copySteps_ev q (by omega)) (ev_pos ⟨⟨by rw [L_length]; omega, by rw [L_length]; omega⟩, ?_, ?_⟩ ?_)
  · intro s hs
    obtain ⟨v, hv, rfl⟩ := List.mem_map.1 hs
    rw [impl_lower_eq (h.st v hv)]
    exact ⟨rfl, rfl⟩
  · have key : ∀ a ∈ (L q).map impl_zonogon.up, ∃ v, stepV v ∧ ofV v = a := by
      intro a ha
      obtain ⟨s, hs, rfl⟩ := List.mem_map.1 ha
      obtain ⟨v, hv, rfl⟩ := List.mem_map.1 hs
      exact ⟨upV v, (step_up (h.st v hv)).1, (up_L (h.st v hv)).symm⟩
    intro a ha b hb
    obtain ⟨u, hu, rfl⟩ := key a ha
    obtain ⟨v, hv, rfl⟩ := key b hb
    obtain ⟨n, hn, _⟩ := impl_compare_lt hu hv
    rw [hn]; rfl
  · rw [so_L h.st, dn_zs h.st]
    have : L (zs q) ++ L ((zs q).map neg) = L (zono q) := by rw [L_append]; rfl
    rw [this]
    exact ev_some _

theorem impl_ZonoPath_ev {q : List V} (h : Star q) : Ev (fun k => impl_ZonoPath.f k (L q)) (L (zono q), true) := by
  unfold impl_ZonoPath.f
  have hq := h.hi
  refine Ev.bind (impl_isStar_ev _ (by rw [L_length]; omega)) ?_
  rw [starB_L h]
  exact ev_pos rfl (Ev.bind (impl_zonogon_ev h) (ev_some _))
theorem impl_ZonoPath_no {p : List (List Int)} (hl : p.length ≤ 1048576) (h : starB p = false) : Ev (fun k => impl_ZonoPath.f k p) ([], false) := by
  unfold impl_ZonoPath.f
  refine Ev.bind (impl_isStar_ev p hl) ?_
  rw [h]
  exact ev_neg (by decide) (ev_some _)

theorem dot_bound {a b : V} (ha : b9 a) (hb : b9 b) : -162 ≤ dot a b ∧ dot a b ≤ 162 := by
  unfold b9 at ha hb
  have h1 := mul9 (x := a.1) (v := b.1) (M := 9) ⟨ha.1, ha.2.1⟩ ⟨hb.1, hb.2.1⟩
  have h2 := mul9 (x := a.2) (v := b.2) (M := 9) ⟨ha.2.2.1, ha.2.2.2⟩ ⟨hb.2.2.1, hb.2.2.2⟩
  unfold dot; omega
theorem dot_wrap {a b : V} (ha : b9 a) (hb : b9 b) : wrap64 (wrap64 (a.1 * b.1) + wrap64 (a.2 * b.2)) = dot a b := by
  have := dot_bound ha hb
  simp only [w_add_l, w_add_r]
  unfold dot at this ⊢
  rw [w64 (by omega)]
theorem cnt_take {q : List V} {i : Nat} (h : i < q.length) : (((prs q).take (i + 1)).countP dsc : Nat) = ((prs q).take i).countP dsc + if desc q[i] (q[(i + 1) % q.length]'(Nat.mod_lt _ (by omega))) = true then 1 else 0 := by
  rw [List.take_succ_eq_append_getElem (by rw [prs_length]; exact h), List.countP_append, prs_get h]
  simp only [List.countP_cons, List.countP_nil, Nat.zero_add]
  rfl
theorem cnt_le (q : List V) (i : Nat) : ((prs q).take i).countP dsc ≤ q.length := by
  have := List.countP_le_length (p := dsc) (l := (prs q).take i)
  have h2 := prs_length q
  simp at this
  omega
theorem prs_drop {q : List V} {i : Nat} (h : i < q.length) : ((prs q).drop i).all good = (!bad q[i] (q[(i + 1) % q.length]'(Nat.mod_lt _ (by omega))) && ((prs q).drop (i + 1)).all good) := by
  rw [drop_cons (by rw [prs_length]; exact h), List.all_cons, prs_get h]; rfl
theorem impl_convex_ev {q : List V} (h : Path q) : Ev (fun k => impl_convex.f k (L q)) (cvx q) := by
  unfold impl_convex.f cvx
  have hq := h.hi
  have h3 := h.lo
  have key := ev_count (fun k i => impl_convex.l0 k (L q) ((((prs q).take i).countP dsc : Nat) : Int) (L q) ((L q).length : Int) (i : Int)) (fun i => ((prs q).drop i).all good && decide ((prs q).countP dsc = 1)) q.length ?_ ?_ 0 (by omega)
  · exact key
  · refine ev_step ?_
    simp only [impl_convex.l0]
    refine ev_neg (by rw [lenL]; omega) ?_
    rw [List.take_of_length_le (by rw [prs_length]; omega), List.drop_of_length_le (by rw [prs_length]; omega)]
    have e : ((((prs q).countP dsc : Nat) : Int) == 1) = decide ((prs q).countP dsc = 1) := by
      rw [Bool.eq_iff_iff]; simp; omega
    rw [e]
    simpa using ev_some _
  · intro i hi ih
    have hm : (i + 1) % q.length < q.length := Nat.mod_lt _ (by omega)
    have em : Int.tmod (wrap64 ((i : Int) + 1)) ((L q).length : Int) = (((i + 1) % q.length : Nat) : Int) := by
      rw [w64_succ (by omega), lenL, ← Int.ofNat_tmod]
    have ba := b9_of h q[i] (List.getElem_mem _)
    have bb := b9_of h q[(i + 1) % q.length] (List.getElem_mem _)
    have sa := h.st q[i] (List.getElem_mem _)
    have sb := h.st q[(i + 1) % q.length] (List.getElem_mem _)
    obtain ⟨n, hn, hd, hn1, hn2⟩ := impl_compare_ev sa sb
    have hc := cnt_le q i
    have hct := cnt_take hi
    have cont : bad q[i] q[(i + 1) % q.length] = false → Ev (fun k => impl_convex.j1 k (L q) ((((prs q).take i).countP dsc : Nat) : Int) (ofV q[i]) (ofV q[(i + 1) % q.length]) (L q) ((L q).length : Int) (i : Int) false) (((prs q).drop i).all good && decide ((prs q).countP dsc = 1)) := by
      intro hb
      refine ev_step ?_
      simp only [impl_convex.j1]
      refine ev_neg (by simp) ?_
      rw [hn, prs_drop hi, hb, w64_succ (i := i) (by omega)]
      simp only [Option.bind_some, Bool.not_false, Bool.true_and]
      by_cases hz : desc q[i] q[(i + 1) % q.length] = true
      · rw [hz] at hd
        refine ev_pos (by simpa using hd) ?_
        rw [if_pos hz] at hct
        rw [w64_succ (i := ((prs q).take i).countP dsc) (by omega)]
        rw [hct] at ih
        exact ih
      · rw [Bool.eq_false_iff.2 hz] at hd
        refine ev_neg (by simpa using hd) ?_
        rw [if_neg hz, Nat.add_zero] at hct
        rw [hct] at ih
        exact ih
    have stop : bad q[i] q[(i + 1) % q.length] = true → Ev (fun k => impl_convex.j1 k (L q) ((((prs q).take i).countP dsc : Nat) : Int) (ofV q[i]) (ofV q[(i + 1) % q.length]) (L q) ((L q).length : Int) (i : Int) true) (((prs q).drop i).all good && decide ((prs q).countP dsc = 1)) := by
      intro hb
      refine ev_step ?_
      simp only [impl_convex.j1]
      refine ev_pos (by trivial) ?_
      rw [prs_drop hi, hb]
      simpa using ev_some _
    refine ev_step ?_
    simp only [impl_convex.l0]
    rw [em, rdl_L hi, rdl_L hm, impl_cross_eq ba bb, len_ofV, len_ofV, rd0, rd0, rd1, rd1, dot_wrap ba bb]
    simp only [Option.bind_some]
    refine ev_pos (by rw [lenL]; omega) (ev_pos (by omega) (ev_pos (by rw [lenL]; omega) (ev_neg (by rw [lenL]; omega) (ev_pos (by omega) (ev_pos (by rw [lenL]; omega) ?_)))))
    by_cases c1 : cr q[i] q[(i + 1) % q.length] < 0
    · exact ev_pos c1 (stop (by unfold bad; rw [decide_eq_true c1]; rfl))
    · refine ev_neg c1 ?_
      by_cases c2 : cr q[i] q[(i + 1) % q.length] = 0
      · refine ev_pos c2 (ev_pos (by decide) (ev_pos (by decide) (ev_pos (by decide) (ev_pos (by decide) ?_))))
        by_cases c3 : dot q[i] q[(i + 1) % q.length] < 0
        · rw [decide_eq_true c3]
          exact stop (by unfold bad; rw [decide_eq_true c2, decide_eq_true c3]; simp)
        · rw [decide_eq_false c3]
          exact cont (by unfold bad; rw [decide_eq_false c1, decide_eq_false c3]; simp)
      · exact ev_neg c2 (cont (by unfold bad; rw [decide_eq_false c1, decide_eq_false c2]; rfl))
theorem impl_PathConvex_ev {q : List V} (h : Path q) : Ev (fun k => impl_PathConvex.f k (L q)) (cvx q) := by
  unfold impl_PathConvex.f
  have hq := h.hi
  refine Ev.bind (impl_PathIn_ev _ (by rw [L_length]; omega)) ?_
  rw [pathB_L h]
  exact ev_pos rfl (Ev.bind (impl_convex_ev h) (ev_some _))
theorem impl_PathConvex_no {p : List (List Int)} (hl : p.length ≤ 1048576) (h : pathB p = false) : Ev (fun k => impl_PathConvex.f k p) false := by
  unfold impl_PathConvex.f
  refine Ev.bind (impl_PathIn_ev p hl) ?_
  rw [h]
  exact ev_neg (by decide) (ev_some _)

theorem open_eq (l : List Int) : ∃ b, spec_l6Open.f l = some (b, 0) ∧ b.length ≤ 2000 ∧ ∀ x ∈ b, x ∈ l := by
  unfold spec_l6Open.f
  by_cases h : (l.length : Int) > 2000
  · refine ⟨l.take 2000, by rw [if_pos h, if_pos (by omega)], by simp; omega, fun x hx => List.mem_of_mem_take hx⟩
  · exact ⟨l, by rw [if_neg h], by omega, fun x hx => hx⟩
theorem u8_range {l : List Int} (h : ∀ x ∈ l, (Lit.int .u8 x).wf = true) : ∀ x ∈ l, 0 ≤ x ∧ x ≤ 255 := by
  intro x hx
  have := h x hx
  have h0 : IntKind.u8.min = 0 := rfl
  have h1 : IntKind.u8.max = 255 := rfl
  simp [Lit.wf, h0, h1] at this
  omega

/-- A draw: a number from 0 to n-1 (0 where n is less than 1), the place goes on by one. -/
theorem pick_ev (b : List Int) (p n : Int) (hp : 0 ≤ p ∧ p ≤ 1000000000) (hb : b.length ≤ 2000) (hx : ∀ x ∈ b, 0 ≤ x ∧ x ≤ 255) (hn : -1000000 ≤ n ∧ n ≤ 1000000) :
    ∃ r, Ev (fun k => spec_l6Rd_pick.f k b p n) (r, p + 1) ∧ 0 ≤ r ∧ (1 ≤ n → r < n) ∧ (n < 1 → r = 0) := by
  have e1 : wrap64 (p + 1) = p + 1 := w64 (by omega)
  have e2 : wrap64 (p + 1 - 1) = p := by rw [show p + 1 - 1 = p from by omega]; exact w64 (by omega)
  have hrd : ∀ i : Int, 0 ≤ i → i < b.length → 0 ≤ rd b i ∧ rd b i ≤ 255 := by
    intro i h0 h1
    obtain ⟨j, rfl⟩ := Int.eq_ofNat_of_zero_le h0
    rw [rd_get (by omega)]
    exact hx _ (List.getElem_mem _)
  unfold spec_l6Rd_pick.f
  rw [e1]
  by_cases h1 : n < 1
  · refine ⟨0, ev_pos h1 ?_, by omega, by omega, fun _ => rfl⟩
    refine ev_step ?_
    simp only [spec_l6Rd_pick.j0]
    exact ev_pos (by trivial) (ev_some _)
  · by_cases h2 : b.length = 0
    · refine ⟨0, ev_neg h1 ?_, by omega, by omega, fun _ => rfl⟩
      refine ev_step ?_
      simp only [spec_l6Rd_pick.j0]
      refine ev_pos ?_ (ev_some _)
      rw [h2]; rfl
    · by_cases h3 : p < b.length
      · have hr := hrd p hp.1 h3
        refine ⟨Int.tmod (wrap64 (rd b p)) n, ev_neg h1 ?_, ?_, ?_, by omega⟩
        · refine ev_step ?_
          simp only [spec_l6Rd_pick.j0, e2]
          refine ev_neg ?_ (ev_pos h3 (ev_pos hp.1 (ev_neg (by omega) (ev_some _))))
          simpa using h2
        · rw [w64 (by omega)]; exact Int.tmod_nonneg _ hr.1
        · intro _; rw [w64 (by omega)]; exact Int.tmod_lt_of_pos _ (by omega)
      · have hL : (0 : Int) < b.length := by omega
        have q0 : 0 ≤ Int.tmod p b.length := Int.tmod_nonneg _ hp.1
        have q1 : Int.tmod p b.length < b.length := Int.tmod_lt_of_pos _ hL
        have e3 : wrap64 (p * 7) = p * 7 := w64 (by omega)
        have e4 : wrap64 (p * 7 + 3) = p * 7 + 3 := w64 (by omega)
        have s0 : 0 ≤ Int.tmod (p * 7 + 3) b.length := Int.tmod_nonneg _ (by omega)
        have s1 : Int.tmod (p * 7 + 3) b.length < b.length := Int.tmod_lt_of_pos _ hL
        have hu := hrd _ q0 q1
        have hv := hrd _ s0 s1
        have hd0 : 0 ≤ Int.tdiv p b.length := Int.tdiv_nonneg hp.1 (by omega)
        have hd1 : Int.tdiv p b.length ≤ p := by
          rw [Int.tdiv_eq_ediv_of_nonneg hp.1]
          exact Int.ediv_le_self _ hp.1
        generalize hu' : rd b (Int.tmod p b.length) = u at hu
        generalize hv' : rd b (Int.tmod (p * 7 + 3) b.length) = v at hv
        generalize hd' : Int.tdiv p b.length = d at hd0 hd1
        obtain ⟨X, hX, hX0, hX1⟩ : ∃ X : Int, wrap64 (wrap64 (wrap64 (wrap64 (wrap64 u * 131) + wrap64 (wrap64 v * 1117)) + wrap64 (p * 29)) + wrap64 (wrap64 d * 53)) = X ∧ 0 ≤ X ∧ X < 4611686018427387904 := by
          refine ⟨u * 131 + v * 1117 + p * 29 + d * 53, ?_, by omega, by omega⟩
          rw [w64 (x := u) (by omega), w64 (x := u * 131) (by omega), w64 (x := v) (by omega), w64 (x := v * 1117) (by omega), w64 (x := d) (by omega), w64 (x := d * 53) (by omega), w64 (x := p * 29) (by omega),
            w64 (x := u * 131 + v * 1117) (by omega), w64 (x := u * 131 + v * 1117 + p * 29) (by omega), w64 (by omega)]
        have hY0 : 0 ≤ Int.tdiv X 64 := Int.tdiv_nonneg hX0 (by omega)
        have hY1 : Int.tdiv X 64 < 4611686018427387904 := by
          rw [Int.tdiv_eq_ediv_of_nonneg hX0]; omega
        have eY : wrap64 (Int.tdiv X 64) = Int.tdiv X 64 := w64 (by omega)
        have hz : 0 ≤ Go.bits .xor .i64 X (Int.tdiv X 64) := xor_nonneg hX0 (by omega) hY0 (by omega)
        refine ⟨Int.tmod (Go.bits .xor .i64 X (Int.tdiv X 64)) n, ev_neg h1 ?_, ?_, ?_, by omega⟩
        · refine ev_step ?_
          simp only [spec_l6Rd_pick.j0, e2, e3, e4, hu', hv', hd', hX, eY]
          refine ev_neg ?_ (ev_neg h3 (ev_neg (by omega) (ev_pos q0 (ev_pos q1 (ev_pos s0 (ev_pos s1 (ev_neg (by omega) (ev_some _))))))))
          simpa using h2
        · exact Int.tmod_nonneg _ hz
        · intro _; exact Int.tmod_lt_of_pos _ (by omega)

theorem l92Step_ev (b : List Int) (hb : b.length ≤ 2000) (hx : ∀ x ∈ b, 0 ≤ x ∧ x ≤ 255) (p m : Int) (hp : 0 ≤ p ∧ p ≤ 1000) (hm : 0 ≤ m ∧ m ≤ 9) :
    ∃ v : V, Ev (fun k => spec_l92Step.f k b p m) (ofV v, p + 1 + 1) ∧ (-m ≤ v.1 ∧ v.1 ≤ max m 1) ∧ -m ≤ v.2 ∧ v.2 ≤ m := by
  have e : wrap64 (wrap64 (2 * m) + 1) = 2 * m + 1 := by rw [w64 (x := 2 * m) (by omega), w64 (by omega)]
  obtain ⟨r, hr, h0, h1, _⟩ := pick_ev b p (2 * m + 1) (by omega) hb hx (by omega)
  obtain ⟨s, hs, k0, k1, _⟩ := pick_ev b (p + 1) (2 * m + 1) (by omega) hb hx (by omega)
  have h1 := h1 (by omega)
  have k1 := k1 (by omega)
  have e1 : wrap64 (r - m) = r - m := w64 (by omega)
  have e2 : wrap64 (s - m) = s - m := w64 (by omega)
  unfold spec_l92Step.f
  rw [e]
  by_cases c : r - m = 0
  · by_cases d : s - m = 0
    · refine ⟨(1, s - m), Ev.bind hr (Ev.bind hs ?_), by omega, by omega⟩
      simp only [e1, e2]
      exact ev_pos c (ev_pos d (ev_some _))
    · refine ⟨(r - m, s - m), Ev.bind hr (Ev.bind hs ?_), by omega, by omega⟩
      simp only [e1, e2]
      exact ev_pos c (ev_neg d (ev_some _))
  · refine ⟨(r - m, s - m), Ev.bind hr (Ev.bind hs ?_), by omega, by omega⟩
    simp only [e1, e2]
    exact ev_neg c (ev_some _)

theorem l92Star_loop (b : List Int) (hb : b.length ≤ 2000) (hx : ∀ x ∈ b, 0 ≤ x ∧ x ≤ 255) (n : Nat) (hn : 1 ≤ n ∧ n ≤ 15) (d : Nat) : ∀ (i : Nat) (q : List V) (p : Int), i + d = n → q.length = i → 0 ≤ p ∧ p ≤ 100 + 3 * i →
    ∃ t : List V, Ev (fun k => spec_l92Star.l0 k (L q) (n : Int) (i : Int) b p) (L t) ∧ t.length = n := by
  induction d with
  | zero =>
    intro i q p hi hl hp
    obtain ⟨r, hr, _⟩ := pick_ev b p 30 (by omega) hb hx (by omega)
    by_cases c : r = 0
    · refine ⟨q.set 0 (0, 0), ev_step ?_, by simp; omega⟩
      simp only [spec_l92Star.l0]
      refine ev_neg (by omega) (Ev.bind hr (ev_pos c (ev_pos (by rw [lenL]; omega) ?_)))
      have e : (L q).set (0 : Int).toNat [0, 0] = L (q.set 0 (0, 0)) := by simp [L, List.map_set, ofV]
      rw [e]
      exact ev_some _
    · refine ⟨q, ev_step ?_, by omega⟩
      simp only [spec_l92Star.l0]
      exact ev_neg (by omega) (Ev.bind hr (ev_neg c (ev_some _)))
  | succ d ih =>
    intro i q p hi hl hp
    obtain ⟨r, hr, h0, h1, _⟩ := pick_ev b p 4 (by omega) hb hx (by omega)
    have h1 := h1 (by omega)
    have hm : ∃ m : Int, wrap64 (3 + wrap64 (wrap64 (Int.tdiv r 3) * 6)) = m ∧ 0 ≤ m ∧ m ≤ 9 := by
      have : r = 0 ∨ r = 1 ∨ r = 2 ∨ r = 3 := by omega
      rcases this with rfl | rfl | rfl | rfl
      · exact ⟨3, by decide +kernel, by omega, by omega⟩
      · exact ⟨3, by decide +kernel, by omega, by omega⟩
      · exact ⟨3, by decide +kernel, by omega, by omega⟩
      · exact ⟨9, by decide +kernel, by omega, by omega⟩
    obtain ⟨m, em, m0, m1⟩ := hm
    obtain ⟨v, hv, _⟩ := l92Step_ev b hb hx (p + 1) m (by omega) (by omega)
    obtain ⟨t, ht, h2⟩ := ih (i + 1) (q ++ [v]) (p + 1 + 1 + 1) (by omega) (by simp; omega) (by omega)
    refine ⟨t, ev_step ?_, h2⟩
    simp only [spec_l92Star.l0]
    refine ev_pos (by omega) (Ev.bind hr ?_)
    simp only [em]
    refine Ev.bind hv (ev_pos (by rw [L_length]; omega) ?_)
    have e : L q ++ [ofV v] = L (q ++ [v]) := by rw [← L_append]; rfl
    rw [w64_succ (by omega), e]
    exact ht
theorem l92Star_ev (l : List Int) (h : ∀ x ∈ l, (Lit.int .u8 x).wf = true) : ∃ t : List V, Ev (fun k => spec_l92Star.f k l) (L t) ∧ t.length ≤ 15 := by
  obtain ⟨b, hb, hbl, hbm⟩ := open_eq l
  have hx : ∀ x ∈ b, 0 ≤ x ∧ x ≤ 255 := fun x hx => u8_range h x (hbm x hx)
  obtain ⟨r, hr, r0, r1, _⟩ := pick_ev b 0 3 (by omega) hbl hx (by omega)
  obtain ⟨s, hs, s0, s1, _⟩ := pick_ev b (0 + 1) 24 (by omega) hbl hx (by omega)
  have r1 := r1 (by omega)
  have s1 := s1 (by omega)
  have d0 : 0 ≤ Int.tdiv s 23 := Int.tdiv_nonneg s0 (by omega)
  have d1 : Int.tdiv s 23 ≤ 1 := by rw [Int.tdiv_eq_ediv_of_nonneg s0]; omega
  obtain ⟨n, hn⟩ := Int.eq_ofNat_of_zero_le (show 0 ≤ 2 + r + Int.tdiv s 23 by omega)
  obtain ⟨t, ht, h2⟩ := l92Star_loop b hbl hx n (by omega) n 0 [] (0 + 1 + 1) (by omega) rfl (by omega)
  refine ⟨t, ?_, by omega⟩
  unfold spec_l92Star.f
  rw [hb]
  simp only [Option.bind_some]
  refine Ev.bind hr (Ev.bind hs ?_)
  simp only []
  rw [w64 (x := Int.tdiv s 23) (by omega), w64 (x := 2 + r) (by omega), w64 (by omega), hn]
  exact ht

theorem nz_row (v : V) (p : List V) : RS Star.nz v p ≤ (p.length : Int) := by
  have := RS_bound (f := Star.nz) (M := 1) (by omega) (v := v) (p := p) (fun u _ => ⟨nz_nonneg v u, nz_le v u⟩)
  omega
theorem nz_pairs (q : List V) : 2 * PS Star.nz q ≤ (q.length : Int) * ((q.length : Int) - 1) := by
  induction q with
  | nil => simp [PS]
  | cons v t ih =>
    have h1 := RS_bound (f := fun a b => Star.nz b a) (M := 1) (by omega) (v := v) (p := t) (fun u _ => ⟨nz_nonneg u v, nz_le u v⟩)
    simp only [RS] at h1
    simp only [PS, List.length_cons]
    have e : ((t.length + 1 : Nat) : Int) * (((t.length + 1 : Nat) : Int) - 1) = (t.length : Int) * ((t.length : Int) - 1) + 2 * t.length := by push_cast; grind
    rw [e]; omega
theorem FnPieces : laws_FnPieces.Pure := by
  intro l _ _ hw
  refine Ev.rounds ?_
  unfold laws_FnPieces.f
  by_cases h : (l.length : Int) > 1048576
  · exact ev_pos h (ev_some _)
  · refine ev_neg h ?_
    obtain ⟨t, ht, hl⟩ := l92Star_ev l hw
    refine Ev.bind (a := L t) (by unfold spec_DrawZonoPieces.f; exact Ev.bind ht (ev_some _)) ?_
    have hL : (L t).length ≤ 1048576 := by rw [L_length]; omega
    by_cases c : starB (L t) = true
    · obtain ⟨q, hq, hP⟩ := star_of c
      rw [hq]
      have h8 := hP.hi
      have h3 := hP.lo
      have hn := nz_pairs q
      have hz := path_zono hP
      have hp := @pieces_pos q
      refine Ev.bind (impl_ZonoPieces_ev hP) (Ev.bind (spec_ZonoPieces_ev hP) (ev_neg (by simp) (ev_pos rfl (ev_step ?_))))
      simp only [laws_FnPieces.j0]
      refine ev_neg (by simp) (Ev.bind (impl_ZonoPath_ev hP) (ev_pos rfl (ev_pos ?_ (Ev.bind (impl_PathConvex_ev hz) ?_))))
      · rw [lenL, w64 (x := (q.length : Int) - 1) (by omega)]
        have hb : 0 ≤ (q.length : Int) * ((q.length : Int) - 1) ∧ (q.length : Int) * ((q.length : Int) - 1) ≤ 12 := by
          have : q.length = 2 ∨ q.length = 3 ∨ q.length = 4 := by omega
          rcases this with e | e | e <;> rw [e] <;> decide
        rw [w64 (x := (q.length : Int) * ((q.length : Int) - 1)) (by omega), Int.tdiv_eq_ediv_of_nonneg hb.1, w64 (by omega)]
        omega
      · rw [cvx_zono hP]
        have e : (decide (0 < PS ac q) == decide (PS Star.nz q > 0)) = true := by
          rw [beq_iff_eq, decide_eq_decide]; exact hp
        simp only [e]
        exact ev_some _
    · have c' := Bool.eq_false_iff.2 c
      refine Ev.bind (impl_ZonoPieces_no hL c') (Ev.bind (spec_ZonoPieces_no hL c') (ev_neg (by simp) (ev_pos rfl (ev_step ?_))))
      simp only [laws_FnPieces.j0]
      exact ev_pos (by trivial) (ev_pos (by simp) (by simpa using ev_some _))

end Go.Proofs.Ytkphiccdgclldaa.Pure
