/- A promise of the given program: the area of a zonogon is that of its steps begun backwards, is even, and is 0 just where it has no pieces (for every code that draws a star). -/
import Derived.Test.YtohfaffgabfakaaPFnZonoAreax4
import Derived.Test.YtohfaffgabfakaaBase
import Derived.Test.YtohfaffgabfakaaPth
import Derived.Test.YtohfaffgabfakaaSrt
import Derived.Test.YtohfaffgabfakaaStar
namespace Go.Proofs.Ytohfaffgabfakaa.Pure
open Go.RowKit Go.Proofs.Ytohfaffgabfakaa.PFnZonoArea Go.Proofs.YtohfaffgabfakaaW.PrintWords Go.Proofs.YtohfaffgabfakaaW.PrintLast Go.Proofs.YtohfaffgabfakaaW.PrintMore Go.Proofs.Ytohfaffgabfakaa.Base Go.Proofs.Ytohfaffgabfakaa.Pth Go.Proofs.Ytohfaffgabfakaa.Srt Go.Proofs.Ytohfaffgabfakaa.Star
set_option linter.unusedVariables false
set_option linter.unusedSimpArgs false
theorem rdl_get {p : List (List Int)} {i : Nat} (h : i < p.length) : rd_L1 p (i : Int) = p[i] := by unfold rd_L1; rw [Int.toNat_natCast]; simp [h]
theorem rdl_L {q : List V} {i : Nat} (h : i < q.length) : rd_L1 (L q) (i : Int) = ofV q[i] := by
  rw [rdl_get (by rw [L_length]; exact h)]; simp [L]
theorem rd0 (v : V) : rd (ofV v) 0 = v.1 := rfl
theorem rd1 (v : V) : rd (ofV v) 1 = v.2 := rfl
theorem len_ofV (v : V) : ((ofV v).length : Int) = 2 := rfl
theorem lenL (q : List V) : ((L q).length : Int) = (q.length : Int) := by rw [L_length]

theorem impl_isStep_eq (s : List Int) : impl_isStep.f s = some (stepB s) := by
  match s with
  | [] => rfl
  | [_] => rfl
  | [x, y] =>
    unfold impl_isStep.f
    have h0 : rd [x, y] 0 = x := rfl
    have h1 : rd [x, y] 1 = y := rfl
    have hl : ([x, y].length : Int) = 2 := rfl
    rw [h0, h1, hl, if_pos rfl, if_pos (by decide)]
    rw [stepB_two]
    by_cases a : x ≥ -9
    · rw [if_pos a]
      by_cases b : x ≤ 9
      · rw [if_pos b, if_pos (by decide)]
        by_cases c : y ≥ -9
        · rw [if_pos c]
          by_cases d : y ≤ 9
          · rw [if_pos d]
            by_cases e : x = 0
            · rw [if_pos e]
              by_cases f : y = 0
              · subst e f; rfl
              · have : (y != 0) = true := by simpa using f
                rw [this, decide_eq_true (by omega)]
            · rw [if_neg e, decide_eq_true (by omega)]
          · rw [if_neg d, decide_eq_false (by omega)]
        · rw [if_neg c, decide_eq_false (by omega)]
      · rw [if_neg b, decide_eq_false (by omega)]
    · rw [if_neg a, decide_eq_false (by omega)]
  | a :: b :: c :: t =>
    unfold impl_isStep.f
    rw [if_neg (by simp; omega)]; rfl

theorem impl_isStar_ev (p : List (List Int)) (h : p.length ≤ 1048576) : Ev (fun k => impl_isStar.f k p) (starB p) := by
  unfold impl_isStar.f
  have key := ev_count (fun k i => impl_isStar.l0 k p p (p.length : Int) (i : Int)) (fun i => (p.drop i).all stepB && decide (2 ≤ p.length) && decide (p.length ≤ 4)) p.length ?_ ?_ 0 (by omega)
  · exact key
  · refine ev_step ?_
    simp only [impl_isStar.l0]
    refine ev_neg (by omega) ?_
    rw [List.drop_length]
    by_cases c : (p.length : Int) ≥ 2
    · refine ev_pos c ?_
      rw [decide_eq_true (show 2 ≤ p.length by omega), show decide ((p.length : Int) ≤ 4) = decide (p.length ≤ 4) from decide_eq_decide.2 (by omega)]
      simpa using ev_some _
    · refine ev_neg c ?_
      rw [decide_eq_false (show ¬ 2 ≤ p.length by omega)]
      simpa using ev_some _
  · intro i hi ih
    refine ev_step ?_
    simp only [impl_isStar.l0]
    refine ev_pos (by omega) (ev_pos (by omega) (ev_pos (by omega) ?_))
    rw [rdl_get hi, impl_isStep_eq, drop_cons hi, List.all_cons]
    simp only [Option.bind_some]
    by_cases hs : stepB p[i] = true
    · refine ev_pos hs ?_
      rw [w64_succ (by omega), hs, Bool.true_and]
      exact ih
    · refine ev_neg hs ?_
      rw [Bool.eq_false_iff.2 hs]
      simpa using ev_some _

theorem L_take (q : List V) (n : Nat) : (L q).take n = L (q.take n) := by simp [L]
theorem L_drop (q : List V) (n : Nat) : (L q).drop n = L (q.drop n) := by simp [L]
theorem L_append (a b : List V) : L a ++ L b = L (a ++ b) := by simp [L]

theorem impl_cross_eq {a b : V} (ha : stepV a) (hb : stepV b) : impl_cross.f (ofV a) (ofV b) = some (cr a b) := by
  have h := cr_bound ha hb
  unfold cr at h
  unfold impl_cross.f cr
  rw [len_ofV, len_ofV, if_pos (by decide), if_pos (by decide), if_pos (by decide), if_pos (by decide), rd0, rd0, rd1, rd1]
  simp only [w_sub_l, w_sub_r]
  rw [w64 (by omega)]

theorem impl_ZonoArea_ev {q : List V} (h : Star q) : Ev (fun k => impl_ZonoArea.f k (L q)) (2 * PS ac q, true) := by
  have hq := h.hi
  unfold impl_ZonoArea.f
  refine Ev.bind (impl_isStar_ev _ (by rw [L_length]; omega)) ?_
  rw [starB_L h]
  refine ev_pos rfl ?_
  have key := ev_count (fun k i => impl_ZonoArea.l0 k (L q) (2 * PS ac (q.take i)) (L q) ((L q).length : Int) (i : Int)) (fun _ => (2 * PS ac q, true)) q.length ?_ ?_ 0 (by omega)
  · exact key
  · refine ev_step ?_
    simp only [impl_ZonoArea.l0]
    refine ev_neg (by rw [lenL]; omega) ?_
    rw [List.take_length]
    exact ev_some _
  · intro i hi ih
    refine ev_step ?_
    simp only [impl_ZonoArea.l0]
    refine ev_pos (by rw [lenL]; omega) (ev_pos (by omega) (ev_pos (by rw [lenL]; omega) (ev_pos (by rw [lenL]; omega) ?_)))
    rw [rdl_L hi, Int.toNat_natCast, L_take]
    simp only [Option.bind_some]
    have hil : (q.take i).length = i := by simp; omega
    have key2 := ev_count (fun k j => impl_ZonoArea.l1 k (L q) (2 * PS ac (q.take i) + 2 * RS ac q[i] (q.take j)) (ofV q[i]) (L q) ((L q).length : Int) (i : Int) (L (q.take i)) ((L (q.take i)).length : Int) (j : Int)) (fun _ => (2 * PS ac q, true)) i ?_ ?_ 0 (by omega)
    · have e0 : RS ac q[i] (q.take 0) = 0 := rfl
      simp only [e0, Int.mul_zero, Int.add_zero] at key2
      exact key2
    · refine ev_step ?_
      simp only [impl_ZonoArea.l1]
      refine ev_neg (by rw [lenL, hil]; omega) ?_
      rw [PS_take _ hi] at ih
      rw [w64_succ (by omega), ← Int.mul_add]
      exact ih
    · intro j hj ih2
      have hjq : j < q.length := by omega
      have ha := area_bound h i
      have hr := row_bound h i (j + 1) hi
      have hjl : j < (q.take i).length := by omega
      have ej : (q.take i)[j] = q[j] := by simp
      have hc := cr_bound (h.st q[i] (List.getElem_mem _)) (h.st q[j] (List.getElem_mem _))
      have hac := ac_bound (h.st q[i] (List.getElem_mem _)) (h.st q[j] (List.getElem_mem _))
      rw [RS_take ac q[i] hjq] at ih2 hr
      refine ev_step ?_
      simp only [impl_ZonoArea.l1]
      refine ev_pos (by rw [lenL, hil]; omega) (ev_pos (by omega) (ev_pos (by rw [lenL, hil]; omega) ?_))
      rw [rdl_L hjl, ej, impl_cross_eq (h.st q[i] (List.getElem_mem _)) (h.st q[j] (List.getElem_mem _)), impl_cross_eq (h.st q[j] (List.getElem_mem _)) (h.st q[i] (List.getElem_mem _))]
      simp only [Option.bind_some]
      have em : mx (cr q[i] q[j]) (cr q[j] q[i]) = ac q[i] q[j] := by rw [mx_eq, cr_flip q[i] q[j]]; rfl
      rw [em, w64 (x := 2 * ac q[i] q[j]) (by omega), w64_succ (by omega), w64 (by omega), show 2 * PS ac (q.take i) + 2 * RS ac q[i] (q.take j) + 2 * ac q[i] q[j] = 2 * PS ac (q.take i) + 2 * (RS ac q[i] (q.take j) + ac q[i] q[j]) from by omega]
      exact ih2
theorem impl_ZonoArea_no {p : List (List Int)} (hl : p.length ≤ 1048576) (h : starB p = false) : Ev (fun k => impl_ZonoArea.f k p) (0, false) := by
  unfold impl_ZonoArea.f
  refine Ev.bind (impl_isStar_ev p hl) ?_
  rw [h]
  exact ev_neg (by decide) (ev_some _)

theorem spec_l6In_eq' (a b c : Int) : spec_l6In.f a b c = some (decide (b ≤ a ∧ a ≤ c)) := by
  unfold spec_l6In.f
  by_cases h : a ≥ b
  · rw [if_pos h]; simp; intro _; exact h
  · rw [if_neg h]; simp; omega
theorem spec_l6sStep_eq (s : List Int) : spec_l6sStep.f s = some (stepB s) := by
  match s with
  | [] => rfl
  | [_] => rfl
  | [x, y] =>
    unfold spec_l6sStep.f
    have h0 : rd [x, y] 0 = x := rfl
    have h1 : rd [x, y] 1 = y := rfl
    have hl : ([x, y].length : Int) = 2 := rfl
    rw [h0, h1, hl, if_pos rfl, if_pos (by decide), spec_l6In_eq', spec_l6In_eq']
    simp only [Option.bind_some]
    rw [stepB_two]
    by_cases b : -9 ≤ x ∧ x ≤ 9
    · rw [if_pos (by simpa using b), if_pos (by decide)]
      by_cases d : -9 ≤ y ∧ y ≤ 9
      · rw [if_pos (by simpa using d)]
        by_cases e : x = 0
        · rw [if_pos e]
          by_cases f : y = 0
          · subst e f; rfl
          · have : (y != 0) = true := by simpa using f
            rw [this, decide_eq_true (by omega)]
        · rw [if_neg e, decide_eq_true (by omega)]
      · rw [if_neg (by simpa using d), decide_eq_false (by omega)]
    · rw [if_neg (by simpa using b), decide_eq_false (by omega)]
  | a :: b :: c :: t =>
    unfold spec_l6sStep.f
    rw [if_neg (by simp; omega)]; rfl

theorem spec_l7Star_ev (p : List (List Int)) (h : p.length ≤ 1048576) : Ev (fun k => spec_l7Star.f k p) (starB p) := by
  unfold spec_l7Star.f
  have key := ev_count (fun k i => spec_l7Star.l0 k p (i : Int)) (fun i => (p.drop i).all stepB && decide (2 ≤ p.length) && decide (p.length ≤ 4)) p.length ?_ ?_ 0 (by omega)
  · exact key
  · refine ev_step ?_
    simp only [spec_l7Star.l0]
    refine ev_neg (by omega) ?_
    rw [List.drop_length, spec_l6In_eq']
    simp only [Option.bind_some]
    have e : decide ((2 : Int) ≤ p.length ∧ (p.length : Int) ≤ 4) = (decide (2 ≤ p.length) && decide (p.length ≤ 4)) := by
      rw [← Bool.decide_and]; exact decide_eq_decide.2 (by omega)
    rw [e]
    simpa using ev_some _
  · intro i hi ih
    refine ev_step ?_
    simp only [spec_l7Star.l0]
    refine ev_pos (by omega) (ev_pos (by omega) ?_)
    rw [rdl_get hi, spec_l6sStep_eq, drop_cons hi, List.all_cons]
    simp only [Option.bind_some]
    by_cases hs : stepB p[i] = true
    · refine ev_pos hs ?_
      rw [w64_succ (by omega), hs, Bool.true_and]
      exact ih
    · refine ev_neg hs ?_
      rw [Bool.eq_false_iff.2 hs]
      simpa using ev_some _

theorem spec_l6sCross_eq {a b : V} (ha : stepV a) (hb : stepV b) : spec_l6sCross.f (ofV a) (ofV b) = some (cr a b) := by
  have h := cr_bound ha hb
  unfold cr at h
  unfold spec_l6sCross.f cr
  rw [len_ofV, len_ofV, if_pos (by decide), if_pos (by decide), if_pos (by decide), if_pos (by decide), rd0, rd0, rd1, rd1]
  simp only [w_sub_l, w_sub_r]
  rw [w64 (by omega)]

theorem spec_ZonoArea_ev {q : List V} (h : Star q) : Ev (fun k => spec_ZonoArea.f k (L q)) (2 * PS ac q, true) := by
  have hq := h.hi
  unfold spec_ZonoArea.f
  refine Ev.bind (spec_l7Star_ev _ (by rw [L_length]; omega)) ?_
  rw [starB_L h]
  refine ev_pos rfl ?_
  have key := ev_count (fun k i => spec_ZonoArea.l0 k (L q) (2 * PS ac (q.take i)) (i : Int)) (fun _ => (2 * PS ac q, true)) q.length ?_ ?_ 0 (by omega)
  · exact key
  · refine ev_step ?_
    simp only [spec_ZonoArea.l0]
    refine ev_neg (by rw [lenL]; omega) ?_
    rw [List.take_length]
    exact ev_some _
  · intro i hi ih
    refine ev_step ?_
    simp only [spec_ZonoArea.l0]
    refine ev_pos (by rw [lenL]; omega) ?_
    have key2 := ev_count (fun k j => spec_ZonoArea.l1 k (L q) (2 * PS ac (q.take i) + 2 * RS ac q[i] (q.take j)) (i : Int) (j : Int)) (fun _ => (2 * PS ac q, true)) i ?_ ?_ 0 (by omega)
    · have e0 : RS ac q[i] (q.take 0) = 0 := rfl
      simp only [e0, Int.mul_zero, Int.add_zero] at key2
      exact key2
    · refine ev_step ?_
      simp only [spec_ZonoArea.l1]
      refine ev_neg (by omega) ?_
      rw [PS_take _ hi] at ih
      rw [w64_succ (by omega), ← Int.mul_add]
      exact ih
    · intro j hj ih2
      have hjq : j < q.length := by omega
      have ha := area_bound h i
      have hr := row_bound h i (j + 1) hi
      have hc := cr_bound (h.st q[i] (List.getElem_mem _)) (h.st q[j] (List.getElem_mem _))
      have hac := ac_bound (h.st q[i] (List.getElem_mem _)) (h.st q[j] (List.getElem_mem _))
      rw [RS_take ac q[i] hjq] at ih2 hr
      refine ev_step ?_
      simp only [spec_ZonoArea.l1]
      refine ev_pos (by omega) (ev_pos (by omega) (ev_pos (by rw [lenL]; omega) (ev_pos (by omega) (ev_pos (by rw [lenL]; omega) ?_))))
      rw [rdl_L hi, rdl_L hjq, spec_l6sCross_eq (h.st q[i] (List.getElem_mem _)) (h.st q[j] (List.getElem_mem _))]
      simp only [Option.bind_some]
      have em : mx (cr q[i] q[j]) (wrap64 (-cr q[i] q[j])) = ac q[i] q[j] := by rw [mx_eq, w64 (by omega)]; rfl
      rw [em, w64 (x := 2 * ac q[i] q[j]) (by omega), w64_succ (by omega), w64 (by omega), show 2 * PS ac (q.take i) + 2 * RS ac q[i] (q.take j) + 2 * ac q[i] q[j] = 2 * PS ac (q.take i) + 2 * (RS ac q[i] (q.take j) + ac q[i] q[j]) from by omega]
      exact ih2
theorem spec_ZonoArea_no {p : List (List Int)} (hl : p.length ≤ 1048576) (h : starB p = false) : Ev (fun k => spec_ZonoArea.f k p) (0, false) := by
  unfold spec_ZonoArea.f
  refine Ev.bind (spec_l7Star_ev p hl) ?_
  rw [h]
  exact ev_neg (by decide) (ev_some _)

theorem impl_ZonoPieces_ev {q : List V} (h : Star q) : Ev (fun k => impl_ZonoPieces.f k (L q)) (PS nz q, true) := by
  have hq := h.hi
  unfold impl_ZonoPieces.f
  refine Ev.bind (impl_isStar_ev _ (by rw [L_length]; omega)) ?_
  rw [starB_L h]
  refine ev_pos rfl ?_
  have key := ev_count (fun k i => impl_ZonoPieces.l0 k (L q) (PS nz (q.take i)) (L q) ((L q).length : Int) (i : Int)) (fun _ => (PS nz q, true)) q.length ?_ ?_ 0 (by omega)
  · exact key
  · refine ev_step ?_
    simp only [impl_ZonoPieces.l0]
    refine ev_neg (by rw [lenL]; omega) ?_
    rw [List.take_length]
    exact ev_some _
  · intro i hi ih
    refine ev_step ?_
    simp only [impl_ZonoPieces.l0]
    refine ev_pos (by rw [lenL]; omega) (ev_pos (by omega) (ev_pos (by rw [lenL]; omega) (ev_pos (by rw [lenL]; omega) ?_)))
    rw [rdl_L hi, Int.toNat_natCast, L_take]
    simp only [Option.bind_some]
    have hil : (q.take i).length = i := by simp; omega
    have key2 := ev_count (fun k j => impl_ZonoPieces.l1 k (L q) (PS nz (q.take i) + RS nz q[i] (q.take j)) (ofV q[i]) (L q) ((L q).length : Int) (i : Int) (L (q.take i)) ((L (q.take i)).length : Int) (j : Int)) (fun _ => (PS nz q, true)) i ?_ ?_ 0 (by omega)
    · have e0 : RS nz q[i] (q.take 0) = 0 := rfl
      simp only [e0, Int.add_zero] at key2
      exact key2
    · refine ev_step ?_
      simp only [impl_ZonoPieces.l1]
      refine ev_neg (by rw [lenL, hil]; omega) ?_
      rw [PS_take _ hi] at ih
      rw [w64_succ (by omega)]
      exact ih
    · intro j hj ih2
      have hjq : j < q.length := by omega
      have ha := pieces_bound h i
      have hr := prow_bound h i (j + 1) hi
      have hjl : j < (q.take i).length := by omega
      have ej : (q.take i)[j] = q[j] := by simp
      rw [RS_take nz q[i] hjq] at ih2 hr
      refine ev_step ?_
      simp only [impl_ZonoPieces.l1]
      refine ev_pos (by rw [lenL, hil]; omega) (ev_pos (by omega) (ev_pos (by rw [lenL, hil]; omega) ?_))
      rw [rdl_L hjl, ej, impl_cross_eq (h.st q[i] (List.getElem_mem _)) (h.st q[j] (List.getElem_mem _))]
      simp only [Option.bind_some]
      rw [w64_succ (by omega)]
      by_cases c : cr q[i] q[j] = 0
      · have en : nz q[i] q[j] = 0 := by unfold nz; rw [if_pos c]
        rw [en, Int.add_zero] at ih2
        exact ev_pos c ih2
      · have en : nz q[i] q[j] = 1 := by unfold nz; rw [if_neg c]
        rw [en] at ih2 hr
        rw [w64 (by omega), Int.add_assoc]
        exact ev_neg c ih2
theorem impl_ZonoPieces_no {p : List (List Int)} (hl : p.length ≤ 1048576) (h : starB p = false) : Ev (fun k => impl_ZonoPieces.f k p) (0, false) := by
  unfold impl_ZonoPieces.f
  refine Ev.bind (impl_isStar_ev p hl) ?_
  rw [h]
  exact ev_neg (by decide) (ev_some _)

theorem open_eq (l : List Int) : ∃ b, spec_l6Open.f l = some (b, 0) ∧ b.length ≤ 2000 ∧ ∀ x ∈ b, x ∈ l := by
  unfold spec_l6Open.f
  by_cases h : (l.length : Int) > 2000
  · refine ⟨l.take 2000, by rw [if_pos h, if_pos (by omega)], by simp; omega, fun x hx => List.mem_of_mem_take hx⟩
  · exact ⟨l, by rw [if_neg h], by omega, fun x hx => hx⟩
theorem u8_range {l : List Int} (h : ∀ x ∈ l, (Lit.int .u8 x).wf = true) : ∀ x ∈ l, 0 ≤ x ∧ x ≤ 255 := by
  intro x hx
  have := h x hx
  have h0 : IntKind.u8.min = 0 := rfl
  have h1 : IntKind.u8.max = 255 := rfl
  simp [Lit.wf, h0, h1] at this
  omega

/-- A draw: a number from 0 to n-1 (0 where n is less than 1), the place goes on by one. -/
theorem pick_ev (b : List Int) (p n : Int) (hp : 0 ≤ p ∧ p ≤ 1000000000) (hb : b.length ≤ 2000) (hx : ∀ x ∈ b, 0 ≤ x ∧ x ≤ 255) (hn : -1000000 ≤ n ∧ n ≤ 1000000) :
    ∃ r, Ev (fun k => spec_l6Rd_pick.f k b p n) (r, p + 1) ∧ 0 ≤ r ∧ (1 ≤ n → r < n) ∧ (n < 1 → r = 0) := by
  have e1 : wrap64 (p + 1) = p + 1 := w64 (by omega)
  have e2 : wrap64 (p + 1 - 1) = p := by rw [show p + 1 - 1 = p from by omega]; exact w64 (by omega)
  have hrd : ∀ i : Int, 0 ≤ i → i < b.length → 0 ≤ rd b i ∧ rd b i ≤ 255 := by
    intro i h0 h1
    obtain ⟨j, rfl⟩ := Int.eq_ofNat_of_zero_le h0
    rw [rd_get (by omega)]
    exact hx _ (List.getElem_mem _)
  unfold spec_l6Rd_pick.f
  rw [e1]
  by_cases h1 : n < 1
  · refine ⟨0, ev_pos h1 ?_, by omega, by omega, fun _ => rfl⟩
    refine ev_step ?_
    simp only [spec_l6Rd_pick.j0]
    exact ev_pos (by trivial) (ev_some _)
  · by_cases h2 : b.length = 0
    · refine ⟨0, ev_neg h1 ?_, by omega, by omega, fun _ => rfl⟩
      refine ev_step ?_
      simp only [spec_l6Rd_pick.j0]
      refine ev_pos ?_ (ev_some _)
      rw [h2]; rfl
    · by_cases h3 : p < b.length
      · have hr := hrd p hp.1 h3
        refine ⟨Int.tmod (wrap64 (rd b p)) n, ev_neg h1 ?_, ?_, ?_, by omega⟩
        · refine ev_step ?_
          simp only [spec_l6Rd_pick.j0, e2]
          refine ev_neg ?_ (ev_pos h3 (ev_pos hp.1 (ev_neg (by omega) (ev_some _))))
          simpa using h2
        · rw [w64 (by omega)]; exact Int.tmod_nonneg _ hr.1
        · intro _; rw [w64 (by omega)]; exact Int.tmod_lt_of_pos _ (by omega)
      · have hL : (0 : Int) < b.length := by omega
        have q0 : 0 ≤ Int.tmod p b.length := Int.tmod_nonneg _ hp.1
        have q1 : Int.tmod p b.length < b.length := Int.tmod_lt_of_pos _ hL
        have e3 : wrap64 (p * 7) = p * 7 := w64 (by omega)
        have e4 : wrap64 (p * 7 + 3) = p * 7 + 3 := w64 (by omega)
        have s0 : 0 ≤ Int.tmod (p * 7 + 3) b.length := Int.tmod_nonneg _ (by omega)
        have s1 : Int.tmod (p * 7 + 3) b.length < b.length := Int.tmod_lt_of_pos _ hL
        have hu := hrd _ q0 q1
        have hv := hrd _ s0 s1
        have hd0 : 0 ≤ Int.tdiv p b.length := Int.tdiv_nonneg hp.1 (by omega)
        have hd1 : Int.tdiv p b.length ≤ p := by
          rw [Int.tdiv_eq_ediv_of_nonneg hp.1]
          exact Int.ediv_le_self _ hp.1
        generalize hu' : rd b (Int.tmod p b.length) = u at hu
        generalize hv' : rd b (Int.tmod (p * 7 + 3) b.length) = v at hv
        generalize hd' : Int.tdiv p b.length = d at hd0 hd1
        obtain ⟨X, hX, hX0, hX1⟩ : ∃ X : Int, wrap64 (wrap64 (wrap64 (wrap64 (wrap64 u * 131) + wrap64 (wrap64 v * 1117)) + wrap64 (p * 29)) + wrap64 (wrap64 d * 53)) = X ∧ 0 ≤ X ∧ X < 4611686018427387904 := by
          refine ⟨u * 131 + v * 1117 + p * 29 + d * 53, ?_, by omega, by omega⟩
          rw [w64 (x := u) (by omega), w64 (x := u * 131) (by omega), w64 (x := v) (by omega), w64 (x := v * 1117) (by omega), w64 (x := d) (by omega), w64 (x := d * 53) (by omega), w64 (x := p * 29) (by omega),
            w64 (x := u * 131 + v * 1117) (by omega), w64 (x := u * 131 + v * 1117 + p * 29) (by omega), w64 (by omega)]
        have hY0 : 0 ≤ Int.tdiv X 64 := Int.tdiv_nonneg hX0 (by omega)
        have hY1 : Int.tdiv X 64 < 4611686018427387904 := by
          rw [Int.tdiv_eq_ediv_of_nonneg hX0]; omega
        have eY : wrap64 (Int.tdiv X 64) = Int.tdiv X 64 := w64 (by omega)
        have hz : 0 ≤ Go.bits .xor .i64 X (Int.tdiv X 64) := xor_nonneg hX0 (by omega) hY0 (by omega)
        refine ⟨Int.tmod (Go.bits .xor .i64 X (Int.tdiv X 64)) n, ev_neg h1 ?_, ?_, ?_, by omega⟩
        · refine ev_step ?_
          simp only [spec_l6Rd_pick.j0, e2, e3, e4, hu', hv', hd', hX, eY]
          refine ev_neg ?_ (ev_neg h3 (ev_neg (by omega) (ev_pos q0 (ev_pos q1 (ev_pos s0 (ev_pos s1 (ev_neg (by omega) (ev_some _))))))))
          simpa using h2
        · exact Int.tmod_nonneg _ hz
        · intro _; exact Int.tmod_lt_of_pos _ (by omega)

theorem l92Step_ev (b : List Int) (hb : b.length ≤ 2000) (hx : ∀ x ∈ b, 0 ≤ x ∧ x ≤ 255) (p m : Int) (hp : 0 ≤ p ∧ p ≤ 1000) (hm : 0 ≤ m ∧ m ≤ 9) :
    ∃ v : V, Ev (fun k => spec_l92Step.f k b p m) (ofV v, p + 1 + 1) ∧ (-m ≤ v.1 ∧ v.1 ≤ max m 1) ∧ -m ≤ v.2 ∧ v.2 ≤ m := by
  have e : wrap64 (wrap64 (2 * m) + 1) = 2 * m + 1 := by rw [w64 (x := 2 * m) (by omega), w64 (by omega)]
  obtain ⟨r, hr, h0, h1, _⟩ := pick_ev b p (2 * m + 1) (by omega) hb hx (by omega)
  obtain ⟨s, hs, k0, k1, _⟩ := pick_ev b (p + 1) (2 * m + 1) (by omega) hb hx (by omega)
  have h1 := h1 (by omega)
  have k1 := k1 (by omega)
  have e1 : wrap64 (r - m) = r - m := w64 (by omega)
  have e2 : wrap64 (s - m) = s - m := w64 (by omega)
  unfold spec_l92Step.f
  rw [e]
  by_cases c : r - m = 0
  · by_cases d : s - m = 0
    · refine ⟨(1, s - m), Ev.bind hr (Ev.bind hs ?_), by omega, by omega⟩
      simp only [e1, e2]
      exact ev_pos c (ev_pos d (ev_some _))
    · refine ⟨(r - m, s - m), Ev.bind hr (Ev.bind hs ?_), by omega, by omega⟩
      simp only [e1, e2]
      exact ev_pos c (ev_neg d (ev_some _))
  · refine ⟨(r - m, s - m), Ev.bind hr (Ev.bind hs ?_), by omega, by omega⟩
    simp only [e1, e2]
    exact ev_neg c (ev_some _)

theorem l92Star_loop (b : List Int) (hb : b.length ≤ 2000) (hx : ∀ x ∈ b, 0 ≤ x ∧ x ≤ 255) (n : Nat) (hn : 1 ≤ n ∧ n ≤ 15) (d : Nat) : ∀ (i : Nat) (q : List V) (p : Int), i + d = n → q.length = i → 0 ≤ p ∧ p ≤ 100 + 3 * i →
    ∃ t : List V, Ev (fun k => spec_l92Star.l0 k (L q) (n : Int) (i : Int) b p) (L t) ∧ t.length = n := by
  induction d with
  | zero =>
    intro i q p hi hl hp
    obtain ⟨r, hr, _⟩ := pick_ev b p 30 (by omega) hb hx (by omega)
    by_cases c : r = 0
    · refine ⟨q.set 0 (0, 0), ev_step ?_, by simp; omega⟩
      simp only [spec_l92Star.l0]
      refine ev_neg (by omega) (Ev.bind hr (ev_pos c (ev_pos (by rw [lenL]; omega) ?_)))
      have e : (L q).set (0 : Int).toNat [0, 0] = L (q.set 0 (0, 0)) := by simp [L, List.map_set, ofV]
      rw [e]
      exact ev_some _
    · refine ⟨q, ev_step ?_, by omega⟩
      simp only [spec_l92Star.l0]
      exact ev_neg (by omega) (Ev.bind hr (ev_neg c (ev_some _)))
  | succ d ih =>
    intro i q p hi hl hp
    obtain ⟨r, hr, h0, h1, _⟩ := pick_ev b p 4 (by omega) hb hx (by omega)
    have h1 := h1 (by omega)
    have hm : ∃ m : Int, wrap64 (3 + wrap64 (wrap64 (Int.tdiv r 3) * 6)) = m ∧ 0 ≤ m ∧ m ≤ 9 := by
      have : r = 0 ∨ r = 1 ∨ r = 2 ∨ r = 3 := by omega
      rcases this with rfl | rfl | rfl | rfl
      · exact ⟨3, by decide +kernel, by omega, by omega⟩
      · exact ⟨3, by decide +kernel, by omega, by omega⟩
      · exact ⟨3, by decide +kernel, by omega, by omega⟩
      · exact ⟨9, by decide +kernel, by omega, by omega⟩
    obtain ⟨m, em, m0, m1⟩ := hm
    obtain ⟨v, hv, _⟩ := l92Step_ev b hb hx (p + 1) m (by omega) (by omega)
    obtain ⟨t, ht, h2⟩ := ih (i + 1) (q ++ [v]) (p + 1 + 1 + 1) (by omega) (by simp; omega) (by omega)
    refine ⟨t, ev_step ?_, h2⟩
    simp only [spec_l92Star.l0]
    refine ev_pos (by omega) (Ev.bind hr ?_)
    simp only [em]
    refine Ev.bind hv (ev_pos (by rw [L_length]; omega) ?_)
    have e : L q ++ [ofV v] = L (q ++ [v]) := by rw [← L_append]; rfl
    rw [w64_succ (by omega), e]
    exact ht
theorem l92Star_ev (l : List Int) (h : ∀ x ∈ l, (Lit.int .u8 x).wf = true) : ∃ t : List V, Ev (fun k => spec_l92Star.f k l) (L t) ∧ t.length ≤ 15 := by
  obtain ⟨b, hb, hbl, hbm⟩ := open_eq l
  have hx : ∀ x ∈ b, 0 ≤ x ∧ x ≤ 255 := fun x hx => u8_range h x (hbm x hx)
  obtain ⟨r, hr, r0, r1, _⟩ := pick_ev b 0 3 (by omega) hbl hx (by omega)
  obtain ⟨s, hs, s0, s1, _⟩ := pick_ev b (0 + 1) 24 (by omega) hbl hx (by omega)
  have r1 := r1 (by omega)
  have s1 := s1 (by omega)
  have d0 : 0 ≤ Int.tdiv s 23 := Int.tdiv_nonneg s0 (by omega)
  have d1 : Int.tdiv s 23 ≤ 1 := by rw [Int.tdiv_eq_ediv_of_nonneg s0]; omega
  obtain ⟨n, hn⟩ := Int.eq_ofNat_of_zero_le (show 0 ≤ 2 + r + Int.tdiv s 23 by omega)
  obtain ⟨t, ht, h2⟩ := l92Star_loop b hbl hx n (by omega) n 0 [] (0 + 1 + 1) (by omega) rfl (by omega)
  refine ⟨t, ?_, by omega⟩
  unfold spec_l92Star.f
  rw [hb]
  simp only [Option.bind_some]
  refine Ev.bind hr (Ev.bind hs ?_)
  simp only []
  rw [w64 (x := Int.tdiv s 23) (by omega), w64 (x := 2 + r) (by omega), w64 (by omega), hn]
  exact ht

theorem rev_loop {q : List V} (hq : q.length ≤ 1000) (x4 : Int) (r : Bool) : ∀ (i : Nat), i ≤ q.length →
    Ev (fun k => (impl_ZonoArea.f k (L q.reverse)).bind fun bt214 => ((impl_ZonoPieces.f k (L q)).bind fun bt216 => (if bt214.2 = true then (if bt216.2 = true then (if bt214.1 = x4 then (if (Int.tmod x4 2) = 0 then (some ((x4 == 0) == (bt216.1 == 0))) else (some false)) else (some false)) else (some false)) else (some false)))) r →
    Ev (fun k => laws_FnZonoArea.l0 k (L q) x4 (L (q.drop i).reverse) ((i : Int) - 1)) r := by
  intro i hi hend
  induction i with
  | zero =>
    refine ev_step ?_
    simp only [laws_FnZonoArea.l0]
    refine ev_neg (by omega) ?_
    rw [List.drop_zero]
    exact hend
  | succ i ih =>
    have ih := ih (by omega)
    have hi' : i < q.length := by omega
    refine ev_step ?_
    simp only [laws_FnZonoArea.l0]
    have ei : (((i + 1 : Nat) : Int) - 1) = (i : Int) := by omega
    rw [ei, rdl_L hi', len_ofV, rd0, rd1, w64 (by omega)]
    have e : L (q.drop (i + 1)).reverse ++ [[q[i].1, q[i].2]] = L (q.drop i).reverse := by
      rw [drop_cons hi', List.reverse_cons]; simp [L, ofV]
    rw [e]
    exact ev_pos (by omega) (ev_pos (by omega) (ev_pos (by rw [lenL]; omega) (ev_pos (by decide) (ev_pos (by decide) (ev_pos (by rw [L_length]; simp; omega) ih)))))
theorem FnZonoArea : laws_FnZonoArea.Pure := by
  intro l _ _ hw
  refine Ev.rounds ?_
  unfold laws_FnZonoArea.f
  by_cases h : (l.length : Int) > 1048576
  · exact ev_pos h (ev_some _)
  · refine ev_neg h ?_
    obtain ⟨t, ht, hl⟩ := l92Star_ev l hw
    refine Ev.bind (a := L t) (by unfold spec_DrawZonoArea.f; exact Ev.bind ht (ev_some _)) ?_
    have hL : (L t).length ≤ 1048576 := by rw [L_length]; omega
    by_cases c : starB (L t) = true
    · obtain ⟨q, hq, hP⟩ := star_of c
      rw [hq]
      have h8 := hP.hi
      have h3 := hP.lo
      refine Ev.bind (impl_ZonoArea_ev hP) (Ev.bind (spec_ZonoArea_ev hP) (ev_neg (by simp) (ev_pos rfl (ev_step ?_))))
      simp only [laws_FnZonoArea.j0]
      refine ev_neg (by simp) ?_
      have run := rev_loop (q := q) (by omega) (2 * PS ac q) true q.length (by omega) (by
        refine Ev.bind (impl_ZonoArea_ev (star_reverse hP)) (Ev.bind (impl_ZonoPieces_ev hP) (ev_pos rfl (ev_pos rfl (ev_pos ?_ (ev_pos ?_ ?_)))))
        · show 2 * PS ac q.reverse = 2 * PS ac q
          rw [PS_reverse ac ac_sym]
        · rw [Int.mul_comm]; exact Int.mul_tmod_left _ _
        · have e := PS_zero ac_nz ac_nonneg nz_nonneg q
          have : ((2 * PS ac q == 0) == (PS nz q == 0)) = true := by
            by_cases z : PS nz q = 0
            · rw [e.2 z, z]; rfl
            · have z2 : PS ac q ≠ 0 := fun y => z (e.1 y)
              have b1 : (2 * PS ac q == 0) = false := by rw [beq_eq_false_iff_ne]; omega
              have b2 : (PS nz q == 0) = false := by rw [beq_eq_false_iff_ne]; exact z
              rw [b1, b2]; rfl
          simp only [this]
          exact ev_some _)
      rw [lenL, w64 (by omega)]
      rw [List.drop_length] at run
      exact run
    · have c' := Bool.eq_false_iff.2 c
      refine Ev.bind (impl_ZonoArea_no hL c') (Ev.bind (spec_ZonoArea_no hL c') (ev_neg (by simp) (ev_pos rfl (ev_step ?_))))
      simp only [laws_FnZonoArea.j0]
      exact ev_pos (by trivial) (ev_pos (by simp) (by simpa using ev_some _))

end Go.Proofs.Ytohfaffgabfakaa.Pure
