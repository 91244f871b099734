/- An exact promise of the given program: the points inside of a star's zonogon are as many as the plain law tells, for every slice of slices of numbers. -/
import Derived.Test.YtkphiccdgclldaaPFnExactZonoInsidex12
import Derived.Test.YtkphiccdgclldaaBase
import Derived.Test.YtkphiccdgclldaaPth
import Derived.Test.YtkphiccdgclldaaSrt
import Derived.Test.YtkphiccdgclldaaCvx
import Derived.Test.YtkphiccdgclldaaIso
import Derived.Test.YtkphiccdgclldaaRim
import Derived.Test.YtkphiccdgclldaaStar
import Derived.Test.YtkphiccdgclldaaHRaw
import Derived.Test.YtkphiccdgclldaaHSrt
import Derived.Test.YtkphiccdgclldaaZon
import Derived.Test.YtkphiccdgclldaaRowsIn
namespace Go.Proofs.Ytkphiccdgclldaa.Pure
open Go.RowKit Go.Proofs.Ytkphiccdgclldaa.PFnExactZonoInside Go.Proofs.YtkphiccdgclldaaW.PrintWords Go.Proofs.YtkphiccdgclldaaW.PrintLast Go.Proofs.YtkphiccdgclldaaW.PrintMore Go.Proofs.Ytkphiccdgclldaa.Base Go.Proofs.Ytkphiccdgclldaa.Pth Go.Proofs.Ytkphiccdgclldaa.Srt Go.Proofs.Ytkphiccdgclldaa.Cvx Go.Proofs.Ytkphiccdgclldaa.Iso Go.Proofs.Ytkphiccdgclldaa.Rim Go.Proofs.Ytkphiccdgclldaa.Star Go.Proofs.Ytkphiccdgclldaa.HRaw Go.Proofs.Ytkphiccdgclldaa.HSrt Go.Proofs.Ytkphiccdgclldaa.Zon Go.Proofs.Ytkphiccdgclldaa.RowsIn
set_option linter.unusedVariables false
set_option linter.unusedSimpArgs false
theorem rdl_get {p : List (List Int)} {i : Nat} (h : i < p.length) : rd_L1 p (i : Int) = p[i] := by unfold rd_L1; rw [Int.toNat_natCast]; simp [h]
theorem rdl_L {q : List V} {i : Nat} (h : i < q.length) : rd_L1 (L q) (i : Int) = ofV q[i] := by
  rw [rdl_get (by rw [L_length]; exact h)]; simp [L]
theorem rd0 (v : V) : rd (ofV v) 0 = v.1 := rfl
theorem rd1 (v : V) : rd (ofV v) 1 = v.2 := rfl
theorem len_ofV (v : V) : ((ofV v).length : Int) = 2 := rfl
theorem lenL (q : List V) : ((L q).length : Int) = (q.length : Int) := by rw [L_length]

theorem impl_isStep_eq (s : List Int) : impl_isStep.f s = some (stepB s) := by
  match s with
  | [] => rfl
  | [_] => rfl
  | [x, y] =>
    unfold impl_isStep.f
    have h0 : rd [x, y] 0 = x := rfl
    have h1 : rd [x, y] 1 = y := rfl
    have hl : ([x, y].length : Int) = 2 := rfl
    rw [h0, h1, hl, if_pos rfl, if_pos (by decide)]
    rw [stepB_two]
    by_cases a : x ≥ -9
    · rw [if_pos a]
      by_cases b : x ≤ 9
      · rw [if_pos b, if_pos (by decide)]
        by_cases c : y ≥ -9
        · rw [if_pos c]
          by_cases d : y ≤ 9
          · rw [if_pos d]
            by_cases e : x = 0
            · rw [if_pos e]
              by_cases f : y = 0
              · subst e f; rfl
              · have : (y != 0) = true := by simpa using f
                rw [this, decide_eq_true (by omega)]
            · rw [if_neg e, decide_eq_true (by omega)]
          · rw [if_neg d, decide_eq_false (by omega)]
        · rw [if_neg c, decide_eq_false (by omega)]
      · rw [if_neg b, decide_eq_false (by omega)]
    · rw [if_neg a, decide_eq_false (by omega)]
  | a :: b :: c :: t =>
    unfold impl_isStep.f
    rw [if_neg (by simp; omega)]; rfl

theorem impl_isStar_ev (p : List (List Int)) (h : p.length ≤ 1048576) : Ev (fun k => impl_isStar.f k p) (starB p) := by
  unfold impl_isStar.f
  have key := ev_count (fun k i => impl_isStar.l0 k p p (p.length : Int) (i : Int)) (fun i => (p.drop i).all stepB && decide (2 ≤ p.length) && decide (p.length ≤ 4)) p.length ?_ ?_ 0 (by omega)
  · exact key
  · refine ev_step ?_
    simp only [impl_isStar.l0]
    refine ev_neg (by omega) ?_
    rw [List.drop_length]
    by_cases c : (p.length : Int) ≥ 2
    · refine ev_pos c ?_
      rw [decide_eq_true (show 2 ≤ p.length by omega), show decide ((p.length : Int) ≤ 4) = decide (p.length ≤ 4) from decide_eq_decide.2 (by omega)]
      simpa using ev_some _
    · refine ev_neg c ?_
      rw [decide_eq_false (show ¬ 2 ≤ p.length by omega)]
      simpa using ev_some _
  · intro i hi ih
    refine ev_step ?_
    simp only [impl_isStar.l0]
    refine ev_pos (by omega) (ev_pos (by omega) (ev_pos (by omega) ?_))
    rw [rdl_get hi, impl_isStep_eq, drop_cons hi, List.all_cons]
    simp only [Option.bind_some]
    by_cases hs : stepB p[i] = true
    · refine ev_pos hs ?_
      rw [w64_succ (by omega), hs, Bool.true_and]
      exact ih
    · refine ev_neg hs ?_
      rw [Bool.eq_false_iff.2 hs]
      simpa using ev_some _

theorem L_take (q : List V) (n : Nat) : (L q).take n = L (q.take n) := by simp [L]
theorem L_drop (q : List V) (n : Nat) : (L q).drop n = L (q.drop n) := by simp [L]
theorem L_append (a b : List V) : L a ++ L b = L (a ++ b) := by simp [L]
theorem L_snoc (q : List V) (v : V) : L q ++ [ofV v] = L (q ++ [v]) := by simp [L]

theorem impl_crossS_eq {a b : V} (ha : stepV a) (hb : stepV b) : impl_cross.f (ofV a) (ofV b) = some (cr a b) := by
  have h := Star.cr_bound ha hb
  unfold cr at h
  unfold impl_cross.f cr
  rw [len_ofV, len_ofV, if_pos (by decide), if_pos (by decide), if_pos (by decide), if_pos (by decide), rd0, rd0, rd1, rd1]
  simp only [w_sub_l, w_sub_r]
  rw [w64 (by omega)]

theorem impl_ZonoPieces_ev {q : List V} (h : Star q) : Ev (fun k => impl_ZonoPieces.f k (L q)) (PS nz q, true) := by
  have hq := h.hi
  unfold impl_ZonoPieces.f
  refine Ev.bind (impl_isStar_ev _ (by rw [L_length]; omega)) ?_
  rw [starB_L h]
  refine ev_pos rfl ?_
  have key := ev_count (fun k i => impl_ZonoPieces.l0 k (L q) (PS nz (q.take i)) (L q) ((L q).length : Int) (i : Int)) (fun _ => (PS nz q, true)) q.length ?_ ?_ 0 (by omega)
  · exact key
  · refine ev_step ?_
    simp only [impl_ZonoPieces.l0]
    refine ev_neg (by rw [lenL]; omega) ?_
    rw [List.take_length]
    exact ev_some _
  · intro i hi ih
    refine ev_step ?_
    simp only [impl_ZonoPieces.l0]
    refine ev_pos (by rw [lenL]; omega) (ev_pos (by omega) (ev_pos (by rw [lenL]; omega) (ev_pos (by rw [lenL]; omega) ?_)))
    rw [rdl_L hi, Int.toNat_natCast, L_take]
    simp only [Option.bind_some]
    have hil : (q.take i).length = i := by simp; omega
    have key2 := ev_count (fun k j => impl_ZonoPieces.l1 k (L q) (PS nz (q.take i) + RS nz q[i] (q.take j)) (ofV q[i]) (L q) ((L q).length : Int) (i : Int) (L (q.take i)) ((L (q.take i)).length : Int) (j : Int)) (fun _ => (PS nz q, true)) i ?_ ?_ 0 (by omega)
    · have e0 : RS nz q[i] (q.take 0) = 0 := rfl
      simp only [e0, Int.add_zero] at key2
      exact key2
    · refine ev_step ?_
      simp only [impl_ZonoPieces.l1]
      refine ev_neg (by rw [lenL, hil]; omega) ?_
      rw [PS_take _ hi] at ih
      rw [w64_succ (by omega)]
      exact ih
    · intro j hj ih2
      have hjq : j < q.length := by omega
      have ha := pieces_bound h i
      have hr := prow_bound h i (j + 1) hi
      have hjl : j < (q.take i).length := by omega
      have ej : (q.take i)[j] = q[j] := by simp
      rw [RS_take nz q[i] hjq] at ih2 hr
      refine ev_step ?_
      simp only [impl_ZonoPieces.l1]
      refine ev_pos (by rw [lenL, hil]; omega) (ev_pos (by omega) (ev_pos (by rw [lenL, hil]; omega) ?_))
      rw [rdl_L hjl, ej, impl_crossS_eq (h.st q[i] (List.getElem_mem _)) (h.st q[j] (List.getElem_mem _))]
      simp only [Option.bind_some]
      rw [w64_succ (by omega)]
      by_cases c : cr q[i] q[j] = 0
      · have en : nz q[i] q[j] = 0 := by unfold nz; rw [if_pos c]
        rw [en, Int.add_zero] at ih2
        exact ev_pos c ih2
      · have en : nz q[i] q[j] = 1 := by unfold nz; rw [if_neg c]
        rw [en] at ih2 hr
        rw [w64 (by omega), Int.add_assoc]
        exact ev_neg c ih2
theorem impl_ZonoPieces_no {p : List (List Int)} (hl : p.length ≤ 1048576) (h : starB p = false) : Ev (fun k => impl_ZonoPieces.f k p) (0, false) := by
  unfold impl_ZonoPieces.f
  refine Ev.bind (impl_isStar_ev p hl) ?_
  rw [h]
  exact ev_neg (by decide) (ev_some _)

theorem gx_take {p : List (List Int)} {i : Nat} (h : i < p.length) : gx (p.take (i + 1)) = gx (p.take i) + p[i].getD 0 0 := by
  unfold gx; rw [List.take_succ_eq_append_getElem h, List.map_append, List.sum_append]
  simp only [List.map_cons, List.map_nil, List.sum_cons, List.sum_nil, Int.add_zero]
theorem gy_take {p : List (List Int)} {i : Nat} (h : i < p.length) : gy (p.take (i + 1)) = gy (p.take i) + p[i].getD 1 0 := by
  unfold gy; rw [List.take_succ_eq_append_getElem h, List.map_append, List.sum_append]
  simp only [List.map_cons, List.map_nil, List.sum_cons, List.sum_nil, Int.add_zero]
theorem g_bound {p : List (List Int)} (h : p.all stepB = true) : (-(9 * (p.length : Int)) ≤ gx p ∧ gx p ≤ 9 * p.length) ∧ -(9 * (p.length : Int)) ≤ gy p ∧ gy p ≤ 9 * p.length := by
  obtain ⟨q, rfl, hq⟩ := all_steps p h
  rw [gx_L, gy_L, L_length]
  exact ⟨sx_bound hq, sy_bound hq⟩
theorem all_take {p : List (List Int)} {i : Nat} (h : i < p.length) (ha : (p.take i).all stepB = true) (hs : stepB p[i] = true) : (p.take (i + 1)).all stepB = true := by
  rw [List.take_succ_eq_append_getElem h, List.all_append, ha]; simp [hs]
theorem impl_PathIn_loop (p : List (List Int)) (h : p.length ≤ 1048576) : Ev (fun k => impl_PathIn.l0 k 0 0 p (p.length : Int) 0) (p.all stepB && decide (gx p = 0) && decide (gy p = 0)) := by
  have key := down (fun i => (p.take i).all stepB = true → Ev (fun k => impl_PathIn.l0 k (gx (p.take i)) (gy (p.take i)) p (p.length : Int) (i : Int)) ((p.drop i).all stepB && decide (gx p = 0) && decide (gy p = 0))) p.length ?_ ?_ 0 (by omega)
  · exact key rfl
  · intro _
    refine ev_step ?_
    simp only [impl_PathIn.l0]
    refine ev_neg (by omega) ?_
    rw [List.take_length, List.drop_length]
    by_cases c : gx p = 0
    · refine ev_pos c ?_
      rw [c]
      have : (gy p == 0) = decide (gy p = 0) := rfl
      rw [this]
      simpa using ev_some _
    · refine ev_neg c ?_
      rw [decide_eq_false c]
      simpa using ev_some _
  · intro i hi ih ha
    refine ev_step ?_
    simp only [impl_PathIn.l0]
    refine ev_pos (by omega) (ev_pos (by omega) (ev_pos (by omega) ?_))
    rw [rdl_get hi, impl_isStep_eq, drop_cons hi, List.all_cons]
    simp only [Option.bind_some]
    by_cases hs : stepB p[i] = true
    · refine ev_pos hs ?_
      have ha' := all_take hi ha hs
      have ih' := ih ha'
      have hb := g_bound ha'
      rw [gx_take hi, gy_take hi] at ih' hb
      obtain ⟨v, hv, hsv⟩ := stepB_of _ hs
      rw [hv] at ih' hb ⊢
      refine ev_pos (by rw [len_ofV]; decide) (ev_pos (by rw [len_ofV]; decide) ?_)
      have hlen : ((p.take (i + 1)).length : Int) ≤ 1048576 := by simp; omega
      rw [w64_succ (by omega), rd0, rd1]
      have e0 : (ofV v).getD 0 0 = v.1 := rfl
      have e1 : (ofV v).getD 1 0 = v.2 := rfl
      rw [e0, e1] at ih' hb
      rw [w64 (by omega), w64 (by omega), (stepB_ofV v).2 hsv, Bool.true_and]
      exact ih'
    · refine ev_neg hs ?_
      rw [Bool.eq_false_iff.2 hs]
      simpa using ev_some _
theorem impl_PathIn_ev (p : List (List Int)) (h : p.length ≤ 1048576) : Ev (fun k => impl_PathIn.f k p) (pathB p) := by
  unfold impl_PathIn.f pathB
  by_cases c : (p.length : Int) < 3
  · refine ev_pos c (ev_step ?_)
    simp only [impl_PathIn.j0]
    refine ev_pos (by trivial) ?_
    rw [decide_eq_false (by omega)]
    simpa using ev_some _
  · refine ev_neg c (ev_step ?_)
    simp only [impl_PathIn.j0]
    by_cases d : (p.length : Int) > 8
    · refine ev_pos (by simpa using d) ?_
      rw [decide_eq_false (p := p.length ≤ 8) (by omega)]
      simpa using ev_some _
    · refine ev_neg (by simpa using d) ?_
      rw [decide_eq_true (by omega), decide_eq_true (by omega)]
      simpa using impl_PathIn_loop p h

def b9 (v : V) : Prop := -9 ≤ v.1 ∧ v.1 ≤ 9 ∧ -9 ≤ v.2 ∧ v.2 ≤ 9
theorem cr_bound {a b : V} (ha : b9 a) (hb : b9 b) : -162 ≤ cr a b ∧ cr a b ≤ 162 := by
  unfold b9 at ha hb
  have h1 := mul9 (x := a.1) (v := b.2) (M := 9) ⟨ha.1, ha.2.1⟩ ⟨hb.2.2.1, hb.2.2.2⟩
  have h2 := mul9 (x := a.2) (v := b.1) (M := 9) ⟨ha.2.2.1, ha.2.2.2⟩ ⟨hb.1, hb.2.1⟩
  unfold cr; omega

theorem b9_of {q : List V} (h : Path q) : ∀ v ∈ q, b9 v := fun v hv => by
  have := h.st v hv
  simp only [stepV] at this
  unfold b9; omega
theorem impl_cross_eq {a b : V} (ha : b9 a) (hb : b9 b) : impl_cross.f (ofV a) (ofV b) = some (cr a b) := by
  unfold impl_cross.f
  rw [len_ofV, len_ofV, if_pos (by decide), if_pos (by decide), if_pos (by decide), if_pos (by decide), rd0, rd0, rd1, rd1]
  simp only [w_sub_l, w_sub_r]
  have := cr_bound ha hb
  unfold cr at this ⊢
  rw [w64 (by omega)]
theorem impl_lower_eq {a : V} (h : stepV a) : impl_lower.f (ofV a) = some (decide (half a = 1)) := by
  unfold impl_lower.f half
  simp only [stepV] at h
  rw [len_ofV, rd0, rd1, if_pos (by decide)]
  by_cases c : a.2 < 0
  · rw [if_pos c, if_neg (by omega), if_neg (by omega)]; rfl
  · rw [if_neg c]
    by_cases d : a.2 = 0
    · rw [if_pos d, if_pos (by decide), if_neg (by omega)]
      by_cases e : a.1 > 0
      · rw [if_pos ⟨d, e⟩, decide_eq_false (by omega)]; rfl
      · rw [if_neg (fun h => e h.2), decide_eq_true (by omega)]; rfl
    · rw [if_neg d, if_pos (by omega)]; rfl
theorem half01 (a : V) : half a = 0 ∨ half a = 1 := by
  unfold half
  split
  · exact Or.inl rfl
  · split
    · exact Or.inl rfl
    · exact Or.inr rfl
theorem impl_compare_ev {a b : V} (ha : stepV a) (hb : stepV b) : ∃ n, impl_compareSteps.f (ofV a) (ofV b) = some n ∧ (decide (n > 0) = desc a b) ∧ -1 ≤ n ∧ n ≤ 1 := by
  unfold impl_compareSteps.f
  rw [impl_lower_eq ha, impl_lower_eq hb, impl_cross_eq (by simp only [stepV] at ha; unfold b9; omega) (by simp only [stepV] at hb; unfold b9; omega)]
  simp only [Option.bind_some]
  unfold desc before
  rcases half01 a with h0 | h0 <;> rcases half01 b with h1 | h1 <;> rw [h0, h1]
  · rw [if_neg (by decide), if_pos rfl]
    have e : cr b a = -cr a b := by unfold cr; grind
    rw [e]
    by_cases c : cr a b > 0
    · exact ⟨-1, by rw [if_pos c], by rw [decide_eq_false (by omega), decide_eq_false (by omega)], by omega⟩
    · by_cases d : cr a b < 0
      · exact ⟨1, by rw [if_neg c, if_pos d], by rw [decide_eq_true (by omega), decide_eq_true (by omega)], by omega⟩
      · exact ⟨0, by rw [if_neg c, if_neg d], by rw [decide_eq_false (by omega), decide_eq_false (by omega)], by omega⟩
  · exact ⟨-1, by simp, by simp, by omega⟩
  · exact ⟨1, by simp, by simp, by omega⟩
  · rw [if_neg (by decide), if_pos rfl]
    have e : cr b a = -cr a b := by unfold cr; grind
    rw [e]
    by_cases c : cr a b > 0
    · exact ⟨-1, by rw [if_pos c], by rw [decide_eq_false (by omega), decide_eq_false (by omega)], by omega⟩
    · by_cases d : cr a b < 0
      · exact ⟨1, by rw [if_neg c, if_pos d], by rw [decide_eq_true (by omega), decide_eq_true (by omega)], by omega⟩
      · exact ⟨0, by rw [if_neg c, if_neg d], by rw [decide_eq_false (by omega), decide_eq_false (by omega)], by omega⟩

theorem impl_compare_lt {a b : V} (ha : stepV a) (hb : stepV b) : ∃ n, impl_compareSteps.f (ofV a) (ofV b) = some n ∧ decide (n < 0) = before a b := by
  unfold impl_compareSteps.f
  rw [impl_lower_eq ha, impl_lower_eq hb, impl_cross_eq (by simp only [stepV] at ha; unfold b9; omega) (by simp only [stepV] at hb; unfold b9; omega)]
  simp only [Option.bind_some]
  unfold before
  rcases half01 a with h0 | h0 <;> rcases half01 b with h1 | h1 <;> rw [h0, h1]
  · rw [if_neg (by decide), if_pos rfl]
    by_cases c : cr a b > 0
    · exact ⟨-1, by rw [if_pos c], by rw [decide_eq_true (by omega), decide_eq_true (by omega)]⟩
    · by_cases d : cr a b < 0
      · exact ⟨1, by rw [if_neg c, if_pos d], by rw [decide_eq_false (by omega), decide_eq_false (by omega)]⟩
      · exact ⟨0, by rw [if_neg c, if_neg d], by rw [decide_eq_false (by omega), decide_eq_false (by omega)]⟩
  · exact ⟨-1, by simp, by simp⟩
  · exact ⟨1, by simp, by simp⟩
  · rw [if_neg (by decide), if_pos rfl]
    by_cases c : cr a b > 0
    · exact ⟨-1, by rw [if_pos c], by rw [decide_eq_true (by omega), decide_eq_true (by omega)]⟩
    · by_cases d : cr a b < 0
      · exact ⟨1, by rw [if_neg c, if_pos d], by rw [decide_eq_false (by omega), decide_eq_false (by omega)]⟩
      · exact ⟨0, by rw [if_neg c, if_neg d], by rw [decide_eq_false (by omega), decide_eq_false (by omega)]⟩
theorem isort_L (cmp : List Int → List Int → Int) (hc : ∀ a b : V, stepV a → stepV b → decide (cmp (ofV a) (ofV b) < 0) = before a b) {q : List V} (hq : ∀ v ∈ q, stepV v) : isort (fun a b => decide (cmp a b < 0)) (L q) = L (srt q) := by
  have hpos : ∀ (v : V) (out : List V), stepV v → (∀ u ∈ out, stepV u) → ∀ k, k ≤ out.length → posR (fun a b => decide (cmp a b < 0)) (ofV v) (L out) k = pos v out k := by
    intro v out hv ho k
    induction k with
    | zero => intro _; rfl
    | succ k ih =>
      intro hk
      have hk' : k < out.length := by omega
      have e1 : (L out).getD k default = ofV out[k] := by simp [L, hk']
      have e2 : out.getD k (0, 0) = out[k] := by simp [hk']
      unfold posR pos
      rw [e1, e2]
      show (if decide (cmp (ofV v) (ofV out[k]) < 0) = true then _ else _) = _
      rw [hc v out[k] hv (ho _ (List.getElem_mem _)), ih (by omega)]
  have hins : ∀ (v : V) (out : List V), stepV v → (∀ u ∈ out, stepV u) → insR (fun a b => decide (cmp a b < 0)) (ofV v) (L out) = L (ins v out) := by
    intro v out hv ho
    unfold insR ins
    rw [hpos v out hv ho _ (by rw [L_length]; exact Nat.le_refl _), L_length, L_take, L_drop]
    simp [L]
  have key : ∀ (q out : List V), (∀ v ∈ q, stepV v) → (∀ u ∈ out, stepV u) → (L q).foldl (fun out x => insR (fun a b => decide (cmp a b < 0)) x out) (L out) = L (q.foldl (fun out v => ins v out) out) := by
    intro q
    induction q with
    | nil => intro out _ _; rfl
    | cons v t ih =>
      intro out hq ho
      show (L t).foldl _ (insR _ (ofV v) (L out)) = _
      rw [hins v out (hq v (by simp)) ho, List.foldl_cons]
      refine ih _ (fun u hu => hq u (by simp [hu])) (fun u hu => ?_)
      rcases List.mem_cons.1 ((ins_perm v out).mem_iff.1 hu) with rfl | hu
      · exact hq _ (by simp)
      · exact ho u hu
  exact key q [] hq (fun u hu => by cases hu)

theorem clone_int_eq (l : List Int) (h : l.length ≤ 1048576) : slices_Clone_int_int_86.f l = some l := by
  unfold slices_Clone_int_int_86.f
  simp only [Option.bind_some]
  rw [if_pos (by simp; omega)]; rfl
theorem copySteps_ev (q : List V) (hl : q.length ≤ 1048576) : Ev (fun k => impl_copySteps.f k (L q)) (L q) := by
  unfold impl_copySteps.f
  have key := ev_count (fun k i => impl_copySteps.l0 k (L (q.take i)) (L q) ((L q).length : Int) (i : Int)) (fun _ => L q) q.length ?_ ?_ 0 (by omega)
  · exact key
  · refine ev_step ?_
    simp only [impl_copySteps.l0]
    refine ev_neg (by rw [lenL]; omega) ?_
    rw [List.take_length]
    exact ev_some _
  · intro i hi ih
    refine ev_step ?_
    simp only [impl_copySteps.l0]
    rw [rdl_L hi, clone_int_eq (ofV q[i]) (show 2 ≤ 1048576 from by decide), w64_succ (by omega)]
    simp only [Option.bind_some]
    have e : L (q.take i) ++ [ofV q[i]] = L (q.take (i + 1)) := by rw [List.take_succ_eq_append_getElem hi, ← L_snoc]
    rw [e]
    exact ev_pos (by rw [lenL]; omega) (ev_pos (by omega) (ev_pos (by rw [lenL]; omega) (ev_pos (by simp [L]; omega) ih)))

theorem dn_L {v : V} (h : stepV v) : impl_zonogon.dn (ofV v) = ofV (neg v) := by
  unfold impl_zonogon.dn
  simp only [stepV] at h
  rw [rd0, rd1, w64 (by omega), w64 (by omega)]; rfl
theorem up_L {v : V} (h : stepV v) : impl_zonogon.up (ofV v) = ofV (upV v) := by
  unfold impl_zonogon.up
  rw [impl_lower_eq h, dn_L h]
  unfold upV
  by_cases c : half v = 1
  · rw [if_pos c, decide_eq_true c]; rfl
  · rw [if_neg c, decide_eq_false c]; rfl
theorem so_L {q : List V} (h : ∀ v ∈ q, stepV v) : impl_zonogon.so (L q) = L (zs q) := by
  unfold impl_zonogon.so
  have e : (L q).map impl_zonogon.up = L (q.map upV) := by
    unfold L
    rw [List.map_map, List.map_map]
    exact List.map_congr_left (fun v hv => up_L (h v hv))
  rw [e]
  exact isort_L impl_zonogon.cmp (fun a b ha hb => by
      obtain ⟨n, hn, e⟩ := impl_compare_lt ha hb
      unfold impl_zonogon.cmp
      rw [hn]; exact e) (fun v hv => by
      obtain ⟨u, hu, rfl⟩ := List.mem_map.1 hv
      exact (step_up (h u hu)).1)
theorem dn_zs {q : List V} (h : ∀ v ∈ q, stepV v) : (L (zs q)).map impl_zonogon.dn = L ((zs q).map neg) := by
  unfold L
  rw [List.map_map, List.map_map]
  exact List.map_congr_left (fun v hv => dn_L (zs_mem h v hv).1)
theorem impl_zonogon_ev {q : List V} (h : Star q) : Ev (fun k => impl_zonogon.f k (L q)) (L (zono q)) := by
  unfold impl_zonogon.f
  have hq := h.hi
  have h3 := h.lo
  refine Ev.bind (copySteps_ev q (by omega)) (ev_pos ⟨⟨by rw [L_length]; omega, by rw [L_length]; omega⟩, ?_, ?_⟩ ?_)
  · intro s hs
    obtain ⟨v, hv, rfl⟩ := List.mem_map.1 hs
    rw [impl_lower_eq (h.st v hv)]
    exact ⟨rfl, rfl⟩
  · have key : ∀ a ∈ (L q).map impl_zonogon.up, ∃ v, stepV v ∧ ofV v = a := by
      intro a ha
      obtain ⟨s, hs, rfl⟩ := List.mem_map.1 ha
      obtain ⟨v, hv, rfl⟩ := List.mem_map.1 hs
      exact ⟨upV v, (step_up (h.st v hv)).1, (up_L (h.st v hv)).symm⟩
    intro a ha b hb
    obtain ⟨u, hu, rfl⟩ := key a ha
    obtain ⟨v, hv, rfl⟩ := key b hb
    obtain ⟨n, hn, _⟩ := impl_compare_lt hu hv
    rw [hn]; rfl
  · rw [so_L h.st, dn_zs h.st]
    have : L (zs q) ++ L ((zs q).map neg) = L (zono q) := by rw [L_append]; rfl
    rw [this]
    exact ev_some _

theorem dot_bound {a b : V} (ha : b9 a) (hb : b9 b) : -162 ≤ dot a b ∧ dot a b ≤ 162 := by
  unfold b9 at ha hb
  have h1 := mul9 (x := a.1) (v := b.1) (M := 9) ⟨ha.1, ha.2.1⟩ ⟨hb.1, hb.2.1⟩
  have h2 := mul9 (x := a.2) (v := b.2) (M := 9) ⟨ha.2.2.1, ha.2.2.2⟩ ⟨hb.2.2.1, hb.2.2.2⟩
  unfold dot; omega
theorem dot_wrap {a b : V} (ha : b9 a) (hb : b9 b) : wrap64 (wrap64 (a.1 * b.1) + wrap64 (a.2 * b.2)) = dot a b := by
  have := dot_bound ha hb
  simp only [w_add_l, w_add_r]
  unfold dot at this ⊢
  rw [w64 (by omega)]
theorem cnt_take {q : List V} {i : Nat} (h : i < q.length) : (((prs q).take (i + 1)).countP dsc : Nat) = ((prs q).take i).countP dsc + if desc q[i] (q[(i + 1) % q.length]'(Nat.mod_lt _ (by omega))) = true then 1 else 0 := by
  rw [List.take_succ_eq_append_getElem (by rw [prs_length]; exact h), List.countP_append, prs_get h]
  simp only [List.countP_cons, List.countP_nil, Nat.zero_add]
  rfl
theorem cnt_le (q : List V) (i : Nat) : ((prs q).take i).countP dsc ≤ q.length := by
  have := List.countP_le_length (p := dsc) (l := (prs q).take i)
  have h2 := prs_length q
  simp at this
  omega
theorem prs_drop {q : List V} {i : Nat} (h : i < q.length) : ((prs q).drop i).all good = (!bad q[i] (q[(i + 1) % q.length]'(Nat.mod_lt _ (by omega))) && ((prs q).drop (i + 1)).all good) := by
  rw [drop_cons (by rw [prs_length]; exact h), List.all_cons, prs_get h]; rfl
theorem impl_convex_ev {q : List V} (h : Path q) : Ev (fun k => impl_convex.f k (L q)) (cvx q) := by
  unfold impl_convex.f cvx
  have hq := h.hi
  have h3 := h.lo
  have key := ev_count (fun k i => impl_convex.l0 k (L q) ((((prs q).take i).countP dsc : Nat) : Int) (L q) ((L q).length : Int) (i : Int)) (fun i => ((prs q).drop i).all good && decide ((prs q).countP dsc = 1)) q.length ?_ ?_ 0 (by omega)
  · exact key
  · refine ev_step ?_
    simp only [impl_convex.l0]
    refine ev_neg (by rw [lenL]; omega) ?_
    rw [List.take_of_length_le (by rw [prs_length]; omega), List.drop_of_length_le (by rw [prs_length]; omega)]
    have e : ((((prs q).countP dsc : Nat) : Int) == 1) = decide ((prs q).countP dsc = 1) := by
      rw [Bool.eq_iff_iff]; simp; omega
    rw [e]
    simpa using ev_some _
  · intro i hi ih
    have hm : (i + 1) % q.length < q.length := Nat.mod_lt _ (by omega)
    have em : Int.tmod (wrap64 ((i : Int) + 1)) ((L q).length : Int) = (((i + 1) % q.length : Nat) : Int) := by
      rw [w64_succ (by omega), lenL, ← Int.ofNat_tmod]
    have ba := b9_of h q[i] (List.getElem_mem _)
    have bb := b9_of h q[(i + 1) % q.length] (List.getElem_mem _)
    have sa := h.st q[i] (List.getElem_mem _)
    have sb := h.st q[(i + 1) % q.length] (List.getElem_mem _)
    obtain ⟨n, hn, hd, hn1, hn2⟩ := impl_compare_ev sa sb
    have hc := cnt_le q i
    have hct := cnt_take hi
    have cont : bad q[i] q[(i + 1) % q.length] = false → Ev (fun k => impl_convex.j1 k (L q) ((((prs q).take i).countP dsc : Nat) : Int) (ofV q[i]) (ofV q[(i + 1) % q.length]) (L q) ((L q).length : Int) (i : Int) false) (((prs q).drop i).all good && decide ((prs q).countP dsc = 1)) := by
      intro hb
      refine ev_step ?_
      simp only [impl_convex.j1]
      refine ev_neg (by simp) ?_
      rw [hn, prs_drop hi, hb, w64_succ (i := i) (by omega)]
      simp only [Option.bind_some, Bool.not_false, Bool.true_and]
      by_cases hz : desc q[i] q[(i + 1) % q.length] = true
      · rw [hz] at hd
        refine ev_pos (by simpa using hd) ?_
        rw [if_pos hz] at hct
        rw [w64_succ (i := ((prs q).take i).countP dsc) (by omega)]
        rw [hct] at ih
        exact ih
      · rw [Bool.eq_false_iff.2 hz] at hd
        refine ev_neg (by simpa using hd) ?_
        rw [if_neg hz, Nat.add_zero] at hct
        rw [hct] at ih
        exact ih
    have stop : bad q[i] q[(i + 1) % q.length] = true → Ev (fun k => impl_convex.j1 k (L q) ((((prs q).take i).countP dsc : Nat) : Int) (ofV q[i]) (ofV q[(i + 1) % q.length]) (L q) ((L q).length : Int) (i : Int) true) (((prs q).drop i).all good && decide ((prs q).countP dsc = 1)) := by
      intro hb
      refine ev_step ?_
      simp only [impl_convex.j1]
      refine ev_pos (by trivial) ?_
      rw [prs_drop hi, hb]
      simpa using ev_some _
    refine ev_step ?_
    simp only [impl_convex.l0]
    rw [em, rdl_L hi, rdl_L hm, impl_cross_eq ba bb, len_ofV, len_ofV, rd0, rd0, rd1, rd1, dot_wrap ba bb]
    simp only [Option.bind_some]
    refine ev_pos (by rw [lenL]; omega) (ev_pos (by omega) (ev_pos (by rw [lenL]; omega) (ev_neg (by rw [lenL]; omega) (ev_pos (by omega) (ev_pos (by rw [lenL]; omega) ?_)))))
    by_cases c1 : cr q[i] q[(i + 1) % q.length] < 0
    · exact ev_pos c1 (stop (by unfold bad; rw [decide_eq_true c1]; rfl))
    · refine ev_neg c1 ?_
      by_cases c2 : cr q[i] q[(i + 1) % q.length] = 0
      · refine ev_pos c2 (ev_pos (by decide) (ev_pos (by decide) (ev_pos (by decide) (ev_pos (by decide) ?_))))
        by_cases c3 : dot q[i] q[(i + 1) % q.length] < 0
        · rw [decide_eq_true c3]
          exact stop (by unfold bad; rw [decide_eq_true c2, decide_eq_true c3]; simp)
        · rw [decide_eq_false c3]
          exact cont (by unfold bad; rw [decide_eq_false c1, decide_eq_false c3]; simp)
      · exact ev_neg c2 (cont (by unfold bad; rw [decide_eq_false c1, decide_eq_false c2]; rfl))
theorem impl_PathConvex_ev {q : List V} (h : Path q) : Ev (fun k => impl_PathConvex.f k (L q)) (cvx q) := by
  unfold impl_PathConvex.f
  have hq := h.hi
  refine Ev.bind (impl_PathIn_ev _ (by rw [L_length]; omega)) ?_
  rw [pathB_L h]
  exact ev_pos rfl (Ev.bind (impl_convex_ev h) (ev_some _))
theorem sx_take {q : List V} {i : Nat} (h : i < q.length) : sx (q.take (i + 1)) = sx (q.take i) + q[i].1 := by
  rw [List.take_succ_eq_append_getElem h, sx_append]; simp [sx]
theorem sy_take {q : List V} {i : Nat} (h : i < q.length) : sy (q.take (i + 1)) = sy (q.take i) + q[i].2 := by
  rw [List.take_succ_eq_append_getElem h, sy_append]; simp [sy]
theorem st_bound {q : List V} (h : Path q) (i : Nat) : (-72 ≤ sx (q.take i) ∧ sx (q.take i) ≤ 72) ∧ -72 ≤ sy (q.take i) ∧ sy (q.take i) ≤ 72 := by
  have hx := sx_bound (take_mem h.st i)
  have hy := sy_bound (take_mem h.st i)
  have hl : ((q.take i).length : Int) ≤ 8 := by have := h.hi; simp; omega
  omega
/-- The corners of a path. -/
def corn (q : List V) : List V := (List.range q.length).map fun i => (sx (q.take i), sy (q.take i))
theorem corn_length (q : List V) : (corn q).length = q.length := by simp [corn]
theorem corn_get {q : List V} {i : Nat} (h : i < q.length) : (corn q)[i]'(by rw [corn_length]; exact h) = (sx (q.take i), sy (q.take i)) := by simp [corn]
theorem corn_take {q : List V} {i : Nat} (h : i < q.length) : L ((corn q).take i) ++ [[sx (q.take i), sy (q.take i)]] = L ((corn q).take (i + 1)) := by
  rw [List.take_succ_eq_append_getElem (by rw [corn_length]; exact h), corn_get h]
  simp [L, ofV]

theorem A_take {q : List V} {i : Nat} (h : i < q.length) : A (q.take (i + 1)) = A (q.take i) + (sx (q.take i) * q[i].2 - sy (q.take i) * q[i].1) := by
  rw [List.take_succ_eq_append_getElem h, A_snoc]
theorem A_tb {q : List V} (h : Path q) (i : Nat) : -10368 ≤ A (q.take i) ∧ A (q.take i) ≤ 10368 := by
  have hl : (q.take i).length ≤ 8 := by have := h.hi; simp; omega
  have := A_bound (take_mem h.st i) 8 hl
  have h2 : ((q.take i).length : Int) ≤ 8 := by omega
  omega
theorem impl_areaOf_ev {q : List V} (h : Path q) : Ev (fun k => impl_areaOf.f k (L q)) (A q) := by
  unfold impl_areaOf.f
  have hq := h.hi
  have key := ev_count (fun k i => impl_areaOf.l0 k (A (q.take i)) (sx (q.take i)) (sy (q.take i)) (L q) ((L q).length : Int) (i : Int)) (fun _ => A q) q.length ?_ ?_ 0 (by omega)
  · exact key
  · refine ev_step ?_
    simp only [impl_areaOf.l0]
    refine ev_neg (by rw [lenL]; omega) ?_
    rw [List.take_length]
    exact ev_some _
  · intro i hi ih
    have hv := h.st q[i] (List.getElem_mem _)
    simp only [stepV] at hv
    have hb := st_bound h i
    have ha := A_tb h (i + 1)
    rw [A_take hi] at ih ha
    rw [sx_take hi, sy_take hi] at ih
    refine ev_step ?_
    simp only [impl_areaOf.l0]
    rw [rdl_L hi, len_ofV, rd0, rd1, w64_succ (by omega), w64 (x := sx (q.take i) + q[i].1) (by omega), w64 (x := sy (q.take i) + q[i].2) (by omega)]
    simp only [w_sub_l, w_sub_r, w_add_r]
    have e : A (q.take i) + (sx (q.take i) * (sy (q.take i) + q[i].2) - sy (q.take i) * (sx (q.take i) + q[i].1)) = A (q.take i) + (sx (q.take i) * q[i].2 - sy (q.take i) * q[i].1) := by grind
    rw [e, w64 (by omega)]
    exact ev_pos (by rw [lenL]; omega) (ev_pos (by omega) (ev_pos (by rw [lenL]; omega) (ev_pos (by decide) (ev_pos (by decide) ih))))

theorem gcd_next (a b : Nat) (hb : b ≠ 0) : Nat.gcd a b = Nat.gcd b (a % b) := by
  rw [Nat.gcd_comm a b, Nat.gcd_rec b a, Nat.gcd_comm]
theorem impl_gcd_loop (n : Nat) : ∀ (a b : Nat), b ≤ n → Ev (fun k => impl_gcd.l0 k (a : Int) (b : Int)) ((Nat.gcd a b : Nat) : Int) := by
  induction n with
  | zero =>
    intro a b hb
    obtain rfl : b = 0 := by omega
    refine ev_step ?_
    simp only [impl_gcd.l0]
    refine ev_pos (by omega) ?_
    rw [Nat.gcd_zero_right]
    exact ev_some _
  | succ n ih =>
    intro a b hb
    by_cases c : b = 0
    · subst c
      refine ev_step ?_
      simp only [impl_gcd.l0]
      refine ev_pos (by omega) ?_
      rw [Nat.gcd_zero_right]
      exact ev_some _
    · refine ev_step ?_
      simp only [impl_gcd.l0]
      refine ev_neg (by omega) ?_
      have hm : a % b < b := Nat.mod_lt _ (by omega)
      rw [gcd_next a b c, ← Int.ofNat_tmod]
      exact ih b (a % b) (by omega)
theorem abs_mx {x : Int} (h : -9 ≤ x ∧ x ≤ 9) : mx x (wrap64 (-x)) = (x.natAbs : Int) := by
  rw [w64 (by omega), mx_eq]; omega
theorem impl_gcd_ev (v : V) (h : stepV v) : Ev (fun k => impl_gcd.f k v.1 v.2) (dv v) := by
  unfold impl_gcd.f dv
  simp only [stepV] at h
  rw [abs_mx (by omega), abs_mx (by omega)]
  exact impl_gcd_loop _ _ _ (Nat.le_refl _)
theorem rim_take {q : List V} {i : Nat} (h : i < q.length) : rim (q.take (i + 1)) = rim (q.take i) + dv q[i] := by
  rw [List.take_succ_eq_append_getElem h, rim_snoc]
theorem rim_tb {q : List V} (h : Path q) (i : Nat) : 0 ≤ rim (q.take i) ∧ rim (q.take i) ≤ 72 := by
  have := rim_bound (take_mem h.st i)
  have h8 := h.hi
  have hl : ((q.take i).length : Int) ≤ 8 := by simp; omega
  omega
theorem impl_PathRim_ev {q : List V} (h : Path q) : Ev (fun k => impl_PathRim.f k (L q)) (rim q, true) := by
  unfold impl_PathRim.f
  have hq := h.hi
  refine Ev.bind (impl_PathIn_ev _ (by rw [L_length]; omega)) ?_
  rw [pathB_L h]
  refine ev_pos rfl ?_
  have key := ev_count (fun k i => impl_PathRim.l0 k (rim (q.take i)) (L q) ((L q).length : Int) (i : Int)) (fun _ => (rim q, true)) q.length ?_ ?_ 0 (by omega)
  · exact key
  · refine ev_step ?_
    simp only [impl_PathRim.l0]
    refine ev_neg (by rw [lenL]; omega) ?_
    rw [List.take_length]
    exact ev_some _
  · intro i hi ih
    have hr := rim_tb h (i + 1)
    have hr0 := rim_tb h i
    rw [rim_take hi] at ih hr
    refine ev_step ?_
    simp only [impl_PathRim.l0]
    rw [rdl_L hi, len_ofV, rd0, rd1, w64_succ (i := i) (by omega)]
    refine ev_pos (by rw [lenL]; omega) (ev_pos (by omega) (ev_pos (by rw [lenL]; omega) (ev_pos (by decide) (ev_pos (by decide) (Ev.bind (impl_gcd_ev q[i] (h.st _ (List.getElem_mem _))) ?_)))))
    rw [w64 (by omega)]
    exact ih
def goodB (q : List V) : Bool := cvx q && decide (0 < A q)
def insv (q : List V) : Int := Int.tdiv (A q - rim q + 2) 2
theorem insv_w {q : List V} (h : Path q) : wrap64 (Int.tdiv (wrap64 (wrap64 (A q - rim q) + 2)) 2) = insv q := by
  have hA := path_A h
  have hR := rim_bound h.st
  have hq := h.hi
  have e : A q - rim q + 2 = A q - rim q + 2 := rfl
  rw [w64 (x := A q - rim q) (by omega), w64 (x := A q - rim q + 2) (by omega)]
  unfold insv
  refine w64 ?_
  by_cases c : A q - rim q + 2 < 0
  · have := Int.neg_tdiv (a := -(A q - rim q + 2)) (b := 2)
    rw [Int.neg_neg] at this
    rw [this, Int.tdiv_eq_ediv_of_nonneg (by omega)]
    omega
  · rw [Int.tdiv_eq_ediv_of_nonneg (by omega)]
    omega
theorem impl_PathInside_ev {q : List V} (h : Path q) : Ev (fun k => impl_PathInside.f k (L q)) (if goodB q = true then (insv q, true) else (0, false)) := by
  unfold impl_PathInside.f goodB
  refine Ev.bind (impl_PathConvex_ev h) ?_
  by_cases c : cvx q = true
  · refine ev_pos c (Ev.bind (impl_areaOf_ev h) (ev_step ?_))
    simp only [impl_PathInside.j0]
    by_cases d : A q ≤ 0
    · refine ev_pos (by simpa using d) ?_
      rw [c, Bool.true_and, if_neg (by simp; omega)]
      exact ev_some _
    · refine ev_neg (by simpa using d) (Ev.bind (impl_PathRim_ev h) (Ev.bind (impl_areaOf_ev h) ?_))
      simp only []
      rw [c, Bool.true_and, if_pos (by simp; omega), insv_w h]
      exact ev_some _
  · refine ev_neg c (ev_step ?_)
    simp only [impl_PathInside.j0]
    rw [Bool.eq_false_iff.2 c, Bool.false_and, if_neg (by decide)]
    exact ev_pos (by trivial) (ev_some _)
theorem good_zono {q : List V} (h : Star q) (c : ¬ PS Star.nz q = 0) : goodB (zono q) = true := by
  have hp : 0 < PS ac q := pieces_pos.2 (by have := PS_nonneg nz_nonneg q; omega)
  unfold goodB
  rw [cvx_zono h, A_zono h, decide_eq_true hp, decide_eq_true (by omega)]; rfl

theorem impl_ZonoInside_ev {q : List V} (h : Star q) : Ev (fun k => impl_ZonoInside.f k (L q)) (if PS Star.nz q = 0 then (0, false) else (insv (zono q), true)) := by
  unfold impl_ZonoInside.f
  refine Ev.bind (impl_ZonoPieces_ev h) (ev_pos rfl (ev_step ?_))
  simp only [impl_ZonoInside.j0]
  by_cases c : PS Star.nz q = 0
  · rw [if_pos c]
    exact ev_pos (by simp [c]) (ev_some _)
  · rw [if_neg c]
    refine ev_neg (by simp [c]) (Ev.bind (impl_zonogon_ev h) (Ev.bind (impl_PathInside_ev (path_zono h)) ?_))
    rw [good_zono h c, if_pos rfl]
    exact ev_some _
theorem impl_ZonoInside_no {p : List (List Int)} (hl : p.length ≤ 1048576) (h : starB p = false) : Ev (fun k => impl_ZonoInside.f k p) (0, false) := by
  unfold impl_ZonoInside.f
  refine Ev.bind (impl_ZonoPieces_no hl h) (ev_neg (by simp) (ev_step ?_))
  simp only [impl_ZonoInside.j0]
  exact ev_pos (by trivial) (ev_some _)

theorem spec_l6In_eq' (a b c : Int) : spec_l6In.f a b c = some (decide (b ≤ a ∧ a ≤ c)) := by
  unfold spec_l6In.f
  by_cases h : a ≥ b
  · rw [if_pos h]; simp; intro _; exact h
  · rw [if_neg h]; simp; omega
theorem spec_l6sStep_eq (s : List Int) : spec_l6sStep.f s = some (stepB s) := by
  match s with
  | [] => rfl
  | [_] => rfl
  | [x, y] =>
    unfold spec_l6sStep.f
    have h0 : rd [x, y] 0 = x := rfl
    have h1 : rd [x, y] 1 = y := rfl
    have hl : ([x, y].length : Int) = 2 := rfl
    rw [h0, h1, hl, if_pos rfl, if_pos (by decide), spec_l6In_eq', spec_l6In_eq']
    simp only [Option.bind_some]
    rw [stepB_two]
    by_cases b : -9 ≤ x ∧ x ≤ 9
    · rw [if_pos (by simpa using b), if_pos (by decide)]
      by_cases d : -9 ≤ y ∧ y ≤ 9
      · rw [if_pos (by simpa using d)]
        by_cases e : x = 0
        · rw [if_pos e]
          by_cases f : y = 0
          · subst e f; rfl
          · have : (y != 0) = true := by simpa using f
            rw [this, decide_eq_true (by omega)]
        · rw [if_neg e, decide_eq_true (by omega)]
      · rw [if_neg (by simpa using d), decide_eq_false (by omega)]
    · rw [if_neg (by simpa using b), decide_eq_false (by omega)]
  | a :: b :: c :: t =>
    unfold spec_l6sStep.f
    rw [if_neg (by simp; omega)]; rfl

theorem spec_l7Star_ev (p : List (List Int)) (h : p.length ≤ 1048576) : Ev (fun k => spec_l7Star.f k p) (starB p) := by
  unfold spec_l7Star.f
  have key := ev_count (fun k i => spec_l7Star.l0 k p (i : Int)) (fun i => (p.drop i).all stepB && decide (2 ≤ p.length) && decide (p.length ≤ 4)) p.length ?_ ?_ 0 (by omega)
  · exact key
  · refine ev_step ?_
    simp only [spec_l7Star.l0]
    refine ev_neg (by omega) ?_
    rw [List.drop_length, spec_l6In_eq']
    simp only [Option.bind_some]
    have e : decide ((2 : Int) ≤ p.length ∧ (p.length : Int) ≤ 4) = (decide (2 ≤ p.length) && decide (p.length ≤ 4)) := by
      rw [← Bool.decide_and]; exact decide_eq_decide.2 (by omega)
    rw [e]
    simpa using ev_some _
  · intro i hi ih
    refine ev_step ?_
    simp only [spec_l7Star.l0]
    refine ev_pos (by omega) (ev_pos (by omega) ?_)
    rw [rdl_get hi, spec_l6sStep_eq, drop_cons hi, List.all_cons]
    simp only [Option.bind_some]
    by_cases hs : stepB p[i] = true
    · refine ev_pos hs ?_
      rw [w64_succ (by omega), hs, Bool.true_and]
      exact ih
    · refine ev_neg hs ?_
      rw [Bool.eq_false_iff.2 hs]
      simpa using ev_some _

theorem spec_l6sCross_eq {a b : V} (ha : stepV a) (hb : stepV b) : spec_l6sCross.f (ofV a) (ofV b) = some (cr a b) := by
  have h := Star.cr_bound ha hb
  unfold cr at h
  unfold spec_l6sCross.f cr
  rw [len_ofV, len_ofV, if_pos (by decide), if_pos (by decide), if_pos (by decide), if_pos (by decide), rd0, rd0, rd1, rd1]
  simp only [w_sub_l, w_sub_r]
  rw [w64 (by omega)]

theorem spec_l7Pieces_ev {q : List V} (h : Star q) : Ev (fun k => spec_l7Pieces.f k (L q)) (PS nz q) := by
  have hq := h.hi
  unfold spec_l7Pieces.f
  have key := ev_count (fun k i => spec_l7Pieces.l0 k (L q) (PS nz (q.take i)) (i : Int)) (fun _ => PS nz q) q.length ?_ ?_ 0 (by omega)
  · exact key
  · refine ev_step ?_
    simp only [spec_l7Pieces.l0]
    refine ev_neg (by rw [lenL]; omega) ?_
    rw [List.take_length]
    exact ev_some _
  · intro i hi ih
    refine ev_step ?_
    simp only [spec_l7Pieces.l0]
    refine ev_pos (by rw [lenL]; omega) ?_
    have key2 := ev_count (fun k j => spec_l7Pieces.l1 k (L q) (PS nz (q.take i) + RS nz q[i] (q.take j)) (i : Int) (j : Int)) (fun _ => PS nz q) i ?_ ?_ 0 (by omega)
    · have e0 : RS nz q[i] (q.take 0) = 0 := rfl
      simp only [e0, Int.add_zero] at key2
      exact key2
    · refine ev_step ?_
      simp only [spec_l7Pieces.l1]
      refine ev_neg (by omega) ?_
      rw [PS_take _ hi] at ih
      rw [w64_succ (by omega)]
      exact ih
    · intro j hj ih2
      have hjq : j < q.length := by omega
      have ha := pieces_bound h i
      have hr := prow_bound h i (j + 1) hi
      rw [RS_take nz q[i] hjq] at ih2 hr
      refine ev_step ?_
      simp only [spec_l7Pieces.l1]
      refine ev_pos (by omega) (ev_pos (by omega) (ev_pos (by rw [lenL]; omega) (ev_pos (by omega) (ev_pos (by rw [lenL]; omega) ?_))))
      rw [rdl_L hi, rdl_L hjq, spec_l6sCross_eq (h.st q[i] (List.getElem_mem _)) (h.st q[j] (List.getElem_mem _))]
      simp only [Option.bind_some]
      rw [w64_succ (by omega)]
      by_cases c : cr q[i] q[j] = 0
      · have en : nz q[i] q[j] = 0 := by unfold nz; rw [if_pos c]
        rw [en, Int.add_zero] at ih2
        exact ev_pos c ih2
      · have en : nz q[i] q[j] = 1 := by unfold nz; rw [if_neg c]
        rw [en] at ih2 hr
        rw [w64 (by omega), Int.add_assoc]
        exact ev_neg c ih2

theorem spec_cross_eq {a b : V} (ha : b9 a) (hb : b9 b) : spec_l6sCross.f (ofV a) (ofV b) = some (cr a b) := by
  unfold spec_l6sCross.f
  rw [len_ofV, len_ofV, if_pos (by decide), if_pos (by decide), if_pos (by decide), if_pos (by decide), rd0, rd0, rd1, rd1]
  simp only [w_sub_l, w_sub_r]
  have := cr_bound ha hb
  unfold cr at this ⊢
  rw [w64 (by omega)]
theorem spec_half_eq (a : V) : spec_l6sHalf.f (ofV a) = some (half a) := by
  unfold spec_l6sHalf.f half
  rw [len_ofV, rd0, rd1, if_pos (by decide)]
  by_cases c : a.2 > 0
  · rw [if_pos c, if_pos c]
  · rw [if_neg c, if_neg c]
    by_cases d : a.2 = 0
    · rw [if_pos d, if_pos (by decide)]
      by_cases e : a.1 > 0
      · rw [if_pos e, if_pos ⟨d, e⟩]
      · rw [if_neg e, if_neg (fun h => e h.2)]
    · rw [if_neg d, if_neg (fun h => d h.1)]
theorem spec_before_eq {a b : V} (ha : b9 a) (hb : b9 b) : spec_l6sBefore.f (ofV a) (ofV b) = some (before a b) := by
  unfold spec_l6sBefore.f before
  rw [spec_half_eq, spec_half_eq, spec_cross_eq ha hb]
  simp only [Option.bind_some]
  by_cases c : half a = half b
  · rw [if_pos c, if_pos c]
  · rw [if_neg c, if_neg c]

theorem sorted_inner {q : List V} (hq : ∀ v ∈ q, b9 v) (hl : q.length ≤ 1048576) {i : Nat} (hi : i < q.length) (out : List V) (ho : ∀ v ∈ out, b9 v) (hol : out.length = i) (r : List (List Int))
    (hk : Ev (fun k => spec_l7Sorted.l0 k (L q) (L (ins q[i] out)) ((i + 1 : Nat) : Int)) r) :
    ∀ k : Nat, k ≤ out.length → pos q[i] out k = pos q[i] out out.length → Ev (fun n => spec_l7Sorted.l1 n (L q) (L out) (i : Int) (k : Int)) r := by
  have put : ∀ k : Nat, k ≤ out.length → k = pos q[i] out out.length → Ev (fun n => (if 0 < (([q[i].1, q[i].2] : List Int).length : Int) then (if 1 < (([q[i].1, q[i].2] : List Int).length : Int) then ((some ([] : List (List Int))).bind fun y => (if 0 ≤ (k : Int) then (if (k : Int) ≤ ((L out).length : Int) then ((some ((L out).take (k : Int).toNat)).bind fun y2 => (if y.length + y2.length < 5864062014805 then ((some (y ++ y2)).bind fun y3 => ((some [[rd [q[i].1, q[i].2] 0, rd [q[i].1, q[i].2] 1]]).bind fun y4 => (if y3.length + y4.length < 5864062014805 then ((some (y3 ++ y4)).bind fun y5 => ((some ((L out).drop (k : Int).toNat)).bind fun y6 => (if y5.length + y6.length < 5864062014805 then spec_l7Sorted.l0 n (L q) (y5 ++ y6) ((i + 1 : Nat) : Int) else none))) else none))) else none)) else none) else none)) else none) else none)) r := by
    intro k hk1 hkp
    have h2 : (([q[i].1, q[i].2] : List Int).length : Int) = 2 := rfl
    refine ev_pos (by rw [h2]; decide) (ev_pos (by rw [h2]; decide) ?_)
    simp only [Option.bind_some]
    refine ev_pos (by omega) (ev_pos (by rw [lenL]; omega) ?_)
    refine ev_pos (by simp [L]; omega) (ev_pos (by simp [L]; omega) (ev_pos (by simp [L]; omega) ?_))
    have e : ([] ++ (L out).take (k : Int).toNat ++ [[rd [q[i].1, q[i].2] 0, rd [q[i].1, q[i].2] 1]]) ++ (L out).drop (k : Int).toNat = L (ins q[i] out) := by
      rw [Int.toNat_natCast, List.nil_append, L_take, L_drop, hkp]
      unfold ins
      rw [← L_append, ← L_append]; rfl
    rw [e]
    exact hk
  intro k
  induction k with
  | zero =>
    intro _ hp
    refine ev_step ?_
    simp only [spec_l7Sorted.l1]
    refine ev_neg (by omega) (ev_pos (by omega) (ev_pos (by rw [lenL]; omega) ?_))
    rw [rdl_L hi, w64_succ (by omega)]
    exact put 0 (by omega) (by rw [← hp]; rfl)
  | succ k ih =>
    intro hkl hp
    refine ev_step ?_
    simp only [spec_l7Sorted.l1]
    have ek : wrap64 (((k + 1 : Nat) : Int) - 1) = (k : Int) := by rw [w64 (by omega)]; omega
    rw [ek]
    refine ev_pos (by omega) (ev_pos (by omega) (ev_pos (by rw [lenL]; omega) (ev_pos (by omega) (ev_pos (by rw [lenL]; omega) ?_))))
    rw [rdl_L hi, rdl_L (show k < out.length by omega), spec_before_eq (hq _ (List.getElem_mem _)) (ho _ (List.getElem_mem _))]
    simp only [Option.bind_some]
    have eg : out.getD k (0, 0) = out[k]'(by omega) := by simp [show k < out.length by omega]
    rw [pos_succ, eg] at hp
    by_cases c : before q[i] (out[k]'(by omega)) = true
    · rw [if_pos c] at hp
      exact ev_pos c (ih (by omega) hp)
    · rw [if_neg c] at hp
      refine ev_neg c ?_
      rw [w64_succ (by omega)]
      exact put (k + 1) hkl hp
theorem spec_sorted_ev {q : List V} (hq : ∀ v ∈ q, b9 v) (hl : q.length ≤ 1048576) : Ev (fun k => spec_l7Sorted.f k (L q)) (L (srt q)) := by
  unfold spec_l7Sorted.f
  have key := ev_count (fun k i => spec_l7Sorted.l0 k (L q) (L (srt (q.take i))) (i : Int)) (fun _ => L (srt q)) q.length ?_ ?_ 0 (by omega)
  · exact key
  · refine ev_step ?_
    simp only [spec_l7Sorted.l0]
    refine ev_neg (by rw [lenL]; omega) ?_
    rw [List.take_length]
    exact ev_some _
  · intro i hi ih
    refine ev_step ?_
    simp only [spec_l7Sorted.l0]
    refine ev_pos (by rw [lenL]; omega) ?_
    rw [lenL]
    rw [srt_take hi] at ih
    refine sorted_inner hq hl hi (srt (q.take i)) (fun v hv => hq v (List.mem_of_mem_take (srt_mem.1 hv))) (by rw [srt_length]; simp; omega) _ ih _ (Nat.le_refl _) rfl

theorem zs_take {q : List V} {i : Nat} (hi : i < q.length) (x : List Int) (e : x = ofV (upV q[i])) : L ((q.take i).map upV) ++ [x] = L ((q.take (i + 1)).map upV) := by
  rw [e, List.take_succ_eq_append_getElem hi, List.map_append, ← L_append]; rfl
theorem b9_zs {q : List V} (h : ∀ v ∈ q, stepV v) : ∀ v ∈ q.map upV, b9 v := fun v hv => by
  obtain ⟨u, hu, rfl⟩ := List.mem_map.1 hv
  have := (step_up (h u hu)).1
  simp only [stepV] at this
  unfold b9; omega
theorem spec_zono_tail {q : List V} (h : Star q) : Ev (fun k => spec_l7Zono.l1 k (L (zs q)) (L (zs q)) 0) (L (zono q)) := by
  have hz := zs_length q
  have h8 := h.hi
  have key := ev_count (fun k i => spec_l7Zono.l1 k (L (zs q)) (L (zs q ++ ((zs q).take i).map neg)) (i : Int)) (fun _ => L (zono q)) (zs q).length ?_ ?_ 0 (by omega)
  · rw [List.take_zero, List.map_nil, List.append_nil] at key
    exact key
  · refine ev_step ?_
    simp only [spec_l7Zono.l1]
    refine ev_neg (by rw [lenL]; omega) ?_
    rw [List.take_length]
    exact ev_some _
  · intro i hi ih
    have hs := (zs_mem h.st (zs q)[i] (List.getElem_mem _)).1
    simp only [stepV] at hs
    refine ev_step ?_
    simp only [spec_l7Zono.l1]
    rw [rdl_L hi, len_ofV, rd0, rd1, w64 (x := -(zs q)[i].1) (by omega), w64 (x := -(zs q)[i].2) (by omega), w64_succ (by omega)]
    have e : L (zs q ++ ((zs q).take i).map neg) ++ [[-(zs q)[i].1, -(zs q)[i].2]] = L (zs q ++ ((zs q).take (i + 1)).map neg) := by
      rw [List.take_succ_eq_append_getElem hi, List.map_append, ← List.append_assoc, ← L_append (zs q ++ _)]; rfl
    rw [e]
    exact ev_pos (by rw [lenL]; omega) (ev_pos (by omega) (ev_pos (by decide) (ev_pos (by decide) (ev_pos (by simp [L]; omega) ih))))
theorem spec_zono_ev {q : List V} (h : Star q) : Ev (fun k => spec_l7Zono.f k (L q)) (L (zono q)) := by
  unfold spec_l7Zono.f
  have h8 := h.hi
  have key := ev_count (fun k i => spec_l7Zono.l0 k (L q) (L ((q.take i).map upV)) (i : Int)) (fun _ => L (zono q)) q.length ?_ ?_ 0 (by omega)
  · exact key
  · refine ev_step ?_
    simp only [spec_l7Zono.l0]
    refine ev_neg (by rw [lenL]; omega) ?_
    rw [List.take_length]
    refine Ev.bind (spec_sorted_ev (b9_zs h.st) (by rw [List.length_map]; omega)) ?_
    have e : srt (q.map upV) = zs q := rfl
    rw [e]
    simp only [Option.bind_some]
    refine ev_pos (by have := zs_length q; simp [L]; omega) ?_
    rw [List.nil_append]
    exact spec_zono_tail h
  · intro i hi ih
    have hs := h.st q[i] (List.getElem_mem _)
    have hs' := hs
    simp only [stepV] at hs'
    refine ev_step ?_
    simp only [spec_l7Zono.l0]
    rw [rdl_L hi, spec_half_eq, len_ofV, rd0, rd1, w64 (x := -q[i].1) (by omega), w64 (x := -q[i].2) (by omega), w64_succ (by omega)]
    simp only [Option.bind_some]
    refine ev_pos (by rw [lenL]; omega) (ev_pos (by omega) ?_)
    rcases half_cases q[i] with c | c
    · refine ev_pos c (ev_pos (by decide) (ev_pos (by decide) (ev_pos (by simp [L]; omega) ?_)))
      rw [zs_take hi [q[i].1, q[i].2] (by unfold upV; rw [if_neg (by omega)]; rfl)]
      exact ih
    · refine ev_neg (by omega) (ev_pos (by decide) (ev_pos (by decide) (ev_pos (by simp [L]; omega) ?_)))
      rw [zs_take hi [-q[i].1, -q[i].2] (by unfold upV; rw [if_pos c]; rfl)]
      exact ih

theorem spec_l6sSum_ev (p : List (List Int)) (h : p.length ≤ 1048576) (ha : p.all stepB = true) : Ev (fun k => spec_l6sSum.f k p) (gx p, gy p) := by
  unfold spec_l6sSum.f
  have key := ev_count (fun k i => spec_l6sSum.l0 k p (gx (p.take i)) (gy (p.take i)) (i : Int)) (fun _ => (gx p, gy p)) p.length ?_ ?_ 0 (by omega)
  · exact key
  · refine ev_step ?_
    simp only [spec_l6sSum.l0]
    refine ev_neg (by omega) ?_
    rw [List.take_length]
    exact ev_some _
  · intro i hi ih
    refine ev_step ?_
    simp only [spec_l6sSum.l0]
    refine ev_pos (by omega) (ev_pos (by omega) ?_)
    rw [rdl_get hi]
    have hs : stepB p[i] = true := List.all_eq_true.1 ha _ (List.getElem_mem _)
    have ha' : (p.take (i + 1)).all stepB = true := List.all_eq_true.2 (fun s hs => List.all_eq_true.1 ha s (List.mem_of_mem_take hs))
    have hb := g_bound ha'
    rw [gx_take hi, gy_take hi] at ih hb
    obtain ⟨v, hv, hsv⟩ := stepB_of _ hs
    rw [hv] at ih hb ⊢
    refine ev_pos (by rw [len_ofV]; decide) (ev_pos (by rw [len_ofV]; decide) ?_)
    have hlen : ((p.take (i + 1)).length : Int) ≤ 1048576 := by simp; omega
    rw [w64_succ (by omega), rd0, rd1]
    have e0 : (ofV v).getD 0 0 = v.1 := rfl
    have e1 : (ofV v).getD 1 0 = v.2 := rfl
    rw [e0, e1] at ih hb
    rw [w64 (by omega), w64 (by omega)]
    exact ih
theorem spec_PathIn_ev (p : List (List Int)) (h : p.length ≤ 1048576) : Ev (fun k => spec_PathIn.f k p) (pathB p) := by
  unfold spec_PathIn.f
  have key := down (fun i => (p.take i).all stepB = true → Ev (fun k => spec_PathIn.l0 k p (i : Int)) (decide (3 ≤ p.length) && decide (p.length ≤ 8) && (p.drop i).all stepB && decide (gx p = 0) && decide (gy p = 0))) p.length ?_ ?_ 0 (by omega)
  · exact key rfl
  · intro ha
    rw [List.take_length] at ha
    refine ev_step ?_
    simp only [spec_PathIn.l0]
    refine ev_neg (by omega) (Ev.bind (spec_l6sSum_ev p h ha) ?_)
    rw [spec_l6In_eq', List.drop_length]
    simp only [Option.bind_some]
    by_cases c : (3 : Int) ≤ p.length ∧ (p.length : Int) ≤ 8
    · refine ev_pos (by simpa using c) ?_
      rw [decide_eq_true (by omega), decide_eq_true (by omega)]
      by_cases c : gx p = 0
      · refine ev_pos c ?_
        rw [c]
        have : (gy p == 0) = decide (gy p = 0) := rfl
        rw [this]
        simpa using ev_some _
      · refine ev_neg c ?_
        rw [decide_eq_false c]
        simpa using ev_some _
    · refine ev_neg (by simpa using c) ?_
      have : (decide (3 ≤ p.length) && decide (p.length ≤ 8)) = false := by
        rw [Bool.and_eq_false_iff]; simp; omega
      rw [this]
      simpa using ev_some _
  · intro i hi ih ha
    refine ev_step ?_
    simp only [spec_PathIn.l0]
    refine ev_pos (by omega) (ev_pos (by omega) ?_)
    rw [rdl_get hi, spec_l6sStep_eq, drop_cons hi, List.all_cons]
    simp only [Option.bind_some]
    by_cases hs : stepB p[i] = true
    · refine ev_pos hs ?_
      rw [w64_succ (by omega), hs, Bool.true_and]
      exact ih (all_take hi ha hs)
    · refine ev_neg hs ?_
      rw [Bool.eq_false_iff.2 hs]
      simpa using ev_some _

theorem spec_convex_ev {q : List V} (h : Path q) : Ev (fun k => spec_l6sConvex.f k (L q)) (cvx q) := by
  unfold spec_l6sConvex.f cvx
  have hq := h.hi
  have h3 := h.lo
  have key := ev_count (fun k i => spec_l6sConvex.l0 k (L q) ((((prs q).take i).countP dsc : Nat) : Int) (i : Int)) (fun i => ((prs q).drop i).all good && decide ((prs q).countP dsc = 1)) q.length ?_ ?_ 0 (by omega)
  · exact key
  · refine ev_step ?_
    simp only [spec_l6sConvex.l0]
    refine ev_neg (by rw [lenL]; omega) ?_
    rw [List.take_of_length_le (by rw [prs_length]; omega), List.drop_of_length_le (by rw [prs_length]; omega)]
    have e : ((((prs q).countP dsc : Nat) : Int) == 1) = decide ((prs q).countP dsc = 1) := by
      rw [Bool.eq_iff_iff]; simp; omega
    rw [e]
    simpa using ev_some _
  · intro i hi ih
    have hm : (i + 1) % q.length < q.length := Nat.mod_lt _ (by omega)
    have em : Int.tmod (wrap64 ((i : Int) + 1)) ((L q).length : Int) = (((i + 1) % q.length : Nat) : Int) := by
      rw [w64_succ (by omega), lenL, ← Int.ofNat_tmod]
    have ba := b9_of h q[i] (List.getElem_mem _)
    have bb := b9_of h q[(i + 1) % q.length] (List.getElem_mem _)
    have hc := cnt_le q i
    have hct := cnt_take hi
    have cont : bad q[i] q[(i + 1) % q.length] = false → Ev (fun k => spec_l6sConvex.j1 k (L q) ((((prs q).take i).countP dsc : Nat) : Int) (i : Int) (ofV q[i]) (ofV q[(i + 1) % q.length]) false) (((prs q).drop i).all good && decide ((prs q).countP dsc = 1)) := by
      intro hb
      refine ev_step ?_
      simp only [spec_l6sConvex.j1]
      refine ev_neg (by simp) ?_
      rw [spec_before_eq bb ba, prs_drop hi, hb, w64_succ (i := i) (by omega)]
      simp only [Option.bind_some, Bool.not_false, Bool.true_and]
      by_cases hz : desc q[i] q[(i + 1) % q.length] = true
      · refine ev_pos hz ?_
        rw [if_pos hz] at hct
        rw [w64_succ (i := ((prs q).take i).countP dsc) (by omega)]
        rw [hct] at ih
        exact ih
      · refine ev_neg hz ?_
        rw [if_neg hz, Nat.add_zero] at hct
        rw [hct] at ih
        exact ih
    have stop : bad q[i] q[(i + 1) % q.length] = true → Ev (fun k => spec_l6sConvex.j1 k (L q) ((((prs q).take i).countP dsc : Nat) : Int) (i : Int) (ofV q[i]) (ofV q[(i + 1) % q.length]) true) (((prs q).drop i).all good && decide ((prs q).countP dsc = 1)) := by
      intro hb
      refine ev_step ?_
      simp only [spec_l6sConvex.j1]
      refine ev_pos (by trivial) ?_
      rw [prs_drop hi, hb]
      simpa using ev_some _
    refine ev_step ?_
    simp only [spec_l6sConvex.l0]
    rw [em, rdl_L hi, rdl_L hm, spec_cross_eq ba bb, len_ofV, len_ofV, rd0, rd0, rd1, rd1, dot_wrap ba bb]
    simp only [Option.bind_some]
    refine ev_pos (by rw [lenL]; omega) (ev_pos (by omega) (ev_neg (by rw [lenL]; omega) (ev_pos (by omega) (ev_pos (by rw [lenL]; omega) ?_))))
    by_cases c1 : cr q[i] q[(i + 1) % q.length] < 0
    · exact ev_pos c1 (stop (by unfold bad; rw [decide_eq_true c1]; rfl))
    · refine ev_neg c1 ?_
      by_cases c2 : cr q[i] q[(i + 1) % q.length] = 0
      · refine ev_pos c2 (ev_pos (by decide) (ev_pos (by decide) (ev_pos (by decide) (ev_pos (by decide) ?_))))
        by_cases c3 : dot q[i] q[(i + 1) % q.length] < 0
        · rw [decide_eq_true c3]
          exact stop (by unfold bad; rw [decide_eq_true c2, decide_eq_true c3]; simp)
        · rw [decide_eq_false c3]
          exact cont (by unfold bad; rw [decide_eq_false c1, decide_eq_false c3]; simp)
      · exact ev_neg c2 (cont (by unfold bad; rw [decide_eq_false c1, decide_eq_false c2]; rfl))

theorem spec_corners_ev {q : List V} (h : Path q) : Ev (fun k => spec_l6sCorners.f k (L q)) (L (corn q)) := by
  unfold spec_l6sCorners.f
  have key := ev_count (fun k i => spec_l6sCorners.l0 k (L q) (L ((corn q).take i)) (sx (q.take i)) (sy (q.take i)) (i : Int)) (fun _ => L (corn q)) q.length ?_ ?_ 0 (by omega)
  · exact key
  · refine ev_step ?_
    simp only [spec_l6sCorners.l0]
    refine ev_neg (by rw [lenL]; omega) ?_
    rw [List.take_of_length_le (by rw [corn_length]; exact Nat.le_refl _)]
    exact ev_some _
  · intro i hi ih
    have hq := h.hi
    have hv := h.st q[i] (List.getElem_mem _)
    have hb := st_bound h i
    simp only [stepV] at hv
    refine ev_step ?_
    simp only [spec_l6sCorners.l0]
    rw [rdl_L hi, lenL, len_ofV, rd0, rd1]
    refine ev_pos (by omega) (ev_pos (by rw [L_length]; simp; omega) (ev_pos (by omega) (ev_pos (by decide) (ev_pos (by decide) ?_))))
    rw [corn_take hi, w64_succ (by omega), w64 (by omega), w64 (by omega), ← sx_take hi, ← sy_take hi]
    exact ih

theorem spec_cross_mul (a b : V) : spec_l6sCross.f (ofV a) (ofV b) = some (wrap64 (cr a b)) := by
  unfold spec_l6sCross.f cr
  rw [len_ofV, len_ofV, if_pos (by decide), if_pos (by decide), if_pos (by decide), if_pos (by decide), rd0, rd0, rd1, rd1]
  simp only [w_sub_l, w_sub_r]
theorem spec_l6sArea_ev {q : List V} (h : Path q) : Ev (fun k => spec_l6sArea.f k (L q)) (A q) := by
  unfold spec_l6sArea.f
  have hq := h.hi
  have h3 := h.lo
  refine Ev.bind (spec_corners_ev h) ?_
  have key := ev_count (fun k i => spec_l6sArea.l0 k (A (q.take i)) (L (corn q)) (i : Int)) (fun _ => A q) q.length ?_ ?_ 0 (by omega)
  · exact key
  · refine ev_step ?_
    simp only [spec_l6sArea.l0]
    refine ev_neg (by rw [lenL, corn_length]; omega) ?_
    rw [List.take_length]
    exact ev_some _
  · intro i hi ih
    have hic : i < (corn q).length := by rw [corn_length]; exact hi
    have hm : (i + 1) % q.length < q.length := Nat.mod_lt _ (by omega)
    have hmc : (i + 1) % q.length < (corn q).length := by rw [corn_length]; exact hm
    have em : Int.tmod (wrap64 ((i : Int) + 1)) ((L (corn q)).length : Int) = (((i + 1) % q.length : Nat) : Int) := by
      rw [w64_succ (by omega), lenL, corn_length, ← Int.ofNat_tmod]
    have ha := A_tb h (i + 1)
    have e : cr ((corn q)[i]) ((corn q)[(i + 1) % q.length]) = sx (q.take i) * q[i].2 - sy (q.take i) * q[i].1 := by
      rw [corn_get hi, corn_get hm]
      have ex : sx (q.take ((i + 1) % q.length)) = sx (q.take (i + 1)) ∧ sy (q.take ((i + 1) % q.length)) = sy (q.take (i + 1)) := by
        by_cases c : i + 1 < q.length
        · rw [Nat.mod_eq_of_lt c]; exact ⟨rfl, rfl⟩
        · have : i + 1 = q.length := by omega
          rw [this, Nat.mod_self, List.take_length, h.x0, h.y0]; exact ⟨rfl, rfl⟩
      unfold cr
      dsimp only
      rw [ex.1, ex.2, sx_take hi, sy_take hi]
      grind
    rw [A_take hi] at ih ha
    refine ev_step ?_
    simp only [spec_l6sArea.l0]
    rw [em, rdl_L hic, rdl_L hmc, spec_cross_mul, e]
    simp only [Option.bind_some, w_add_r]
    rw [w64 (by omega), w64_succ (by omega)]
    exact ev_pos (by rw [lenL]; omega) (ev_pos (by omega) (ev_neg (by rw [lenL, corn_length]; omega) (ev_pos (by omega) (ev_pos (by rw [lenL]; omega) ih))))

theorem spec_good_ev {q : List V} (h : Path q) : Ev (fun k => spec_l6sGood.f k (L q)) (cvx q && decide (0 < A q)) := by
  have hq := h.hi
  unfold spec_l6sGood.f
  refine Ev.bind (spec_PathIn_ev _ (by rw [L_length]; omega)) ?_
  rw [pathB_L h]
  refine ev_pos rfl (Ev.bind (spec_convex_ev h) ?_)
  by_cases c : cvx q = true
  · refine ev_pos c (Ev.bind (spec_l6sArea_ev h) ?_)
    rw [c, Bool.true_and]
    exact ev_some _
  · refine ev_neg c ?_
    rw [Bool.eq_false_iff.2 c, Bool.false_and]
    exact ev_some _
theorem spec_gcd_loop (n : Nat) : ∀ (a b : Nat), b ≤ n → Ev (fun k => spec_l6sDivisor.l0 k (a : Int) (b : Int)) ((Nat.gcd a b : Nat) : Int) := by
  induction n with
  | zero =>
    intro a b hb
    obtain rfl : b = 0 := by omega
    refine ev_step ?_
    simp only [spec_l6sDivisor.l0]
    refine ev_neg (by omega) ?_
    rw [Nat.gcd_zero_right]
    exact ev_some _
  | succ n ih =>
    intro a b hb
    by_cases c : b = 0
    · subst c
      refine ev_step ?_
      simp only [spec_l6sDivisor.l0]
      refine ev_neg (by omega) ?_
      rw [Nat.gcd_zero_right]
      exact ev_some _
    · refine ev_step ?_
      simp only [spec_l6sDivisor.l0]
      refine ev_pos (by omega) (ev_neg (by omega) ?_)
      have hm : a % b < b := Nat.mod_lt _ (by omega)
      rw [gcd_next a b c, ← Int.ofNat_tmod]
      exact ih b (a % b) (by omega)
theorem spec_gcd_ev (v : V) (h : stepV v) : Ev (fun k => spec_l6sDivisor.f k v.1 v.2) (dv v) := by
  unfold spec_l6sDivisor.f dv
  simp only [stepV] at h
  rw [abs_mx (by omega), abs_mx (by omega)]
  exact spec_gcd_loop _ _ _ (Nat.le_refl _)
theorem spec_l6sRim_ev {q : List V} (h : Path q) : Ev (fun k => spec_l6sRim.f k (L q)) (rim q) := by
  unfold spec_l6sRim.f
  have hq := h.hi
  have key := ev_count (fun k i => spec_l6sRim.l0 k (L q) (rim (q.take i)) (i : Int)) (fun _ => rim q) q.length ?_ ?_ 0 (by omega)
  · exact key
  · refine ev_step ?_
    simp only [spec_l6sRim.l0]
    refine ev_neg (by rw [lenL]; omega) ?_
    rw [List.take_length]
    exact ev_some _
  · intro i hi ih
    have hr := rim_tb h (i + 1)
    have hr0 := rim_tb h i
    rw [rim_take hi] at ih hr
    refine ev_step ?_
    simp only [spec_l6sRim.l0]
    rw [rdl_L hi, len_ofV, rd0, rd1, w64_succ (i := i) (by omega)]
    refine ev_pos (by rw [lenL]; omega) (ev_pos (by omega) (ev_pos (by decide) (ev_pos (by decide) (Ev.bind (spec_gcd_ev q[i] (h.st _ (List.getElem_mem _))) ?_))))
    rw [w64 (by omega)]
    exact ih

theorem spec_PathInside_ev {q : List V} (h : Path q) : Ev (fun k => spec_PathInside.f k (L q)) (if goodB q = true then (insv q, true) else (0, false)) := by
  unfold spec_PathInside.f
  refine Ev.bind (spec_good_ev h) ?_
  by_cases c : goodB q = true
  · refine ev_pos c (Ev.bind (spec_l6sArea_ev h) (Ev.bind (spec_l6sRim_ev h) ?_))
    rw [if_pos c, insv_w h]
    exact ev_some _
  · refine ev_neg c ?_
    rw [if_neg c]
    exact ev_some _
theorem spec_ZonoInside_ev {q : List V} (h : Star q) : Ev (fun k => spec_ZonoInside.f k (L q)) (if PS Star.nz q = 0 then (0, false) else (insv (zono q), true)) := by
  unfold spec_ZonoInside.f
  have hq := h.hi
  refine Ev.bind (spec_l7Star_ev _ (by rw [L_length]; omega)) ?_
  rw [starB_L h]
  refine ev_pos rfl (Ev.bind (spec_l7Pieces_ev h) (ev_step ?_))
  simp only [spec_ZonoInside.j0]
  by_cases c : PS Star.nz q = 0
  · rw [if_pos c]
    exact ev_pos (by simp [c]) (ev_some _)
  · rw [if_neg c]
    refine ev_neg (by simp [c]) (Ev.bind (spec_zono_ev h) (Ev.bind (spec_PathInside_ev (path_zono h)) ?_))
    rw [good_zono h c, if_pos rfl]
    exact ev_some _
theorem spec_ZonoInside_no {p : List (List Int)} (hl : p.length ≤ 1048576) (h : starB p = false) : Ev (fun k => spec_ZonoInside.f k p) (0, false) := by
  unfold spec_ZonoInside.f
  refine Ev.bind (spec_l7Star_ev p hl) ?_
  rw [h]
  refine ev_neg (by decide) (ev_step ?_)
  simp only [spec_ZonoInside.j0]
  exact ev_pos (by trivial) (ev_some _)

/-- The size's test: where it leaves something, there are no more rows than the bound, and no row is longer. -/
theorem szIntSS_ev (p : List (List Int)) (n : Nat) (hn : n ≤ 1048576) (hp : p.length ≤ 9223372036854775807) (hs : ∀ s ∈ p, s.length ≤ 9223372036854775807) :
    ∃ r : Int, Ev (fun k => laws_szIntSS.f k p (n : Int)) r ∧ (r < 0 ∨ (0 ≤ r ∧ r ≤ n ∧ p.length ≤ n ∧ ∀ s ∈ p, s.length ≤ n)) := by
  unfold laws_szIntSS.f
  rw [w64 (x := (n : Int) - (p.length : Int)) (by omega)]
  by_cases c : (n : Int) - (p.length : Int) < 0
  · exact ⟨-1, ev_pos c (ev_some _), Or.inl (by decide)⟩
  · have hpn : p.length ≤ n := by omega
    have key := down (fun i => ∀ m : Nat, m ≤ n → (∀ s ∈ p.take i, s.length ≤ n) → ∃ r : Int, Ev (fun k => laws_szIntSS.l0 k p (m : Int) (i : Int)) r ∧ (r < 0 ∨ (0 ≤ r ∧ r ≤ n ∧ p.length ≤ n ∧ ∀ s ∈ p, s.length ≤ n))) p.length ?_ ?_ 0 (by omega)
    · obtain ⟨r, hr, hr2⟩ := key (n - p.length) (by omega) (fun s hs => by cases hs)
      refine ⟨r, ev_neg c ?_, hr2⟩
      rw [show ((n - p.length : Nat) : Int) = (n : Int) - (p.length : Int) from by omega] at hr
      exact hr
    · intro m hm h
      rw [List.take_length] at h
      refine ⟨m, ev_step ?_, Or.inr ⟨by omega, by omega, hpn, h⟩⟩
      simp only [laws_szIntSS.l0]
      exact ev_neg (by omega) (ev_some _)
    · intro i hi ih m hm h
      have hl := hs p[i] (List.getElem_mem _)
      have es : laws_szIntS.f p[i] (m : Int) = some (if (m : Int) - (p[i].length : Int) < 0 then -1 else (m : Int) - (p[i].length : Int)) := by
        unfold laws_szIntS.f
        rw [w64 (by omega)]
        split <;> rfl
      by_cases d : (m : Int) - (p[i].length : Int) < 0
      · refine ⟨-1, ev_step ?_, Or.inl (by decide)⟩
        simp only [laws_szIntSS.l0]
        refine ev_pos (by omega) (ev_pos (by omega) ?_)
        rw [rdl_get hi, es, if_pos d]
        simp only [Option.bind_some]
        exact ev_pos (by decide) (ev_some _)
      · obtain ⟨r, hr, hr2⟩ := ih (m - p[i].length) (by omega) (by
          intro s hs2
          rw [List.take_succ_eq_append_getElem hi] at hs2
          rcases List.mem_append.1 hs2 with hs2 | hs2
          · exact h s hs2
          · obtain rfl := List.mem_singleton.1 hs2
            omega)
        refine ⟨r, ev_step ?_, hr2⟩
        simp only [laws_szIntSS.l0]
        refine ev_pos (by omega) (ev_pos (by omega) ?_)
        rw [rdl_get hi, es, if_neg d, w64_succ (by omega)]
        simp only [Option.bind_some]
        refine ev_neg (by omega) ?_
        rw [show ((m - p[i].length : Nat) : Int) = (m : Int) - (p[i].length : Int) from by omega] at hr
        exact hr

theorem toIntS_ev (l : List Int) (h : l.length ≤ 1048576) : Ev (fun k => laws_toIntS.f k l) l := by
  unfold laws_toIntS.f
  refine ev_pos (by omega) (ev_pos (by omega) ?_)
  have key := ev_count (fun k i => laws_toIntS.l0 k l (l.take i ++ List.replicate (l.length - i) 0) (i : Int)) (fun _ => l) l.length
    (by
      refine ev_step ?_
      simp only [laws_toIntS.l0]
      refine ev_neg (by omega) ?_
      simpa using ev_some l)
    (by
      intro i hi ih
      refine ev_step ?_
      simp only [laws_toIntS.l0]
      refine ev_pos (by omega) (ev_pos (by omega) (ev_pos (by simp; omega) ?_))
      rw [w64_succ (by omega), Int.toNat_natCast, rd_get hi, set_copy hi]
      exact ih)
  have := key 0 (by omega)
  simpa using this

theorem set_copyR {l : List (List Int)} {i : Nat} (h : i < l.length) : (l.take i ++ List.replicate (l.length - i) []).set i l[i] = l.take (i + 1) ++ List.replicate (l.length - (i + 1)) [] := by
  rw [List.set_append_right _ _ (by simp; omega), show l.length - i = (l.length - (i + 1)) + 1 from by omega, List.replicate_succ]
  have hz : i - (l.take i).length = 0 := by simp; omega
  rw [hz, List.set_cons_zero, List.take_succ_eq_append_getElem h, List.append_assoc]; rfl
theorem toIntSS_ev (l : List (List Int)) (h : l.length ≤ 1048576) (hs : ∀ s ∈ l, s.length ≤ 1048576) : Ev (fun k => laws_toIntSS.f k l) l := by
  unfold laws_toIntSS.f
  refine ev_pos (by omega) (ev_pos (by omega) ?_)
  have key := ev_count (fun k i => laws_toIntSS.l0 k l (l.take i ++ List.replicate (l.length - i) []) (i : Int)) (fun _ => l) l.length
    (by
      refine ev_step ?_
      simp only [laws_toIntSS.l0]
      refine ev_neg (by omega) ?_
      simpa using ev_some l)
    (by
      intro i hi ih
      refine ev_step ?_
      simp only [laws_toIntSS.l0]
      refine ev_pos (by omega) (ev_pos (by omega) ?_)
      rw [rdl_get hi]
      refine Ev.bind (toIntS_ev _ (hs _ (List.getElem_mem _))) (ev_pos (by simp; omega) ?_)
      rw [w64_succ (by omega), Int.toNat_natCast, set_copyR hi]
      exact ih)
  have := key 0 (by omega)
  simpa using this

theorem eqIntS_self (l : List Int) (h : l.length ≤ 1048576) : Ev (fun k => laws_eqIntS.f k l l) true := by
  unfold laws_eqIntS.f
  refine ev_pos (by trivial) ?_
  refine ev_count (fun k i => laws_eqIntS.l0 k l l (i : Int)) (fun _ => true) l.length ?_ ?_ 0 (by omega)
  · refine ev_step ?_
    simp only [laws_eqIntS.l0]
    exact ev_neg (by omega) (ev_some _)
  · intro i hi ih
    refine ev_step ?_
    simp only [laws_eqIntS.l0]
    refine ev_pos (by omega) (ev_pos (by omega) (ev_pos (by omega) (ev_pos (by trivial) ?_)))
    rw [w64_succ (by omega)]
    exact ih

theorem eqIntSS_self (l : List (List Int)) (h : l.length ≤ 1048576) (hs : ∀ s ∈ l, s.length ≤ 1048576) : Ev (fun k => laws_eqIntSS.f k l l) true := by
  unfold laws_eqIntSS.f
  refine ev_pos (by trivial) ?_
  refine ev_count (fun k i => laws_eqIntSS.l0 k l l (i : Int)) (fun _ => true) l.length ?_ ?_ 0 (by omega)
  · refine ev_step ?_
    simp only [laws_eqIntSS.l0]
    exact ev_neg (by omega) (ev_some _)
  · intro i hi ih
    refine ev_step ?_
    simp only [laws_eqIntSS.l0]
    refine ev_pos (by omega) (ev_pos (by omega) (ev_pos (by omega) ?_))
    rw [rdl_get hi]
    refine Ev.bind (eqIntS_self _ (hs _ (List.getElem_mem _))) (ev_pos (by trivial) ?_)
    rw [w64_succ (by omega)]
    exact ih

theorem FnExactZonoInside (p : List (List Int)) (hp : p.length ≤ 9223372036854775807) (hs : ∀ s ∈ p, s.length ≤ 9223372036854775807) : ∃ k, laws_FnExactZonoInside.f k p = some true := by
  refine Ev.rounds ?_
  unfold laws_FnExactZonoInside.f
  obtain ⟨r, hr, hr2⟩ := szIntSS_ev p 1048576 (by omega) hp hs
  refine Ev.bind hr ?_
  rcases hr2 with h | ⟨h0, h1, h2, h3⟩
  · exact ev_pos h (ev_some _)
  · refine ev_neg (by omega) (Ev.bind (toIntSS_ev p h2 h3) ?_)
    have fin : Ev (fun k => laws_FnExactZonoInside.j0 k p p false) true := by
      refine ev_step ?_
      simp only [laws_FnExactZonoInside.j0]
      exact ev_neg (by simp) (Ev.bind (toIntSS_ev p h2 h3) (Ev.bind (eqIntSS_self p h2 h3) (ev_pos (by trivial) (ev_some _))))
    by_cases c : starB p = true
    · obtain ⟨q, hq, hP⟩ := star_of c
      rw [hq] at fin h2 h3 ⊢
      exact Ev.bind (spec_ZonoInside_ev hP) (Ev.bind (toIntSS_ev _ h2 h3) (Ev.bind (impl_ZonoInside_ev hP) (ev_pos rfl (by simpa using fin))))
    · have c' := Bool.eq_false_iff.2 c
      exact Ev.bind (spec_ZonoInside_no h2 c') (Ev.bind (toIntSS_ev _ h2 h3) (Ev.bind (impl_ZonoInside_no h2 c') (ev_pos rfl (by simpa using fin))))

end Go.Proofs.Ytkphiccdgclldaa.Pure
