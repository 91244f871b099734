/- An exact promise of the given program: the zonogon of a star is what the plain law tells, in rows of its own, for every slice of slices of numbers. -/
import Derived.Test.YtkphiccdgclldaaPFnExactZonoPathx7
import Derived.Test.YtkphiccdgclldaaBase
import Derived.Test.YtkphiccdgclldaaPth
import Derived.Test.YtkphiccdgclldaaSrt
import Derived.Test.YtkphiccdgclldaaCvx
import Derived.Test.YtkphiccdgclldaaIso
import Derived.Test.YtkphiccdgclldaaStar
import Derived.Test.YtkphiccdgclldaaHRaw
import Derived.Test.YtkphiccdgclldaaHSrt
import Derived.Test.YtkphiccdgclldaaZon
import Derived.Test.YtkphiccdgclldaaRowsIn
namespace Go.Proofs.Ytkphiccdgclldaa.Pure
open Go.RowKit Go.Proofs.Ytkphiccdgclldaa.PFnExactZonoPath Go.Proofs.YtkphiccdgclldaaW.PrintWords Go.Proofs.YtkphiccdgclldaaW.PrintLast Go.Proofs.YtkphiccdgclldaaW.PrintMore Go.Proofs.Ytkphiccdgclldaa.Base Go.Proofs.Ytkphiccdgclldaa.Pth Go.Proofs.Ytkphiccdgclldaa.Srt Go.Proofs.Ytkphiccdgclldaa.Cvx Go.Proofs.Ytkphiccdgclldaa.Iso Go.Proofs.Ytkphiccdgclldaa.Star Go.Proofs.Ytkphiccdgclldaa.HRaw Go.Proofs.Ytkphiccdgclldaa.HSrt Go.Proofs.Ytkphiccdgclldaa.Zon Go.Proofs.Ytkphiccdgclldaa.RowsIn
set_option linter.unusedVariables false
set_option linter.unusedSimpArgs false
theorem rdl_get {p : List (List Int)} {i : Nat} (h : i < p.length) : rd_L1 p (i : Int) = p[i] := by unfold rd_L1; rw [Int.toNat_natCast]; simp [h]
theorem rdl_L {q : List V} {i : Nat} (h : i < q.length) : rd_L1 (L q) (i : Int) = ofV q[i] := by
  rw [rdl_get (by rw [L_length]; exact h)]; simp [L]
theorem rd0 (v : V) : rd (ofV v) 0 = v.1 := rfl
theorem rd1 (v : V) : rd (ofV v) 1 = v.2 := rfl
theorem len_ofV (v : V) : ((ofV v).length : Int) = 2 := rfl
theorem lenL (q : List V) : ((L q).length : Int) = (q.length : Int) := by rw [L_length]

def b9 (v : V) : Prop := -9 ≤ v.1 ∧ v.1 ≤ 9 ∧ -9 ≤ v.2 ∧ v.2 ≤ 9
theorem cr_bound {a b : V} (ha : b9 a) (hb : b9 b) : -162 ≤ cr a b ∧ cr a b ≤ 162 := by
  unfold b9 at ha hb
  have h1 := mul9 (x := a.1) (v := b.2) (M := 9) ⟨ha.1, ha.2.1⟩ ⟨hb.2.2.1, hb.2.2.2⟩
  have h2 := mul9 (x := a.2) (v := b.1) (M := 9) ⟨ha.2.2.1, ha.2.2.2⟩ ⟨hb.1, hb.2.1⟩
  unfold cr; omega

theorem b9_of {q : List V} (h : Path q) : ∀ v ∈ q, b9 v := fun v hv => by
  have := h.st v hv
  simp only [stepV] at this
  unfold b9; omega
theorem impl_cross_eq {a b : V} (ha : b9 a) (hb : b9 b) : impl_cross.f (ofV a) (ofV b) = some (cr a b) := by
  unfold impl_cross.f
  rw [len_ofV, len_ofV, if_pos (by decide), if_pos (by decide), if_pos (by decide), if_pos (by decide), rd0, rd0, rd1, rd1]
  simp only [w_sub_l, w_sub_r]
  have := cr_bound ha hb
  unfold cr at this ⊢
  rw [w64 (by omega)]
theorem impl_lower_eq {a : V} (h : stepV a) : impl_lower.f (ofV a) = some (decide (half a = 1)) := by
  unfold impl_lower.f half
  simp only [stepV] at h
  rw [len_ofV, rd0, rd1, if_pos (by decide)]
  by_cases c : a.2 < 0
  · rw [if_pos c, if_neg (by omega), if_neg (by omega)]; rfl
  · rw [if_neg c]
    by_cases d : a.2 = 0
    · rw [if_pos d, if_pos (by decide), if_neg (by omega)]
      by_cases e : a.1 > 0
      · rw [if_pos ⟨d, e⟩, decide_eq_false (by omega)]; rfl
      · rw [if_neg (fun h => e h.2), decide_eq_true (by omega)]; rfl
    · rw [if_neg d, if_pos (by omega)]; rfl
theorem half01 (a : V) : half a = 0 ∨ half a = 1 := by
  unfold half
  split
  · exact Or.inl rfl
  · split
    · exact Or.inl rfl
    · exact Or.inr rfl
theorem impl_compare_ev {a b : V} (ha : stepV a) (hb : stepV b) : ∃ n, impl_compareSteps.f (ofV a) (ofV b) = some n ∧ (decide (n > 0) = desc a b) ∧ -1 ≤ n ∧ n ≤ 1 := by
  unfold impl_compareSteps.f
  rw [impl_lower_eq ha, impl_lower_eq hb, impl_cross_eq (by simp only [stepV] at ha; unfold b9; omega) (by simp only [stepV] at hb; unfold b9; omega)]
  simp only [Option.bind_some]
  unfold desc before
  rcases half01 a with h0 | h0 <;> rcases half01 b with h1 | h1 <;> rw [h0, h1]
  · rw [if_neg (by decide), if_pos rfl]
    have e : cr b a = -cr a b := by unfold cr; grind
    rw [e]
    by_cases c : cr a b > 0
    · exact ⟨-1, by rw [if_pos c], by rw [decide_eq_false (by omega), decide_eq_false (by omega)], by omega⟩
    · by_cases d : cr a b < 0
      · exact ⟨1, by rw [if_neg c, if_pos d], by rw [decide_eq_true (by omega), decide_eq_true (by omega)], by omega⟩
      · exact ⟨0, by rw [if_neg c, if_neg d], by rw [decide_eq_false (by omega), decide_eq_false (by omega)], by omega⟩
  · exact ⟨-1, by simp, by simp, by omega⟩
  · exact ⟨1, by simp, by simp, by omega⟩
  · rw [if_neg (by decide), if_pos rfl]
    have e : cr b a = -cr a b := by unfold cr; grind
    rw [e]
    by_cases c : cr a b > 0
    · exact ⟨-1, by rw [if_pos c], by rw [decide_eq_false (by omega), decide_eq_false (by omega)], by omega⟩
    · by_cases d : cr a b < 0
      · exact ⟨1, by rw [if_neg c, if_pos d], by rw [decide_eq_true (by omega), decide_eq_true (by omega)], by omega⟩
      · exact ⟨0, by rw [if_neg c, if_neg d], by rw [decide_eq_false (by omega), decide_eq_false (by omega)], by omega⟩

theorem L_take (q : List V) (n : Nat) : (L q).take n = L (q.take n) := by simp [L]
theorem L_drop (q : List V) (n : Nat) : (L q).drop n = L (q.drop n) := by simp [L]
theorem L_append (a b : List V) : L a ++ L b = L (a ++ b) := by simp [L]
theorem L_snoc (q : List V) (v : V) : L q ++ [ofV v] = L (q ++ [v]) := by simp [L]

theorem impl_compare_lt {a b : V} (ha : stepV a) (hb : stepV b) : ∃ n, impl_compareSteps.f (ofV a) (ofV b) = some n ∧ decide (n < 0) = before a b := by
  unfold impl_compareSteps.f
  rw [impl_lower_eq ha, impl_lower_eq hb, impl_cross_eq (by simp only [stepV] at ha; unfold b9; omega) (by simp only [stepV] at hb; unfold b9; omega)]
  simp only [Option.bind_some]
  unfold before
  rcases half01 a with h0 | h0 <;> rcases half01 b with h1 | h1 <;> rw [h0, h1]
  · rw [if_neg (by decide), if_pos rfl]
    by_cases c : cr a b > 0
    · exact ⟨-1, by rw [if_pos c], by rw [decide_eq_true (by omega), decide_eq_true (by omega)]⟩
    · by_cases d : cr a b < 0
      · exact ⟨1, by rw [if_neg c, if_pos d], by rw [decide_eq_false (by omega), decide_eq_false (by omega)]⟩
      · exact ⟨0, by rw [if_neg c, if_neg d], by rw [decide_eq_false (by omega), decide_eq_false (by omega)]⟩
  · exact ⟨-1, by simp, by simp⟩
  · exact ⟨1, by simp, by simp⟩
  · rw [if_neg (by decide), if_pos rfl]
    by_cases c : cr a b > 0
    · exact ⟨-1, by rw [if_pos c], by rw [decide_eq_true (by omega), decide_eq_true (by omega)]⟩
    · by_cases d : cr a b < 0
      · exact ⟨1, by rw [if_neg c, if_pos d], by rw [decide_eq_false (by omega), decide_eq_false (by omega)]⟩
      · exact ⟨0, by rw [if_neg c, if_neg d], by rw [decide_eq_false (by omega), decide_eq_false (by omega)]⟩
theorem isort_L (cmp : List Int → List Int → Int) (hc : ∀ a b : V, stepV a → stepV b → decide (cmp (ofV a) (ofV b) < 0) = before a b) {q : List V} (hq : ∀ v ∈ q, stepV v) : isort (fun a b => decide (cmp a b < 0)) (L q) = L (srt q) := by
  have hpos : ∀ (v : V) (out : List V), stepV v → (∀ u ∈ out, stepV u) → ∀ k, k ≤ out.length → posR (fun a b => decide (cmp a b < 0)) (ofV v) (L out) k = pos v out k := by
    intro v out hv ho k
    induction k with
    | zero => intro _; rfl
    | succ k ih =>
      intro hk
      have hk' : k < out.length := by omega
      have e1 : (L out).getD k default = ofV out[k] := by simp [L, hk']
      have e2 : out.getD k (0, 0) = out[k] := by simp [hk']
      unfold posR pos
      rw [e1, e2]
      show (if decide (cmp (ofV v) (ofV out[k]) < 0) = true then _ else _) = _
      rw [hc v out[k] hv (ho _ (List.getElem_mem _)), ih (by omega)]
  have hins : ∀ (v : V) (out : List V), stepV v → (∀ u ∈ out, stepV u) → insR (fun a b => decide (cmp a b < 0)) (ofV v) (L out) = L (ins v out) := by
    intro v out hv ho
    unfold insR ins
    rw [hpos v out hv ho _ (by rw [L_length]; exact Nat.le_refl _), L_length, L_take, L_drop]
    simp [L]
  have key : ∀ (q out : List V), (∀ v ∈ q, stepV v) → (∀ u ∈ out, stepV u) → (L q).foldl (fun out x => insR (fun a b => decide (cmp a b < 0)) x out) (L out) = L (q.foldl (fun out v => ins v out) out) := by
    intro q
    induction q with
    | nil => intro out _ _; rfl
    | cons v t ih =>
      intro out hq ho
      show (L t).foldl _ (insR _ (ofV v) (L out)) = _
      rw [hins v out (hq v (by simp)) ho, List.foldl_cons]
      refine ih _ (fun u hu => hq u (by simp [hu])) (fun u hu => ?_)
      rcases List.mem_cons.1 ((ins_perm v out).mem_iff.1 hu) with rfl | hu
      · exact hq _ (by simp)
      · exact ho u hu
  exact key q [] hq (fun u hu => by cases hu)

theorem clone_int_eq (l : List Int) (h : l.length ≤ 1048576) : slices_Clone_int_int_86.f l = some l := by
  unfold slices_Clone_int_int_86.f
  simp only [Option.bind_some]
  rw [if_pos (by simp; omega)]; rfl
theorem copySteps_ev (q : List V) (hl : q.length ≤ 1048576) : Ev (fun k => impl_copySteps.f k (L q)) (L q) := by
  unfold impl_copySteps.f
  have key := ev_count (fun k i => impl_copySteps.l0 k (L (q.take i)) (L q) ((L q).length : Int) (i : Int)) (fun _ => L q) q.length ?_ ?_ 0 (by omega)
  · exact key
  · refine ev_step ?_
    simp only [impl_copySteps.l0]
    refine ev_neg (by rw [lenL]; omega) ?_
    rw [List.take_length]
    exact ev_some _
  · intro i hi ih
    refine ev_step ?_
    simp only [impl_copySteps.l0]
    rw [rdl_L hi, clone_int_eq (ofV q[i]) (show 2 ≤ 1048576 from by decide), w64_succ (by omega)]
    simp only [Option.bind_some]
    have e : L (q.take i) ++ [ofV q[i]] = L (q.take (i + 1)) := by rw [List.take_succ_eq_append_getElem hi, ← L_snoc]
    rw [e]
    exact ev_pos (by rw [lenL]; omega) (ev_pos (by omega) (ev_pos (by rw [lenL]; omega) (ev_pos (by simp [L]; omega) ih)))

theorem impl_isStep_eq (s : List Int) : impl_isStep.f s = some (stepB s) := by
  match s with
  | [] => rfl
  | [_] => rfl
  | [x, y] =>
    unfold impl_isStep.f
    have h0 : rd [x, y] 0 = x := rfl
    have h1 : rd [x, y] 1 = y := rfl
    have hl : ([x, y].length : Int) = 2 := rfl
    rw [h0, h1, hl, if_pos rfl, if_pos (by decide)]
    rw [stepB_two]
    by_cases a : x ≥ -9
    · rw [if_pos a]
      by_cases b : x ≤ 9
      · rw [if_pos b, if_pos (by decide)]
        by_cases c : y ≥ -9
        · rw [if_pos c]
          by_cases d : y ≤ 9
          · rw [if_pos d]
            by_cases e : x = 0
            · rw [if_pos e]
              by_cases f : y = 0
              · subst e f; rfl
              · have : (y != 0) = true := by simpa using f
                rw [this, decide_eq_true (by omega)]
            · rw [if_neg e, decide_eq_true (by omega)]
          · rw [if_neg d, decide_eq_false (by omega)]
        · rw [if_neg c, decide_eq_false (by omega)]
      · rw [if_neg b, decide_eq_false (by omega)]
    · rw [if_neg a, decide_eq_false (by omega)]
  | a :: b :: c :: t =>
    unfold impl_isStep.f
    rw [if_neg (by simp; omega)]; rfl

theorem impl_isStar_ev (p : List (List Int)) (h : p.length ≤ 1048576) : Ev (fun k => impl_isStar.f k p) (starB p) := by
  unfold impl_isStar.f
  have key := ev_count (fun k i => impl_isStar.l0 k p p (p.length : Int) (i : Int)) (fun i => (p.drop i).all stepB && decide (2 ≤ p.length) && decide (p.length ≤ 4)) p.length ?_ ?_ 0 (by omega)
  · exact key
  · refine ev_step ?_
    simp only [impl_isStar.l0]
    refine ev_neg (by omega) ?_
    rw [List.drop_length]
    by_cases c : (p.length : Int) ≥ 2
    · refine ev_pos c ?_
      rw [decide_eq_true (show 2 ≤ p.length by omega), show decide ((p.length : Int) ≤ 4) = decide (p.length ≤ 4) from decide_eq_decide.2 (by omega)]
      simpa using ev_some _
    · refine ev_neg c ?_
      rw [decide_eq_false (show ¬ 2 ≤ p.length by omega)]
      simpa using ev_some _
  · intro i hi ih
    refine ev_step ?_
    simp only [impl_isStar.l0]
    refine ev_pos (by omega) (ev_pos (by omega) (ev_pos (by omega) ?_))
    rw [rdl_get hi, impl_isStep_eq, drop_cons hi, List.all_cons]
    simp only [Option.bind_some]
    by_cases hs : stepB p[i] = true
    · refine ev_pos hs ?_
      rw [w64_succ (by omega), hs, Bool.true_and]
      exact ih
    · refine ev_neg hs ?_
      rw [Bool.eq_false_iff.2 hs]
      simpa using ev_some _

theorem dn_L {v : V} (h : stepV v) : impl_zonogon.dn (ofV v) = ofV (neg v) := by
  unfold impl_zonogon.dn
  simp only [stepV] at h
  rw [rd0, rd1, w64 (by omega), w64 (by omega)]; rfl
theorem up_L {v : V} (h : stepV v) : impl_zonogon.up (ofV v) = ofV (upV v) := by
  unfold impl_zonogon.up
  rw [impl_lower_eq h, dn_L h]
  unfold upV
  by_cases c : half v = 1
  · rw [if_pos c, decide_eq_true c]; rfl
  · rw [if_neg c, decide_eq_false c]; rfl
theorem so_L {q : List V} (h : ∀ v ∈ q, stepV v) : impl_zonogon.so (L q) = L (zs q) := by
  unfold impl_zonogon.so
  have e : (L q).map impl_zonogon.up = L (q.map upV) := by
    unfold L
    rw [List.map_map, List.map_map]
    exact List.map_congr_left (fun v hv => up_L (h v hv))
  rw [e]
  exact isort_L impl_zonogon.cmp (fun a b ha hb => by
      obtain ⟨n, hn, e⟩ := impl_compare_lt ha hb
      unfold impl_zonogon.cmp
      rw [hn]; exact e) (fun v hv => by
      obtain ⟨u, hu, rfl⟩ := List.mem_map.1 hv
      exact (step_up (h u hu)).1)
theorem dn_zs {q : List V} (h : ∀ v ∈ q, stepV v) : (L (zs q)).map impl_zonogon.dn = L ((zs q).map neg) := by
  unfold L
  rw [List.map_map, List.map_map]
  exact List.map_congr_left (fun v hv => dn_L (zs_mem h v hv).1)
theorem impl_zonogon_ev {q : List V} (h : Star q) : Ev (fun k => impl_zonogon.f k (L q)) (L (zono q)) := by
  unfold impl_zonogon.f
  have hq := h.hi
  have h3 := h.lo
  refine Ev.bind (copySteps_ev q (by omega)) (ev_pos ⟨⟨by rw [L_length]; omega, by rw [L_length]; omega⟩, ?_, ?_⟩ ?_)
  · intro s hs
    obtain ⟨v, hv, rfl⟩ := List.mem_map.1 hs
    rw [impl_lower_eq (h.st v hv)]
    exact ⟨rfl, rfl⟩
  · have key : ∀ a ∈ (L q).map impl_zonogon.up, ∃ v, stepV v ∧ ofV v = a := by
      intro a ha
      obtain ⟨s, hs, rfl⟩ := List.mem_map.1 ha
      obtain ⟨v, hv, rfl⟩ := List.mem_map.1 hs
      exact ⟨upV v, (step_up (h.st v hv)).1, (up_L (h.st v hv)).symm⟩
    intro a ha b hb
    obtain ⟨u, hu, rfl⟩ := key a ha
    obtain ⟨v, hv, rfl⟩ := key b hb
    obtain ⟨n, hn, _⟩ := impl_compare_lt hu hv
    rw [hn]; rfl
  · rw [so_L h.st, dn_zs h.st]
    have : L (zs q) ++ L ((zs q).map neg) = L (zono q) := by rw [L_append]; rfl
    rw [this]
    exact ev_some _

theorem impl_ZonoPath_ev {q : List V} (h : Star q) : Ev (fun k => impl_ZonoPath.f k (L q)) (L (zono q), true) := by
  unfold impl_ZonoPath.f
  have hq := h.hi
  refine Ev.bind (impl_isStar_ev _ (by rw [L_length]; omega)) ?_
  rw [starB_L h]
  exact ev_pos rfl (Ev.bind (impl_zonogon_ev h) (ev_some _))
theorem impl_ZonoPath_no {p : List (List Int)} (hl : p.length ≤ 1048576) (h : starB p = false) : Ev (fun k => impl_ZonoPath.f k p) ([], false) := by
  unfold impl_ZonoPath.f
  refine Ev.bind (impl_isStar_ev p hl) ?_
  rw [h]
  exact ev_neg (by decide) (ev_some _)

theorem spec_l6In_eq' (a b c : Int) : spec_l6In.f a b c = some (decide (b ≤ a ∧ a ≤ c)) := by
  unfold spec_l6In.f
  by_cases h : a ≥ b
  · rw [if_pos h]; simp; intro _; exact h
  · rw [if_neg h]; simp; omega
theorem spec_l6sStep_eq (s : List Int) : spec_l6sStep.f s = some (stepB s) := by
  match s with
  | [] => rfl
  | [_] => rfl
  | [x, y] =>
    unfold spec_l6sStep.f
    have h0 : rd [x, y] 0 = x := rfl
    have h1 : rd [x, y] 1 = y := rfl
    have hl : ([x, y].length : Int) = 2 := rfl
    rw [h0, h1, hl, if_pos rfl, if_pos (by decide), spec_l6In_eq', spec_l6In_eq']
    simp only [Option.bind_some]
    rw [stepB_two]
    by_cases b : -9 ≤ x ∧ x ≤ 9
    · rw [if_pos (by simpa using b), if_pos (by decide)]
      by_cases d : -9 ≤ y ∧ y ≤ 9
      · rw [if_pos (by simpa using d)]
        by_cases e : x = 0
        · rw [if_pos e]
          by_cases f : y = 0
          · subst e f; rfl
          · have : (y != 0) = true := by simpa using f
            rw [this, decide_eq_true (by omega)]
        · rw [if_neg e, decide_eq_true (by omega)]
      · rw [if_neg (by simpa using d), decide_eq_false (by omega)]
    · rw [if_neg (by simpa using b), decide_eq_false (by omega)]
  | a :: b :: c :: t =>
    unfold spec_l6sStep.f
    rw [if_neg (by simp; omega)]; rfl

theorem spec_l7Star_ev (p : List (List Int)) (h : p.length ≤ 1048576) : Ev (fun k => spec_l7Star.f k p) (starB p) := by
  unfold spec_l7Star.f
  have key := ev_count (fun k i => spec_l7Star.l0 k p (i : Int)) (fun i => (p.drop i).all stepB && decide (2 ≤ p.length) && decide (p.length ≤ 4)) p.length ?_ ?_ 0 (by omega)
  · exact key
  · refine ev_step ?_
    simp only [spec_l7Star.l0]
    refine ev_neg (by omega) ?_
    rw [List.drop_length, spec_l6In_eq']
    simp only [Option.bind_some]
    have e : decide ((2 : Int) ≤ p.length ∧ (p.length : Int) ≤ 4) = (decide (2 ≤ p.length) && decide (p.length ≤ 4)) := by
      rw [← Bool.decide_and]; exact decide_eq_decide.2 (by omega)
    rw [e]
    simpa using ev_some _
  · intro i hi ih
    refine ev_step ?_
    simp only [spec_l7Star.l0]
    refine ev_pos (by omega) (ev_pos (by omega) ?_)
    rw [rdl_get hi, spec_l6sStep_eq, drop_cons hi, List.all_cons]
    simp only [Option.bind_some]
    by_cases hs : stepB p[i] = true
    · refine ev_pos hs ?_
      rw [w64_succ (by omega), hs, Bool.true_and]
      exact ih
    · refine ev_neg hs ?_
      rw [Bool.eq_false_iff.2 hs]
      simpa using ev_some _

theorem spec_cross_eq {a b : V} (ha : b9 a) (hb : b9 b) : spec_l6sCross.f (ofV a) (ofV b) = some (cr a b) := by
  unfold spec_l6sCross.f
  rw [len_ofV, len_ofV, if_pos (by decide), if_pos (by decide), if_pos (by decide), if_pos (by decide), rd0, rd0, rd1, rd1]
  simp only [w_sub_l, w_sub_r]
  have := cr_bound ha hb
  unfold cr at this ⊢
  rw [w64 (by omega)]
theorem spec_half_eq (a : V) : spec_l6sHalf.f (ofV a) = some (half a) := by
  unfold spec_l6sHalf.f half
  rw [len_ofV, rd0, rd1, if_pos (by decide)]
  by_cases c : a.2 > 0
  · rw [if_pos c, if_pos c]
  · rw [if_neg c, if_neg c]
    by_cases d : a.2 = 0
    · rw [if_pos d, if_pos (by decide)]
      by_cases e : a.1 > 0
      · rw [if_pos e, if_pos ⟨d, e⟩]
      · rw [if_neg e, if_neg (fun h => e h.2)]
    · rw [if_neg d, if_neg (fun h => d h.1)]
theorem spec_before_eq {a b : V} (ha : b9 a) (hb : b9 b) : spec_l6sBefore.f (ofV a) (ofV b) = some (before a b) := by
  unfold spec_l6sBefore.f before
  rw [spec_half_eq, spec_half_eq, spec_cross_eq ha hb]
  simp only [Option.bind_some]
  by_cases c : half a = half b
  · rw [if_pos c, if_pos c]
  · rw [if_neg c, if_neg c]

theorem sorted_inner {q : List V} (hq : ∀ v ∈ q, b9 v) (hl : q.length ≤ 1048576) {i : Nat} (hi : i < q.length) (out : List V) (ho : ∀ v ∈ out, b9 v) (hol : out.length = i) (r : List (List Int))
    (hk : Ev (fun k => spec_l7Sorted.l0 k (L q) (L (ins q[i] out)) ((i + 1 : Nat) : Int)) r) :
    ∀ k : Nat, k ≤ out.length → pos q[i] out k = pos q[i] out out.length → Ev (fun n => spec_l7Sorted.l1 n (L q) (L out) (i : Int) (k : Int)) r := by
  have put : ∀ k : Nat, k ≤ out.length → k = pos q[i] out out.length → Ev (fun n => (if 0 < (([q[i].1, q[i].2] : List Int).length : Int) then (if 1 < (([q[i].1, q[i].2] : List Int).length : Int) then ((some ([] : List (List Int))).bind fun y => (if 0 ≤ (k : Int) then (if (k : Int) ≤ ((L out).length : Int) then ((some ((L out).take (k : Int).toNat)).bind fun y2 => (if y.length + y2.length < 5864062014805 then ((some (y ++ y2)).bind fun y3 => ((some [[rd [q[i].1, q[i].2] 0, rd [q[i].1, q[i].2] 1]]).bind fun y4 => (if y3.length + y4.length < 5864062014805 then ((some (y3 ++ y4)).bind fun y5 => ((some ((L out).drop (k : Int).toNat)).bind fun y6 => (if y5.length + y6.length < 5864062014805 then spec_l7Sorted.l0 n (L q) (y5 ++ y6) ((i + 1 : Nat) : Int) else none))) else none))) else none)) else none) else none)) else none) else none)) r := by
    intro k hk1 hkp
    have h2 : (([q[i].1, q[i].2] : List Int).length : Int) = 2 := rfl
    refine ev_pos (by rw [h2]; decide) (ev_pos (by rw [h2]; decide) ?_)
    simp only [Option.bind_some]
    refine ev_pos (by omega) (ev_pos (by rw [lenL]; omega) ?_)
    refine ev_pos (by simp [L]; omega) (ev_pos (by simp [L]; omega) (ev_pos (by simp [L]; omega) ?_))
    have e : ([] ++ (L out).take (k : Int).toNat ++ [[rd [q[i].1, q[i].2] 0, rd [q[i].1, q[i].2] 1]]) ++ (L out).drop (k : Int).toNat = L (ins q[i] out) := by
      rw [Int.toNat_natCast, List.nil_append, L_take, L_drop, hkp]
      unfold ins
      rw [← L_append, ← L_append]; rfl
    rw [e]
    exact hk
  intro k
  induction k with
  | zero =>
    intro _ hp
    refine ev_step ?_
    simp only [spec_l7Sorted.l1]
    refine ev_neg (by omega) (ev_pos (by omega) (ev_pos (by rw [lenL]; omega) ?_))
    rw [rdl_L hi, w64_succ (by omega)]
    exact put 0 (by omega) (by rw [← hp]; rfl)
  | succ k ih =>
    intro hkl hp
    refine ev_step ?_
    simp only [spec_l7Sorted.l1]
    have ek : wrap64 (((k + 1 : Nat) : Int) - 1) = (k : Int) := by rw [w64 (by omega)]; omega
    rw [ek]
    refine ev_pos (by omega) (ev_pos (by omega) (ev_pos (by rw [lenL]; omega) (ev_pos (by omega) (ev_pos (by rw [lenL]; omega) ?_))))
    rw [rdl_L hi, rdl_L (show k < out.length by omega), spec_before_eq (hq _ (List.getElem_mem _)) (ho _ (List.getElem_mem _))]
    simp only [Option.bind_some]
    have eg : out.getD k (0, 0) = out[k]'(by omega) := by simp [show k < out.length by omega]
    rw [pos_succ, eg] at hp
    by_cases c : before q[i] (out[k]'(by omega)) = true
    · rw [if_pos c] at hp
      exact ev_pos c (ih (by omega) hp)
    · rw [if_neg c] at hp
      refine ev_neg c ?_
      rw [w64_succ (by omega)]
      exact put (k + 1) hkl hp
theorem spec_sorted_ev {q : List V} (hq : ∀ v ∈ q, b9 v) (hl : q.length ≤ 1048576) : Ev (fun k => spec_l7Sorted.f k (L q)) (L (srt q)) := by
  unfold spec_l7Sorted.f
  have key := ev_count (fun k i => spec_l7Sorted.l0 k (L q) (L (srt (q.take i))) (i : Int)) (fun _ => L (srt q)) q.length ?_ ?_ 0 (by omega)
  · exact key
  · refine ev_step ?_
    simp only [spec_l7Sorted.l0]
    refine ev_neg (by rw [lenL]; omega) ?_
    rw [List.take_length]
    exact ev_some _
  · intro i hi ih
    refine ev_step ?_
    simp only [spec_l7Sorted.l0]
    refine ev_pos (by rw [lenL]; omega) ?_
    rw [lenL]
    rw [srt_take hi] at ih
    refine sorted_inner hq hl hi (srt (q.take i)) (fun v hv => hq v (List.mem_of_mem_take (srt_mem.1 hv))) (by rw [srt_length]; simp; omega) _ ih _ (Nat.le_refl _) rfl

theorem zs_take {q : List V} {i : Nat} (hi : i < q.length) (x : List Int) (e : x = ofV (upV q[i])) : L ((q.take i).map upV) ++ [x] = L ((q.take (i + 1)).map upV) := by
  rw [e, List.take_succ_eq_append_getElem hi, List.map_append, ← L_append]; rfl
theorem b9_zs {q : List V} (h : ∀ v ∈ q, stepV v) : ∀ v ∈ q.map upV, b9 v := fun v hv => by
  obtain ⟨u, hu, rfl⟩ := List.mem_map.1 hv
  have := (step_up (h u hu)).1
  simp only [stepV] at this
  unfold b9; omega
theorem spec_zono_tail {q : List V} (h : Star q) : Ev (fun k => spec_l7Zono.l1 k (L (zs q)) (L (zs q)) 0) (L (zono q)) := by
  have hz := zs_length q
  have h8 := h.hi
  have key := ev_count (fun k i => spec_l7Zono.l1 k (L (zs q)) (L (zs q ++ ((zs q).take i).map neg)) (i : Int)) (fun _ => L (zono q)) (zs q).length ?_ ?_ 0 (by omega)
  · rw [List.take_zero, List.map_nil, List.append_nil] at key
    exact key
  · refine ev_step ?_
    simp only [spec_l7Zono.l1]
    refine ev_neg (by rw [lenL]; omega) ?_
    rw [List.take_length]
    exact ev_some _
  · intro i hi ih
    have hs := (zs_mem h.st (zs q)[i] (List.getElem_mem _)).1
    simp only [stepV] at hs
    refine ev_step ?_
    simp only [spec_l7Zono.l1]
    rw [rdl_L hi, len_ofV, rd0, rd1, w64 (x := -(zs q)[i].1) (by omega), w64 (x := -(zs q)[i].2) (by omega), w64_succ (by omega)]
    have e : L (zs q ++ ((zs q).take i).map neg) ++ [[-(zs q)[i].1, -(zs q)[i].2]] = L (zs q ++ ((zs q).take (i + 1)).map neg) := by
      rw [List.take_succ_eq_append_getElem hi, List.map_append, ← List.append_assoc, ← L_append (zs q ++ _)]; rfl
    rw [e]
    exact ev_pos (by rw [lenL]; omega) (ev_pos (by omega) (ev_pos (by decide) (ev_pos (by decide) (ev_pos (by simp [L]; omega) ih))))
theorem spec_zono_ev {q : List V} (h : Star q) : Ev (fun k => spec_l7Zono.f k (L q)) (L (zono q)) := by
  unfold spec_l7Zono.f
  have h8 := h.hi
  have key := ev_count (fun k i => spec_l7Zono.l0 k (L q) (L ((q.take i).map upV)) (i : Int)) (fun _ => L (zono q)) q.length ?_ ?_ 0 (by omega)
  · exact key
  · refine ev_step ?_
    simp only [spec_l7Zono.l0]
    refine ev_neg (by rw [lenL]; omega) ?_
    rw [List.take_length]
    refine Ev.bind (spec_sorted_ev (b9_zs h.st) (by rw [List.length_map]; omega)) ?_
    have e : srt (q.map upV) = zs q := rfl
    rw [e]
    simp only [Option.bind_some]
    refine ev_pos (by have := zs_length q; simp [L]; omega) ?_
    rw [List.nil_append]
    exact spec_zono_tail h
  · intro i hi ih
    have hs := h.st q[i] (List.getElem_mem _)
    have hs' := hs
    simp only [stepV] at hs'
    refine ev_step ?_
    simp only [spec_l7Zono.l0]
    rw [rdl_L hi, spec_half_eq, len_ofV, rd0, rd1, w64 (x := -q[i].1) (by omega), w64 (x := -q[i].2) (by omega), w64_succ (by omega)]
    simp only [Option.bind_some]
    refine ev_pos (by rw [lenL]; omega) (ev_pos (by omega) ?_)
    rcases half_cases q[i] with c | c
    · refine ev_pos c (ev_pos (by decide) (ev_pos (by decide) (ev_pos (by simp [L]; omega) ?_)))
      rw [zs_take hi [q[i].1, q[i].2] (by unfold upV; rw [if_neg (by omega)]; rfl)]
      exact ih
    · refine ev_neg (by omega) (ev_pos (by decide) (ev_pos (by decide) (ev_pos (by simp [L]; omega) ?_)))
      rw [zs_take hi [-q[i].1, -q[i].2] (by unfold upV; rw [if_pos c]; rfl)]
      exact ih

theorem spec_ZonoPath_ev {q : List V} (h : Star q) : Ev (fun k => spec_ZonoPath.f k (L q)) (L (zono q), true) := by
  unfold spec_ZonoPath.f
  have hq := h.hi
  refine Ev.bind (spec_l7Star_ev _ (by rw [L_length]; omega)) ?_
  rw [starB_L h]
  exact ev_pos rfl (Ev.bind (spec_zono_ev h) (ev_some _))
theorem spec_ZonoPath_no {p : List (List Int)} (hl : p.length ≤ 1048576) (h : starB p = false) : Ev (fun k => spec_ZonoPath.f k p) ([], false) := by
  unfold spec_ZonoPath.f
  refine Ev.bind (spec_l7Star_ev p hl) ?_
  rw [h]
  exact ev_neg (by decide) (ev_some _)

/-- The size's test: where it leaves something, there are no more rows than the bound, and no row is longer. -/
theorem szIntSS_ev (p : List (List Int)) (n : Nat) (hn : n ≤ 1048576) (hp : p.length ≤ 9223372036854775807) (hs : ∀ s ∈ p, s.length ≤ 9223372036854775807) :
    ∃ r : Int, Ev (fun k => laws_szIntSS.f k p (n : Int)) r ∧ (r < 0 ∨ (0 ≤ r ∧ r ≤ n ∧ p.length ≤ n ∧ ∀ s ∈ p, s.length ≤ n)) := by
  unfold laws_szIntSS.f
  rw [w64 (x := (n : Int) - (p.length : Int)) (by omega)]
  by_cases c : (n : Int) - (p.length : Int) < 0
  · exact ⟨-1, ev_pos c (ev_some _), Or.inl (by decide)⟩
  · have hpn : p.length ≤ n := by omega
    have key := down (fun i => ∀ m : Nat, m ≤ n → (∀ s ∈ p.take i, s.length ≤ n) → ∃ r : Int, Ev (fun k => laws_szIntSS.l0 k p (m : Int) (i : Int)) r ∧ (r < 0 ∨ (0 ≤ r ∧ r ≤ n ∧ p.length ≤ n ∧ ∀ s ∈ p, s.length ≤ n))) p.length ?_ ?_ 0 (by omega)
    · obtain ⟨r, hr, hr2⟩ := key (n - p.length) (by omega) (fun s hs => by cases hs)
      refine ⟨r, ev_neg c ?_, hr2⟩
      rw [show ((n - p.length : Nat) : Int) = (n : Int) - (p.length : Int) from by omega] at hr
      exact hr
    · intro m hm h
      rw [List.take_length] at h
      refine ⟨m, ev_step ?_, Or.inr ⟨by omega, by omega, hpn, h⟩⟩
      simp only [laws_szIntSS.l0]
      exact ev_neg (by omega) (ev_some _)
    · intro i hi ih m hm h
      have hl := hs p[i] (List.getElem_mem _)
      have es : laws_szIntS.f p[i] (m : Int) = some (if (m : Int) - (p[i].length : Int) < 0 then -1 else (m : Int) - (p[i].length : Int)) := by
        unfold laws_szIntS.f
        rw [w64 (by omega)]
        split <;> rfl
      by_cases d : (m : Int) - (p[i].length : Int) < 0
      · refine ⟨-1, ev_step ?_, Or.inl (by decide)⟩
        simp only [laws_szIntSS.l0]
        refine ev_pos (by omega) (ev_pos (by omega) ?_)
        rw [rdl_get hi, es, if_pos d]
        simp only [Option.bind_some]
        exact ev_pos (by decide) (ev_some _)
      · obtain ⟨r, hr, hr2⟩ := ih (m - p[i].length) (by omega) (by
          intro s hs2
          rw [List.take_succ_eq_append_getElem hi] at hs2
          rcases List.mem_append.1 hs2 with hs2 | hs2
          · exact h s hs2
          · obtain rfl := List.mem_singleton.1 hs2
            omega)
        refine ⟨r, ev_step ?_, hr2⟩
        simp only [laws_szIntSS.l0]
        refine ev_pos (by omega) (ev_pos (by omega) ?_)
        rw [rdl_get hi, es, if_neg d, w64_succ (by omega)]
        simp only [Option.bind_some]
        refine ev_neg (by omega) ?_
        rw [show ((m - p[i].length : Nat) : Int) = (m : Int) - (p[i].length : Int) from by omega] at hr
        exact hr

theorem toIntS_ev (l : List Int) (h : l.length ≤ 1048576) : Ev (fun k => laws_toIntS.f k l) l := by
  unfold laws_toIntS.f
  refine ev_pos (by omega) (ev_pos (by omega) ?_)
  have key := ev_count (fun k i => laws_toIntS.l0 k l (l.take i ++ List.replicate (l.length - i) 0) (i : Int)) (fun _ => l) l.length
    (by
      refine ev_step ?_
      simp only [laws_toIntS.l0]
      refine ev_neg (by omega) ?_
      simpa using ev_some l)
    (by
      intro i hi ih
      refine ev_step ?_
      simp only [laws_toIntS.l0]
      refine ev_pos (by omega) (ev_pos (by omega) (ev_pos (by simp; omega) ?_))
      rw [w64_succ (by omega), Int.toNat_natCast, rd_get hi, set_copy hi]
      exact ih)
  have := key 0 (by omega)
  simpa using this

theorem set_copyR {l : List (List Int)} {i : Nat} (h : i < l.length) : (l.take i ++ List.replicate (l.length - i) []).set i l[i] = l.take (i + 1) ++ List.replicate (l.length - (i + 1)) [] := by
  rw [List.set_append_right _ _ (by simp; omega), show l.length - i = (l.length - (i + 1)) + 1 from by omega, List.replicate_succ]
  have hz : i - (l.take i).length = 0 := by simp; omega
  rw [hz, List.set_cons_zero, List.take_succ_eq_append_getElem h, List.append_assoc]; rfl
theorem toIntSS_ev (l : List (List Int)) (h : l.length ≤ 1048576) (hs : ∀ s ∈ l, s.length ≤ 1048576) : Ev (fun k => laws_toIntSS.f k l) l := by
  unfold laws_toIntSS.f
  refine ev_pos (by omega) (ev_pos (by omega) ?_)
  have key := ev_count (fun k i => laws_toIntSS.l0 k l (l.take i ++ List.replicate (l.length - i) []) (i : Int)) (fun _ => l) l.length
    (by
      refine ev_step ?_
      simp only [laws_toIntSS.l0]
      refine ev_neg (by omega) ?_
      simpa using ev_some l)
    (by
      intro i hi ih
      refine ev_step ?_
      simp only [laws_toIntSS.l0]
      refine ev_pos (by omega) (ev_pos (by omega) ?_)
      rw [rdl_get hi]
      refine Ev.bind (toIntS_ev _ (hs _ (List.getElem_mem _))) (ev_pos (by simp; omega) ?_)
      rw [w64_succ (by omega), Int.toNat_natCast, set_copyR hi]
      exact ih)
  have := key 0 (by omega)
  simpa using this

theorem eqIntS_self (l : List Int) (h : l.length ≤ 1048576) : Ev (fun k => laws_eqIntS.f k l l) true := by
  unfold laws_eqIntS.f
  refine ev_pos (by trivial) ?_
  refine ev_count (fun k i => laws_eqIntS.l0 k l l (i : Int)) (fun _ => true) l.length ?_ ?_ 0 (by omega)
  · refine ev_step ?_
    simp only [laws_eqIntS.l0]
    exact ev_neg (by omega) (ev_some _)
  · intro i hi ih
    refine ev_step ?_
    simp only [laws_eqIntS.l0]
    refine ev_pos (by omega) (ev_pos (by omega) (ev_pos (by omega) (ev_pos (by trivial) ?_)))
    rw [w64_succ (by omega)]
    exact ih

theorem eqIntSS_self (l : List (List Int)) (h : l.length ≤ 1048576) (hs : ∀ s ∈ l, s.length ≤ 1048576) : Ev (fun k => laws_eqIntSS.f k l l) true := by
  unfold laws_eqIntSS.f
  refine ev_pos (by trivial) ?_
  refine ev_count (fun k i => laws_eqIntSS.l0 k l l (i : Int)) (fun _ => true) l.length ?_ ?_ 0 (by omega)
  · refine ev_step ?_
    simp only [laws_eqIntSS.l0]
    exact ev_neg (by omega) (ev_some _)
  · intro i hi ih
    refine ev_step ?_
    simp only [laws_eqIntSS.l0]
    refine ev_pos (by omega) (ev_pos (by omega) (ev_pos (by omega) ?_))
    rw [rdl_get hi]
    refine Ev.bind (eqIntS_self _ (hs _ (List.getElem_mem _))) (ev_pos (by trivial) ?_)
    rw [w64_succ (by omega)]
    exact ih

def marks (n : Nat) (a : Int) : List Int := (List.range n).map fun (i : Nat) => a + (i : Int)
theorem marks_length (n : Nat) (a : Int) : (marks n a).length = n := by simp [marks]
theorem marks_get {n i : Nat} (a : Int) (h : i < n) : rd (marks n a) (i : Int) = a + i := by
  rw [rd_nat]; simp [marks, h]
theorem marks_set (l : List Int) (a : Int) {i : Nat} (h : i < l.length) : (marks i a ++ l.drop i).set i (a + i) = marks (i + 1) a ++ l.drop (i + 1) := by
  rw [List.set_append_right _ _ (by simp [marks]), marks_length, Nat.sub_self, drop_cons h, List.set_cons_zero]
  unfold marks
  rw [List.range_succ, List.map_append, List.append_assoc]; rfl
theorem markIntS_ev (l : List Int) (a : Int) (h : l.length ≤ 1048576) (ha : 0 ≤ a ∧ a ≤ 4611686018427387904) : Ev (fun k => laws_markIntS.f k l a) (a + l.length, marks l.length a) := by
  unfold laws_markIntS.f
  have := ev_count (fun k i => laws_markIntS.l0 k (marks i a ++ l.drop i) (a + i) (i : Int)) (fun _ => (a + l.length, marks l.length a)) l.length ?_ ?_ 0 (by omega)
  · simpa [marks] using this
  · refine ev_step ?_
    simp only [laws_markIntS.l0]
    refine ev_neg (by simp [marks_length]) ?_
    simpa using ev_some _
  · intro i hi ih
    refine ev_step ?_
    simp only [laws_markIntS.l0]
    refine ev_pos (by simp [marks_length]; omega) (ev_pos (by omega) ?_)
    rw [w64_succ (by omega), Int.toNat_natCast, marks_set l a hi, w64 (by omega), show a + (i : Int) + 1 = a + ((i + 1 : Nat) : Int) from by omega]
    exact ih
theorem heldIntS_ev (n : Nat) (a : Int) (h : n ≤ 1048576) (ha : 0 ≤ a ∧ a ≤ 4611686018427387904) : Ev (fun k => laws_heldIntS.f k (marks n a) a) (a + n) := by
  unfold laws_heldIntS.f
  have := ev_count (fun k i => laws_heldIntS.l0 k (marks n a) (a + i) (i : Int)) (fun _ => a + (n : Int)) n ?_ ?_ 0 (by omega)
  · simpa using this
  · refine ev_step ?_
    simp only [laws_heldIntS.l0]
    exact ev_neg (by simp [marks_length]) (ev_some _)
  · intro i hi ih
    refine ev_step ?_
    simp only [laws_heldIntS.l0]
    refine ev_pos (by simp [marks_length]; omega) (ev_pos (by omega) (ev_pos (marks_get a hi) ?_))
    rw [w64_succ (by omega), w64 (by omega), show a + (i : Int) + 1 = a + ((i + 1 : Nat) : Int) from by omega]
    exact ih

def marksR : List (List Int) → Int → List (List Int)
  | [], _ => []
  | s :: t, a => marks s.length a :: marksR t (a + s.length)
def tot (l : List (List Int)) : Int := (l.map (fun s => (s.length : Int))).sum
theorem tot_cons (s : List Int) (t : List (List Int)) : tot (s :: t) = s.length + tot t := rfl
theorem tot_nonneg (l : List (List Int)) : 0 ≤ tot l := by
  induction l with
  | nil => exact Int.le_refl _
  | cons s t ih => rw [tot_cons]; omega
theorem tot_le {l : List (List Int)} (hs : ∀ s ∈ l, s.length ≤ 1048576) : tot l ≤ 1048576 * l.length := by
  induction l with
  | nil => exact Int.le_refl _
  | cons s t ih =>
    have h1 := hs s (by simp)
    have h2 := ih (fun u hu => hs u (by simp [hu]))
    rw [tot_cons, List.length_cons]; omega
theorem marksR_length (l : List (List Int)) (a : Int) : (marksR l a).length = l.length := by
  induction l generalizing a with
  | nil => rfl
  | cons s t ih => simp [marksR, ih]
theorem marksR_get (l : List (List Int)) : ∀ (a : Int) (i : Nat) (h : i < l.length), (marksR l a)[i]'(by rw [marksR_length]; exact h) = marks (l[i]).length (a + tot (l.take i)) := by
  induction l with
  | nil => intro a i h; exact absurd h (by simp)
  | cons s t ih =>
    intro a i h
    match i with
    | 0 => simp [marksR, tot]
    | i + 1 =>
      have := ih (a + s.length) i (by simpa using h)
      simp only [marksR, List.getElem_cons_succ, List.take_succ_cons, tot_cons]
      rw [this, Int.add_assoc]
theorem markIntSS_ev (l : List (List Int)) (hl : l.length ≤ 1048576) (hs : ∀ s ∈ l, s.length ≤ 1048576) : Ev (fun k => laws_markIntSS.f k l 1) (1 + tot l, marksR l 1) := by
  have key : ∀ (l : List (List Int)) (a : Int), (∀ s ∈ l, s.length ≤ 1048576) → 0 ≤ a → a + 1048576 * l.length ≤ 4611686018427387904 → Ev (fun k => laws_markIntSS.l0 k l a) (a + tot l, marksR l a) := by
    intro l
    induction l with
    | nil =>
      intro a _ _ _
      simp only [laws_markIntSS.l0]
      have : (a + tot [], marksR [] a) = (a, ([] : List (List Int))) := by simp [tot, marksR]
      rw [this]
      exact ev_some _
    | cons s t ih =>
      intro a hs h0 ha
      have h1 := hs s (by simp)
      simp only [List.length_cons] at ha
      simp only [laws_markIntSS.l0]
      refine Ev.bind (markIntS_ev s a h1 (by omega)) (Ev.bind (ih (a + s.length) (fun u hu => hs u (by simp [hu])) (by omega) (by omega)) ?_)
      have : (a + tot (s :: t), marksR (s :: t) a) = (a + s.length + tot t, marks s.length a :: marksR t (a + s.length)) := by rw [tot_cons, ← Int.add_assoc]; rfl
      rw [this]
      exact ev_some _
  unfold laws_markIntSS.f
  exact key l 1 hs (by omega) (by omega)
theorem tot_take {l : List (List Int)} {i : Nat} (h : i < l.length) : tot (l.take (i + 1)) = tot (l.take i) + l[i].length := by
  unfold tot
  rw [List.take_succ_eq_append_getElem h, List.map_append, List.sum_append]; simp
theorem tot_take_le {l : List (List Int)} (hs : ∀ s ∈ l, s.length ≤ 1048576) (i : Nat) : tot (l.take i) ≤ 1048576 * l.length := by
  have := tot_le (l := l.take i) (fun s h => hs s (List.mem_of_mem_take h))
  have h2 : (l.take i).length ≤ l.length := by simp; omega
  omega
theorem heldIntSS_ev (l : List (List Int)) (hl : l.length ≤ 1048576) (hs : ∀ s ∈ l, s.length ≤ 1048576) : Ev (fun k => laws_heldIntSS.f k (marksR l 1) 1) (1 + tot l) := by
  unfold laws_heldIntSS.f
  have key := ev_count (fun k i => laws_heldIntSS.l0 k (marksR l 1) (1 + tot (l.take i)) (i : Int)) (fun _ => 1 + tot l) l.length ?_ ?_ 0 (by omega)
  · simpa [tot] using key
  · refine ev_step ?_
    simp only [laws_heldIntSS.l0]
    refine ev_neg (by rw [marksR_length]; omega) ?_
    rw [List.take_length]
    exact ev_some _
  · intro i hi ih
    have hi' : i < (marksR l 1).length := by rw [marksR_length]; exact hi
    have h0 := tot_nonneg (l.take i)
    have h1 := tot_take_le hs i
    have h2 := tot_take hi
    have h3 := tot_nonneg (l.take (i + 1))
    refine ev_step ?_
    simp only [laws_heldIntSS.l0]
    rw [rdl_get hi', marksR_get l 1 i hi, w64_succ (by omega)]
    refine ev_pos (by rw [marksR_length]; omega) (ev_pos (by omega) (Ev.bind (heldIntS_ev _ _ (hs _ (List.getElem_mem _)) (by omega)) (ev_neg (by omega) ?_)))
    rw [h2, ← Int.add_assoc] at ih
    exact ih

theorem L_short {q : List V} : ∀ s ∈ L q, s.length ≤ 1048576 := by
  intro s hs
  obtain ⟨v, _, rfl⟩ := List.mem_map.1 hs
  exact (by decide : 2 ≤ 1048576)
theorem FnExactZonoPath (p : List (List Int)) (hp : p.length ≤ 9223372036854775807) (hs : ∀ s ∈ p, s.length ≤ 9223372036854775807) : ∃ k, laws_FnExactZonoPath.f k p = some true := by
  refine Ev.rounds ?_
  unfold laws_FnExactZonoPath.f
  obtain ⟨r, hr, hr2⟩ := szIntSS_ev p 1048576 (by omega) hp hs
  refine Ev.bind hr ?_
  rcases hr2 with h | ⟨h0, h1, h2, h3⟩
  · exact ev_pos h (ev_some _)
  · refine ev_neg (by omega) (Ev.bind (toIntSS_ev p h2 h3) ?_)
    have fin : ∀ (g : List (List Int)) (b : Bool), g.length ≤ 1048576 → (∀ s ∈ g, s.length ≤ 1048576) → Ev (fun k => (laws_eqIntSS.f k (g, b).1 (g, b).1).bind fun e1 => (laws_eqIntSS.f k p p).bind fun e2 => (laws_markIntSS.f k p 1).bind fun mx => (laws_markIntSS.f k (g, b).1 1).bind fun mg => (laws_heldIntSS.f k mg.2 1).bind fun q => if e1 = true ∧ (g, b).2 = (g, b).2 ∧ e2 = true ∧ 0 ≤ mx.1 ∧ 0 ≤ q ∧ q = mg.1 then some true else none) true := by
      intro g b hg hgs
      have n1 := tot_nonneg p
      have n2 := tot_nonneg g
      exact Ev.bind (eqIntSS_self g hg hgs) (Ev.bind (eqIntSS_self p h2 h3) (Ev.bind (markIntSS_ev p h2 h3) (Ev.bind (markIntSS_ev g hg hgs) (Ev.bind (heldIntSS_ev g hg hgs) (ev_pos ⟨rfl, rfl, rfl, by dsimp only; omega, by omega, rfl⟩ (ev_some _))))))
    by_cases c : starB p = true
    · obtain ⟨q, hq, hP⟩ := star_of c
      have h8 := hP.hi
      rw [hq] at fin h2 h3 ⊢
      exact Ev.bind (spec_ZonoPath_ev hP) (Ev.bind (impl_ZonoPath_ev hP) (fin _ true (by rw [L_length, zono_length]; omega) L_short))
    · have c' := Bool.eq_false_iff.2 c
      exact Ev.bind (spec_ZonoPath_no h2 c') (Ev.bind (impl_ZonoPath_no h2 c') (fin [] false (by decide) (fun s hs => by cases hs)))

end Go.Proofs.Ytkphiccdgclldaa.Pure
