/- An exact promise of the given program: OrderFewest answers as the reference's does, for every slice of slices of numbers. -/
import Derived.Test.YtdjddfeokpmfaaaPFnExactOrderFewestx8
import Derived.Test.YtdjddfeokpmfaaaBase
import Derived.Test.YtdjddfeokpmfaaaPth
import Derived.Test.YtdjddfeokpmfaaaSrt
import Derived.Test.YtdjddfeokpmfaaaBox
import Derived.Test.YtdjddfeokpmfaaaCvx
import Derived.Test.YtdjddfeokpmfaaaIso
import Derived.Test.YtdjddfeokpmfaaaOrd
import Derived.Test.YtdjddfeokpmfaaaHRaw
import Derived.Test.YtdjddfeokpmfaaaRim
import Derived.Test.YtdjddfeokpmfaaaTurn
import Derived.Test.YtdjddfeokpmfaaaHOrd
import Derived.Test.YtdjddfeokpmfaaaPerm
import Derived.Test.YtdjddfeokpmfaaaFew
import Derived.Test.YtdjddfeokpmfaaaRowsIn
namespace Go.Proofs.Ytdjddfeokpmfaaa.Pure
open Go.RowKit Go.Proofs.Ytdjddfeokpmfaaa.PFnExactOrderFewest Go.Proofs.YtdjddfeokpmfaaaW.PrintWords Go.Proofs.YtdjddfeokpmfaaaW.PrintLast Go.Proofs.YtdjddfeokpmfaaaW.PrintMore Go.Proofs.Ytdjddfeokpmfaaa.Base Go.Proofs.Ytdjddfeokpmfaaa.Pth Go.Proofs.Ytdjddfeokpmfaaa.Srt Go.Proofs.Ytdjddfeokpmfaaa.Box Go.Proofs.Ytdjddfeokpmfaaa.Cvx Go.Proofs.Ytdjddfeokpmfaaa.Iso Go.Proofs.Ytdjddfeokpmfaaa.Ord Go.Proofs.Ytdjddfeokpmfaaa.HRaw Go.Proofs.Ytdjddfeokpmfaaa.Rim Go.Proofs.Ytdjddfeokpmfaaa.Turn Go.Proofs.Ytdjddfeokpmfaaa.HOrd Go.Proofs.Ytdjddfeokpmfaaa.Perm Go.Proofs.Ytdjddfeokpmfaaa.Few Go.Proofs.Ytdjddfeokpmfaaa.RowsIn
set_option linter.unusedVariables false
set_option linter.unusedSimpArgs false
theorem rdl_get {p : List (List Int)} {i : Nat} (h : i < p.length) : rd_L1 p (i : Int) = p[i] := by unfold rd_L1; rw [Int.toNat_natCast]; simp [h]
theorem rdl_L {q : List V} {i : Nat} (h : i < q.length) : rd_L1 (L q) (i : Int) = ofV q[i] := by
  rw [rdl_get (by rw [L_length]; exact h)]; simp [L]
theorem rd0 (v : V) : rd (ofV v) 0 = v.1 := rfl
theorem rd1 (v : V) : rd (ofV v) 1 = v.2 := rfl
theorem len_ofV (v : V) : ((ofV v).length : Int) = 2 := rfl
theorem lenL (q : List V) : ((L q).length : Int) = (q.length : Int) := by rw [L_length]

theorem L_take (q : List V) (n : Nat) : (L q).take n = L (q.take n) := by simp [L]
theorem L_drop (q : List V) (n : Nat) : (L q).drop n = L (q.drop n) := by simp [L]
theorem L_append (a b : List V) : L a ++ L b = L (a ++ b) := by simp [L]
theorem L_snoc (q : List V) (v : V) : L q ++ [ofV v] = L (q ++ [v]) := by simp [L]

theorem impl_isStep_eq (s : List Int) : impl_isStep.f s = some (stepB s) := by
  match s with
  | [] => rfl
  | [_] => rfl
  | [x, y] =>
    unfold impl_isStep.f
    have h0 : rd [x, y] 0 = x := rfl
    have h1 : rd [x, y] 1 = y := rfl
    have hl : ([x, y].length : Int) = 2 := rfl
    rw [h0, h1, hl, if_pos rfl, if_pos (by decide)]
    rw [stepB_two]
    by_cases a : x ≥ -9
    · rw [if_pos a]
      by_cases b : x ≤ 9
      · rw [if_pos b, if_pos (by decide)]
        by_cases c : y ≥ -9
        · rw [if_pos c]
          by_cases d : y ≤ 9
          · rw [if_pos d]
            by_cases e : x = 0
            · rw [if_pos e]
              by_cases f : y = 0
              · subst e f; rfl
              · have : (y != 0) = true := by simpa using f
                rw [this, decide_eq_true (by omega)]
            · rw [if_neg e, decide_eq_true (by omega)]
          · rw [if_neg d, decide_eq_false (by omega)]
        · rw [if_neg c, decide_eq_false (by omega)]
      · rw [if_neg b, decide_eq_false (by omega)]
    · rw [if_neg a, decide_eq_false (by omega)]
  | a :: b :: c :: t =>
    unfold impl_isStep.f
    rw [if_neg (by simp; omega)]; rfl

theorem gx_take {p : List (List Int)} {i : Nat} (h : i < p.length) : gx (p.take (i + 1)) = gx (p.take i) + p[i].getD 0 0 := by
  unfold gx; rw [List.take_succ_eq_append_getElem h, List.map_append, List.sum_append]
  simp only [List.map_cons, List.map_nil, List.sum_cons, List.sum_nil, Int.add_zero]
theorem gy_take {p : List (List Int)} {i : Nat} (h : i < p.length) : gy (p.take (i + 1)) = gy (p.take i) + p[i].getD 1 0 := by
  unfold gy; rw [List.take_succ_eq_append_getElem h, List.map_append, List.sum_append]
  simp only [List.map_cons, List.map_nil, List.sum_cons, List.sum_nil, Int.add_zero]
theorem g_bound {p : List (List Int)} (h : p.all stepB = true) : (-(9 * (p.length : Int)) ≤ gx p ∧ gx p ≤ 9 * p.length) ∧ -(9 * (p.length : Int)) ≤ gy p ∧ gy p ≤ 9 * p.length := by
  obtain ⟨q, rfl, hq⟩ := all_steps p h
  rw [gx_L, gy_L, L_length]
  exact ⟨sx_bound hq, sy_bound hq⟩
theorem all_take {p : List (List Int)} {i : Nat} (h : i < p.length) (ha : (p.take i).all stepB = true) (hs : stepB p[i] = true) : (p.take (i + 1)).all stepB = true := by
  rw [List.take_succ_eq_append_getElem h, List.all_append, ha]; simp [hs]
theorem impl_PathIn_loop (p : List (List Int)) (h : p.length ≤ 1048576) : Ev (fun k => impl_PathIn.l0 k 0 0 p (p.length : Int) 0) (p.all stepB && decide (gx p = 0) && decide (gy p = 0)) := by
  have key := down (fun i => (p.take i).all stepB = true → Ev (fun k => impl_PathIn.l0 k (gx (p.take i)) (gy (p.take i)) p (p.length : Int) (i : Int)) ((p.drop i).all stepB && decide (gx p = 0) && decide (gy p = 0))) p.length ?_ ?_ 0 (by omega)
  · exact key rfl
  · intro _
    refine ev_step ?_
    simp only [impl_PathIn.l0]
    refine ev_neg (by omega) ?_
    rw [List.take_length, List.drop_length]
    by_cases c : gx p = 0
    · refine ev_pos c ?_
      rw [c]
      have : (gy p == 0) = decide (gy p = 0) := rfl
      rw [this]
      simpa using ev_some _
    · refine ev_neg c ?_
      rw [decide_eq_false c]
      simpa using ev_some _
  · intro i hi ih ha
    refine ev_step ?_
    simp only [impl_PathIn.l0]
    refine ev_pos (by omega) (ev_pos (by omega) (ev_pos (by omega) ?_))
    rw [rdl_get hi, impl_isStep_eq, drop_cons hi, List.all_cons]
    simp only [Option.bind_some]
    by_cases hs : stepB p[i] = true
    · refine ev_pos hs ?_
      have ha' := all_take hi ha hs
      have ih' := ih ha'
      have hb := g_bound ha'
      rw [gx_take hi, gy_take hi] at ih' hb
      obtain ⟨v, hv, hsv⟩ := stepB_of _ hs
      rw [hv] at ih' hb ⊢
      refine ev_pos (by rw [len_ofV]; decide) (ev_pos (by rw [len_ofV]; decide) ?_)
      have hlen : ((p.take (i + 1)).length : Int) ≤ 1048576 := by simp; omega
      rw [w64_succ (by omega), rd0, rd1]
      have e0 : (ofV v).getD 0 0 = v.1 := rfl
      have e1 : (ofV v).getD 1 0 = v.2 := rfl
      rw [e0, e1] at ih' hb
      rw [w64 (by omega), w64 (by omega), (stepB_ofV v).2 hsv, Bool.true_and]
      exact ih'
    · refine ev_neg hs ?_
      rw [Bool.eq_false_iff.2 hs]
      simpa using ev_some _
theorem impl_PathIn_ev (p : List (List Int)) (h : p.length ≤ 1048576) : Ev (fun k => impl_PathIn.f k p) (pathB p) := by
  unfold impl_PathIn.f pathB
  by_cases c : (p.length : Int) < 3
  · refine ev_pos c (ev_step ?_)
    simp only [impl_PathIn.j0]
    refine ev_pos (by trivial) ?_
    rw [decide_eq_false (by omega)]
    simpa using ev_some _
  · refine ev_neg c (ev_step ?_)
    simp only [impl_PathIn.j0]
    by_cases d : (p.length : Int) > 8
    · refine ev_pos (by simpa using d) ?_
      rw [decide_eq_false (p := p.length ≤ 8) (by omega)]
      simpa using ev_some _
    · refine ev_neg (by simpa using d) ?_
      rw [decide_eq_true (by omega), decide_eq_true (by omega)]
      simpa using impl_PathIn_loop p h

theorem impl_run_eq {q : List V} {i j : Nat} (h1 : i ≤ j) (h2 : j < q.length) (h3 : q.length ≤ 1048576) : impl_run.f (L q) (i : Int) (j : Int) = some (L (turned q i j)) := by
  unfold impl_run.f
  rw [if_pos (by omega), if_pos (by omega), lenL, if_pos (by omega), L_length, if_pos (by omega), Int.toNat_natCast, Int.toNat_natCast, L_turned]
def b9 (v : V) : Prop := -9 ≤ v.1 ∧ v.1 ≤ 9 ∧ -9 ≤ v.2 ∧ v.2 ≤ 9
theorem cr_bound {a b : V} (ha : b9 a) (hb : b9 b) : -162 ≤ cr a b ∧ cr a b ≤ 162 := by
  unfold b9 at ha hb
  have h1 := mul9 (x := a.1) (v := b.2) (M := 9) ⟨ha.1, ha.2.1⟩ ⟨hb.2.2.1, hb.2.2.2⟩
  have h2 := mul9 (x := a.2) (v := b.1) (M := 9) ⟨ha.2.2.1, ha.2.2.2⟩ ⟨hb.1, hb.2.1⟩
  unfold cr; omega

theorem b9_of {q : List V} (h : Path q) : ∀ v ∈ q, b9 v := fun v hv => by
  have := h.st v hv
  simp only [stepV] at this
  unfold b9; omega
theorem impl_cross_eq {a b : V} (ha : b9 a) (hb : b9 b) : impl_cross.f (ofV a) (ofV b) = some (cr a b) := by
  unfold impl_cross.f
  rw [len_ofV, len_ofV, if_pos (by decide), if_pos (by decide), if_pos (by decide), if_pos (by decide), rd0, rd0, rd1, rd1]
  simp only [w_sub_l, w_sub_r]
  have := cr_bound ha hb
  unfold cr at this ⊢
  rw [w64 (by omega)]
theorem impl_lower_eq {a : V} (h : stepV a) : impl_lower.f (ofV a) = some (decide (half a = 1)) := by
  unfold impl_lower.f half
  simp only [stepV] at h
  rw [len_ofV, rd0, rd1, if_pos (by decide)]
  by_cases c : a.2 < 0
  · rw [if_pos c, if_neg (by omega), if_neg (by omega)]; rfl
  · rw [if_neg c]
    by_cases d : a.2 = 0
    · rw [if_pos d, if_pos (by decide), if_neg (by omega)]
      by_cases e : a.1 > 0
      · rw [if_pos ⟨d, e⟩, decide_eq_false (by omega)]; rfl
      · rw [if_neg (fun h => e h.2), decide_eq_true (by omega)]; rfl
    · rw [if_neg d, if_pos (by omega)]; rfl
theorem half01 (a : V) : half a = 0 ∨ half a = 1 := by
  unfold half
  split
  · exact Or.inl rfl
  · split
    · exact Or.inl rfl
    · exact Or.inr rfl
theorem impl_compare_ev {a b : V} (ha : stepV a) (hb : stepV b) : ∃ n, impl_compareSteps.f (ofV a) (ofV b) = some n ∧ (decide (n > 0) = desc a b) ∧ -1 ≤ n ∧ n ≤ 1 := by
  unfold impl_compareSteps.f
  rw [impl_lower_eq ha, impl_lower_eq hb, impl_cross_eq (by simp only [stepV] at ha; unfold b9; omega) (by simp only [stepV] at hb; unfold b9; omega)]
  simp only [Option.bind_some]
  unfold desc before
  rcases half01 a with h0 | h0 <;> rcases half01 b with h1 | h1 <;> rw [h0, h1]
  · rw [if_neg (by decide), if_pos rfl]
    have e : cr b a = -cr a b := by unfold cr; grind
    rw [e]
    by_cases c : cr a b > 0
    · exact ⟨-1, by rw [if_pos c], by rw [decide_eq_false (by omega), decide_eq_false (by omega)], by omega⟩
    · by_cases d : cr a b < 0
      · exact ⟨1, by rw [if_neg c, if_pos d], by rw [decide_eq_true (by omega), decide_eq_true (by omega)], by omega⟩
      · exact ⟨0, by rw [if_neg c, if_neg d], by rw [decide_eq_false (by omega), decide_eq_false (by omega)], by omega⟩
  · exact ⟨-1, by simp, by simp, by omega⟩
  · exact ⟨1, by simp, by simp, by omega⟩
  · rw [if_neg (by decide), if_pos rfl]
    have e : cr b a = -cr a b := by unfold cr; grind
    rw [e]
    by_cases c : cr a b > 0
    · exact ⟨-1, by rw [if_pos c], by rw [decide_eq_false (by omega), decide_eq_false (by omega)], by omega⟩
    · by_cases d : cr a b < 0
      · exact ⟨1, by rw [if_neg c, if_pos d], by rw [decide_eq_true (by omega), decide_eq_true (by omega)], by omega⟩
      · exact ⟨0, by rw [if_neg c, if_neg d], by rw [decide_eq_false (by omega), decide_eq_false (by omega)], by omega⟩

theorem dot_bound {a b : V} (ha : b9 a) (hb : b9 b) : -162 ≤ dot a b ∧ dot a b ≤ 162 := by
  unfold b9 at ha hb
  have h1 := mul9 (x := a.1) (v := b.1) (M := 9) ⟨ha.1, ha.2.1⟩ ⟨hb.1, hb.2.1⟩
  have h2 := mul9 (x := a.2) (v := b.2) (M := 9) ⟨ha.2.2.1, ha.2.2.2⟩ ⟨hb.2.2.1, hb.2.2.2⟩
  unfold dot; omega
theorem dot_wrap {a b : V} (ha : b9 a) (hb : b9 b) : wrap64 (wrap64 (a.1 * b.1) + wrap64 (a.2 * b.2)) = dot a b := by
  have := dot_bound ha hb
  simp only [w_add_l, w_add_r]
  unfold dot at this ⊢
  rw [w64 (by omega)]
theorem cnt_take {q : List V} {i : Nat} (h : i < q.length) : (((prs q).take (i + 1)).countP dsc : Nat) = ((prs q).take i).countP dsc + if desc q[i] (q[(i + 1) % q.length]'(Nat.mod_lt _ (by omega))) = true then 1 else 0 := by
  rw [List.take_succ_eq_append_getElem (by rw [prs_length]; exact h), List.countP_append, prs_get h]
  simp only [List.countP_cons, List.countP_nil, Nat.zero_add]
  rfl
theorem cnt_le (q : List V) (i : Nat) : ((prs q).take i).countP dsc ≤ q.length := by
  have := List.countP_le_length (p := dsc) (l := (prs q).take i)
  have h2 := prs_length q
  simp at this
  omega
theorem prs_drop {q : List V} {i : Nat} (h : i < q.length) : ((prs q).drop i).all good = (!bad q[i] (q[(i + 1) % q.length]'(Nat.mod_lt _ (by omega))) && ((prs q).drop (i + 1)).all good) := by
  rw [drop_cons (by rw [prs_length]; exact h), List.all_cons, prs_get h]; rfl
theorem impl_convex_ev {q : List V} (h : Path q) : Ev (fun k => impl_convex.f k (L q)) (cvx q) := by
  unfold impl_convex.f cvx
  have hq := h.hi
  have h3 := h.lo
  have key := ev_count (fun k i => impl_convex.l0 k (L q) ((((prs q).take i).countP dsc : Nat) : Int) (L q) ((L q).length : Int) (i : Int)) (fun i => ((prs q).drop i).all good && decide ((prs q).countP dsc = 1)) q.length ?_ ?_ 0 (by omega)
  · exact key
  · refine ev_step ?_
    simp only [impl_convex.l0]
    refine ev_neg (by rw [lenL]; omega) ?_
    rw [List.take_of_length_le (by rw [prs_length]; omega), List.drop_of_length_le (by rw [prs_length]; omega)]
    have e : ((((prs q).countP dsc : Nat) : Int) == 1) = decide ((prs q).countP dsc = 1) := by
      rw [Bool.eq_iff_iff]; simp; omega
    rw [e]
    simpa using ev_some _
  · intro i hi ih
    have hm : (i + 1) % q.length < q.length := Nat.mod_lt _ (by omega)
    have em : Int.tmod (wrap64 ((i : Int) + 1)) ((L q).length : Int) = (((i + 1) % q.length : Nat) : Int) := by
      rw [w64_succ (by omega), lenL, ← Int.ofNat_tmod]
    have ba := b9_of h q[i] (List.getElem_mem _)
    have bb := b9_of h q[(i + 1) % q.length] (List.getElem_mem _)
    have sa := h.st q[i] (List.getElem_mem _)
    have sb := h.st q[(i + 1) % q.length] (List.getElem_mem _)
    obtain ⟨n, hn, hd, hn1, hn2⟩ := impl_compare_ev sa sb
    have hc := cnt_le q i
    have hct := cnt_take hi
    have cont : bad q[i] q[(i + 1) % q.length] = false → Ev (fun k => impl_convex.j1 k (L q) ((((prs q).take i).countP dsc : Nat) : Int) (ofV q[i]) (ofV q[(i + 1) % q.length]) (L q) ((L q).length : Int) (i : Int) false) (((prs q).drop i).all good && decide ((prs q).countP dsc = 1)) := by
      intro hb
      refine ev_step ?_
      simp only [impl_convex.j1]
      refine ev_neg (by simp) ?_
      rw [hn, prs_drop hi, hb, w64_succ (i := i) (by omega)]
      simp only [Option.bind_some, Bool.not_false, Bool.true_and]
      by_cases hz : desc q[i] q[(i + 1) % q.length] = true
      · rw [hz] at hd
        refine ev_pos (by simpa using hd) ?_
        rw [if_pos hz] at hct
        rw [w64_succ (i := ((prs q).take i).countP dsc) (by omega)]
        rw [hct] at ih
        exact ih
      · rw [Bool.eq_false_iff.2 hz] at hd
        refine ev_neg (by simpa using hd) ?_
        rw [if_neg hz, Nat.add_zero] at hct
        rw [hct] at ih
        exact ih
    have stop : bad q[i] q[(i + 1) % q.length] = true → Ev (fun k => impl_convex.j1 k (L q) ((((prs q).take i).countP dsc : Nat) : Int) (ofV q[i]) (ofV q[(i + 1) % q.length]) (L q) ((L q).length : Int) (i : Int) true) (((prs q).drop i).all good && decide ((prs q).countP dsc = 1)) := by
      intro hb
      refine ev_step ?_
      simp only [impl_convex.j1]
      refine ev_pos (by trivial) ?_
      rw [prs_drop hi, hb]
      simpa using ev_some _
    refine ev_step ?_
    simp only [impl_convex.l0]
    rw [em, rdl_L hi, rdl_L hm, impl_cross_eq ba bb, len_ofV, len_ofV, rd0, rd0, rd1, rd1, dot_wrap ba bb]
    simp only [Option.bind_some]
    refine ev_pos (by rw [lenL]; omega) (ev_pos (by omega) (ev_pos (by rw [lenL]; omega) (ev_neg (by rw [lenL]; omega) (ev_pos (by omega) (ev_pos (by rw [lenL]; omega) ?_)))))
    by_cases c1 : cr q[i] q[(i + 1) % q.length] < 0
    · exact ev_pos c1 (stop (by unfold bad; rw [decide_eq_true c1]; rfl))
    · refine ev_neg c1 ?_
      by_cases c2 : cr q[i] q[(i + 1) % q.length] = 0
      · refine ev_pos c2 (ev_pos (by decide) (ev_pos (by decide) (ev_pos (by decide) (ev_pos (by decide) ?_))))
        by_cases c3 : dot q[i] q[(i + 1) % q.length] < 0
        · rw [decide_eq_true c3]
          exact stop (by unfold bad; rw [decide_eq_true c2, decide_eq_true c3]; simp)
        · rw [decide_eq_false c3]
          exact cont (by unfold bad; rw [decide_eq_false c1, decide_eq_false c3]; simp)
      · exact ev_neg c2 (cont (by unfold bad; rw [decide_eq_false c1, decide_eq_false c2]; rfl))
theorem ev_shift {ρ : Type} {g : Nat → Option ρ} {r : ρ} (h : Ev g r) (c : Nat) : Ev (fun k => g (k + c)) r := by
  obtain ⟨N, hN⟩ := h
  exact ⟨N, fun k hk => hN (k + c) (by omega)⟩
theorem Ls_inj : ∀ {a b : List V}, L a = L b → a = b
  | [], [], _ => rfl
  | [], b :: t, h => by cases h
  | a :: s, [], h => by cases h
  | a :: s, b :: t, h => by
    have h' : ofV a :: L s = ofV b :: L t := h
    injection h' with h1 h2
    rw [Ls_inj h2]
    congr 1
    injection h1 with h3 h1
    injection h1 with h4 h1
    exact Prod.ext h3 h4
def ML (l : List Q) : List (List (List Int)) := l.map L
theorem ML_length (l : List Q) : (ML l).length = l.length := by simp [ML]
theorem ML_append (a b : List Q) : ML (a ++ b) = ML a ++ ML b := by simp [ML]
theorem mem_ML {r : Q} {l : List Q} : L r ∈ ML l ↔ r ∈ l := by
  unfold ML
  rw [List.mem_map]
  constructor
  · rintro ⟨x, hx, e⟩
    rw [← Ls_inj e]
    exact hx
  · exact fun h => ⟨r, h, rfl⟩
theorem impl_one_eq {q : Q} {base X : List Q} {i j : Nat} (h1 : i ≤ j) (h2 : j < q.length) (h8 : q.length ≤ 8) (hB : (base ++ X).length ≤ 120) :
    impl_OrderFewest.one (L q) (i : Int) (j : Int) (ML (base ++ X), ML X) = some (ML (base ++ ad base X (turned q i j)), ML (ad base X (turned q i j))) := by
  unfold impl_OrderFewest.one
  rw [impl_run_eq h1 h2 (by omega)]
  have hX : X.length ≤ 120 := by rw [List.length_append] at hB; omega
  have hs : ∀ x ∈ ML (base ++ X), ∀ y ∈ x, y.length < 4611686018427387904 := by
    intro x hx y hy
    obtain ⟨z, _, rfl⟩ := List.mem_map.1 hx
    obtain ⟨v, _, rfl⟩ := List.mem_map.1 hy
    exact (by decide : 2 < 4611686018427387904)
  show (if (ML (base ++ X)).length < 1000 ∧ (ML X).length < 1000 ∧ ∀ x ∈ ML (base ++ X), ∀ y ∈ x, y.length < 4611686018427387904 then some (if L (turned q i j) ∈ ML (base ++ X) then _ else _) else none) = _
  rw [if_pos ⟨by rw [ML_length]; omega, by rw [ML_length]; omega, hs⟩]
  unfold ad
  by_cases c : turned q i j ∈ base ++ X
  · rw [if_pos (mem_ML.2 c), if_pos c]
  · rw [if_neg (fun h => c (mem_ML.1 h)), if_neg c]
    simp only [ML, List.map_append, List.map_cons, List.map_nil, List.append_assoc]
theorem impl_toL_eq {q0 q : Q} (h5 : q0.length ≤ 5) (hq : q.Perm q0) {base : List Q} {i : Nat} : ∀ (r j : Nat) (X : List Q), i ≤ j → j + r ≤ q.length → Ok q0 (base ++ X) →
    impl_OrderFewest.toL (L q) (i : Int) r (j : Int) (ML (base ++ X), ML X) = some (ML (base ++ grow base X (rowR q i r j)), ML (grow base X (rowR q i r j)))
  | 0, j, X, _, _, _ => rfl
  | r + 1, j, X, h1, h2, hO => by
    have hl := hq.length_eq
    unfold impl_OrderFewest.toL
    rw [impl_one_eq h1 (by omega) (by omega) (hO.len h5), Option.bind_some, show (j : Int) + 1 = ((j + 1 : Nat) : Int) by omega]
    rw [impl_toL_eq h5 hq r (j + 1) _ (by omega) (by omega) (ad_ok hO ((turned_perm q h1).trans hq))]
    rfl
theorem impl_frL_eq {q0 q : Q} (h5 : q0.length ≤ 5) (hq : q.Perm q0) {base : List Q} : ∀ (r i : Nat) (X : List Q), i + r ≤ q.length → Ok q0 (base ++ X) →
    impl_OrderFewest.frL (L q) r (i : Int) (ML (base ++ X), ML X) = some (ML (base ++ grow base X (nxR q r i)), ML (grow base X (nxR q r i)))
  | 0, i, X, _, _ => rfl
  | r + 1, i, X, h2, hO => by
    unfold impl_OrderFewest.frL
    rw [show (i : Int) + 1 = ((i + 1 : Nat) : Int) by omega, impl_toL_eq h5 hq r (i + 1) X (by omega) (by omega) hO, Option.bind_some]
    rw [impl_frL_eq h5 hq r (i + 1) _ (by omega) (grow_ok _ _ hO (fun x hx => by
      obtain ⟨t, h3, _, rfl⟩ := mem_row hx
      exact (turned_perm q (by omega)).trans hq))]
    show _ = some (ML (base ++ grow base X (rowR q i r (i + 1) ++ nxR q r (i + 1))), ML (grow base X (rowR q i r (i + 1) ++ nxR q r (i + 1))))
    rw [grow_append]
theorem impl_nowL_ev {q0 : Q} (hP : Path q0) (h5 : q0.length ≤ 5) {dn rest X : List Q} {n : Nat} {R : Int × Bool} (h : Res dn rest X n R) : Inv q0 dn rest X n → ∀ c, Ev (fun k => (impl_OrderFewest.nowL (k + c) (ML rest) (ML (dn ++ rest ++ X), ML X)).bind fun o => match o with | none => some ((n : Int), true) | some s => impl_OrderFewest.lev (k + c) k s.2 s.1 ((n : Int) + 1)) R := by
  induction h with
  | @found dn q rest X n hc =>
    intro hI c
    have hq : Path q := path_perm hP (hI.ok.pm q (by simp))
    have e : ML (q :: rest) = L q :: ML rest := rfl
    simp only [e, impl_OrderFewest.nowL, Option.bind_assoc]
    refine Ev.bind (ev_shift (impl_convex_ev hq) c) ?_
    rw [hc]
    exact ev_some _
  | @step dn q rest X n R hc h ih =>
    intro hI c
    have hq0 := hI.ok.pm q (by simp)
    have hq : Path q := path_perm hP hq0
    have hl := hq0.length_eq
    have e : ML (q :: rest) = L q :: ML rest := rfl
    simp only [e, impl_OrderFewest.nowL, Option.bind_assoc]
    refine Ev.bind (ev_shift (impl_convex_ev hq) c) ?_
    rw [hc]
    simp only [Bool.false_eq_true, if_false]
    have h1 := impl_frL_eq h5 hq0 (base := dn ++ q :: rest) q.length 0 X (by omega) hI.ok
    rw [L_length]
    rw [show ((0 : Nat) : Int) = 0 from rfl] at h1
    simp only [h1, Option.bind_some]
    have h2 := ih hI.step c
    rw [show dn ++ [q] ++ rest = dn ++ q :: rest by simp] at h2
    exact h2
  | @turn dn x X n R h ih =>
    intro hI c
    have hn := hI.nlt h5
    have e0 : ∀ k s, impl_OrderFewest.nowL k (ML []) s = some (some s) := fun _ _ => rfl
    simp only [e0, Option.bind_some]
    refine ev_step ?_
    simp only [impl_OrderFewest.lev]
    refine ev_neg (by rw [ML_length]; simp) (ev_pos (by omega) ?_)
    have h2 := ih hI.turn (c + 1)
    rw [List.append_nil] at h2 ⊢
    refine Ev.congr (fun k => ?_) h2
    rw [show k + (c + 1) = k + 1 + c by omega, show ((n + 1 : Nat) : Int) = (n : Int) + 1 by omega]
    rfl
  | @stop dn n =>
    intro hI c
    have e0 : ∀ k s, impl_OrderFewest.nowL k (ML []) s = some (some s) := fun _ _ => rfl
    simp only [e0, Option.bind_some]
    refine ev_step ?_
    simp only [impl_OrderFewest.lev]
    exact ev_pos rfl (ev_some _)
theorem impl_OrderFewest_ev {q : Q} (hP : Path q) (h5 : q.length ≤ 5) {R : Int × Bool} (h : Res [] [q] [] 0 R) : Ev (fun k => impl_OrderFewest.f k (L q)) R := by
  unfold impl_OrderFewest.f
  refine Ev.bind (impl_PathIn_ev _ (by rw [L_length]; omega)) ?_
  rw [pathB_L hP]
  refine ev_pos rfl (ev_neg (by rw [lenL]; omega) (ev_step ?_))
  simp only [impl_OrderFewest.lev]
  refine ev_neg (by simp) (ev_pos (by omega) ?_)
  exact impl_nowL_ev hP h5 h (Inv.start q) 1
theorem impl_OrderFewest_no {p : List (List Int)} (hl : p.length ≤ 1048576) (h : ¬ (pathB p = true ∧ p.length ≤ 5)) : Ev (fun k => impl_OrderFewest.f k p) (0, false) := by
  unfold impl_OrderFewest.f
  refine Ev.bind (impl_PathIn_ev _ hl) ?_
  by_cases c : pathB p = true
  · have c5 : ¬ p.length ≤ 5 := fun e => h ⟨c, e⟩
    exact ev_pos c (ev_pos (by omega) (ev_some _))
  · exact ev_neg c (ev_some _)

theorem spec_cross_eq {a b : V} (ha : b9 a) (hb : b9 b) : spec_l6sCross.f (ofV a) (ofV b) = some (cr a b) := by
  unfold spec_l6sCross.f
  rw [len_ofV, len_ofV, if_pos (by decide), if_pos (by decide), if_pos (by decide), if_pos (by decide), rd0, rd0, rd1, rd1]
  simp only [w_sub_l, w_sub_r]
  have := cr_bound ha hb
  unfold cr at this ⊢
  rw [w64 (by omega)]
theorem spec_half_eq (a : V) : spec_l6sHalf.f (ofV a) = some (half a) := by
  unfold spec_l6sHalf.f half
  rw [len_ofV, rd0, rd1, if_pos (by decide)]
  by_cases c : a.2 > 0
  · rw [if_pos c, if_pos c]
  · rw [if_neg c, if_neg c]
    by_cases d : a.2 = 0
    · rw [if_pos d, if_pos (by decide)]
      by_cases e : a.1 > 0
      · rw [if_pos e, if_pos ⟨d, e⟩]
      · rw [if_neg e, if_neg (fun h => e h.2)]
    · rw [if_neg d, if_neg (fun h => d h.1)]
theorem spec_before_eq {a b : V} (ha : b9 a) (hb : b9 b) : spec_l6sBefore.f (ofV a) (ofV b) = some (before a b) := by
  unfold spec_l6sBefore.f before
  rw [spec_half_eq, spec_half_eq, spec_cross_eq ha hb]
  simp only [Option.bind_some]
  by_cases c : half a = half b
  · rw [if_pos c, if_pos c]
  · rw [if_neg c, if_neg c]

theorem spec_l6In_eq' (a b c : Int) : spec_l6In.f a b c = some (decide (b ≤ a ∧ a ≤ c)) := by
  unfold spec_l6In.f
  by_cases h : a ≥ b
  · rw [if_pos h]; simp; intro _; exact h
  · rw [if_neg h]; simp; omega
theorem spec_l6sStep_eq (s : List Int) : spec_l6sStep.f s = some (stepB s) := by
  match s with
  | [] => rfl
  | [_] => rfl
  | [x, y] =>
    unfold spec_l6sStep.f
    have h0 : rd [x, y] 0 = x := rfl
    have h1 : rd [x, y] 1 = y := rfl
    have hl : ([x, y].length : Int) = 2 := rfl
    rw [h0, h1, hl, if_pos rfl, if_pos (by decide), spec_l6In_eq', spec_l6In_eq']
    simp only [Option.bind_some]
    rw [stepB_two]
    by_cases b : -9 ≤ x ∧ x ≤ 9
    · rw [if_pos (by simpa using b), if_pos (by decide)]
      by_cases d : -9 ≤ y ∧ y ≤ 9
      · rw [if_pos (by simpa using d)]
        by_cases e : x = 0
        · rw [if_pos e]
          by_cases f : y = 0
          · subst e f; rfl
          · have : (y != 0) = true := by simpa using f
            rw [this, decide_eq_true (by omega)]
        · rw [if_neg e, decide_eq_true (by omega)]
      · rw [if_neg (by simpa using d), decide_eq_false (by omega)]
    · rw [if_neg (by simpa using b), decide_eq_false (by omega)]
  | a :: b :: c :: t =>
    unfold spec_l6sStep.f
    rw [if_neg (by simp; omega)]; rfl

theorem spec_l6sSum_ev (p : List (List Int)) (h : p.length ≤ 1048576) (ha : p.all stepB = true) : Ev (fun k => spec_l6sSum.f k p) (gx p, gy p) := by
  unfold spec_l6sSum.f
  have key := ev_count (fun k i => spec_l6sSum.l0 k p (gx (p.take i)) (gy (p.take i)) (i : Int)) (fun _ => (gx p, gy p)) p.length ?_ ?_ 0 (by omega)
  · exact key
  · refine ev_step ?_
    simp only [spec_l6sSum.l0]
    refine ev_neg (by omega) ?_
    rw [List.take_length]
    exact ev_some _
  · intro i hi ih
    refine ev_step ?_
    simp only [spec_l6sSum.l0]
    refine ev_pos (by omega) (ev_pos (by omega) ?_)
    rw [rdl_get hi]
    have hs : stepB p[i] = true := List.all_eq_true.1 ha _ (List.getElem_mem _)
    have ha' : (p.take (i + 1)).all stepB = true := List.all_eq_true.2 (fun s hs => List.all_eq_true.1 ha s (List.mem_of_mem_take hs))
    have hb := g_bound ha'
    rw [gx_take hi, gy_take hi] at ih hb
    obtain ⟨v, hv, hsv⟩ := stepB_of _ hs
    rw [hv] at ih hb ⊢
    refine ev_pos (by rw [len_ofV]; decide) (ev_pos (by rw [len_ofV]; decide) ?_)
    have hlen : ((p.take (i + 1)).length : Int) ≤ 1048576 := by simp; omega
    rw [w64_succ (by omega), rd0, rd1]
    have e0 : (ofV v).getD 0 0 = v.1 := rfl
    have e1 : (ofV v).getD 1 0 = v.2 := rfl
    rw [e0, e1] at ih hb
    rw [w64 (by omega), w64 (by omega)]
    exact ih
theorem spec_PathIn_ev (p : List (List Int)) (h : p.length ≤ 1048576) : Ev (fun k => spec_PathIn.f k p) (pathB p) := by
  unfold spec_PathIn.f
  have key := down (fun i => (p.take i).all stepB = true → Ev (fun k => spec_PathIn.l0 k p (i : Int)) (decide (3 ≤ p.length) && decide (p.length ≤ 8) && (p.drop i).all stepB && decide (gx p = 0) && decide (gy p = 0))) p.length ?_ ?_ 0 (by omega)
  · exact key rfl
  · intro ha
    rw [List.take_length] at ha
    refine ev_step ?_
    simp only [spec_PathIn.l0]
    refine ev_neg (by omega) (Ev.bind (spec_l6sSum_ev p h ha) ?_)
    rw [spec_l6In_eq', List.drop_length]
    simp only [Option.bind_some]
    by_cases c : (3 : Int) ≤ p.length ∧ (p.length : Int) ≤ 8
    · refine ev_pos (by simpa using c) ?_
      rw [decide_eq_true (by omega), decide_eq_true (by omega)]
      by_cases c : gx p = 0
      · refine ev_pos c ?_
        rw [c]
        have : (gy p == 0) = decide (gy p = 0) := rfl
        rw [this]
        simpa using ev_some _
      · refine ev_neg c ?_
        rw [decide_eq_false c]
        simpa using ev_some _
    · refine ev_neg (by simpa using c) ?_
      have : (decide (3 ≤ p.length) && decide (p.length ≤ 8)) = false := by
        rw [Bool.and_eq_false_iff]; simp; omega
      rw [this]
      simpa using ev_some _
  · intro i hi ih ha
    refine ev_step ?_
    simp only [spec_PathIn.l0]
    refine ev_pos (by omega) (ev_pos (by omega) ?_)
    rw [rdl_get hi, spec_l6sStep_eq, drop_cons hi, List.all_cons]
    simp only [Option.bind_some]
    by_cases hs : stepB p[i] = true
    · refine ev_pos hs ?_
      rw [w64_succ (by omega), hs, Bool.true_and]
      exact ih (all_take hi ha hs)
    · refine ev_neg hs ?_
      rw [Bool.eq_false_iff.2 hs]
      simpa using ev_some _

theorem back_step {q : List V} {j : Nat} (h : j < q.length) : L (((q.drop (j + 1)).map neg).reverse) ++ [[-q[j].1, -q[j].2]] = L (((q.drop j).map neg).reverse) := by
  rw [drop_cons h, List.map_cons, List.reverse_cons, ← L_snoc]; rfl

theorem turned_take {q : List V} {i j m : Nat} (h1 : i ≤ j) (h2 : j < q.length) (hm : m < q.length) (t : Nat) (ht : t < q.length) (e : t = if i ≤ m ∧ m ≤ j then i + j - m else m) :
    L ((turned q i j).take m) ++ [[q[t].1, q[t].2]] = L ((turned q i j).take (m + 1)) := by
  have hl : m < (turned q i j).length := by rw [turned_length h1 h2]; exact hm
  have hg := turned_get h1 h2 m
  rw [List.getElem?_eq_getElem hl] at hg
  have e2 : (turned q i j)[m] = q[t] := by
    by_cases c : i ≤ m ∧ m ≤ j
    · rw [if_pos c] at hg e
      subst e
      rw [List.getElem?_eq_getElem ht] at hg
      exact Option.some.inj hg
    · rw [if_neg c] at hg e
      subst e
      rw [List.getElem?_eq_getElem ht] at hg
      exact Option.some.inj hg
  rw [List.take_succ_eq_append_getElem hl, ← L_snoc, e2]; rfl
theorem spec_l7Run_ev {q : List V} {i j : Nat} (h1 : i ≤ j) (h2 : j < q.length) (h3 : q.length ≤ 1048576) : Ev (fun k => spec_l7Run.f k (L q) (i : Int) (j : Int)) (L (turned q i j)) := by
  unfold spec_l7Run.f
  have key := ev_count (fun k m => spec_l7Run.l0 k (L q) (i : Int) (j : Int) (L ((turned q i j).take m)) (m : Int)) (fun _ => L (turned q i j)) q.length ?_ ?_ 0 (by omega)
  · exact key
  · refine ev_step ?_
    simp only [spec_l7Run.l0]
    refine ev_neg (by rw [lenL]; omega) ?_
    rw [List.take_of_length_le (by rw [turned_length h1 h2]; omega)]
    exact ev_some _
  · intro m hm ih
    have ew : wrap64 (wrap64 ((i : Int) + (j : Int)) - (m : Int)) = (i : Int) + j - m := by rw [w64 (x := (i : Int) + j) (by omega), w64 (by omega)]
    refine ev_step ?_
    simp only [spec_l7Run.l0]
    rw [ew]
    refine ev_pos (by rw [lenL]; omega) (ev_pos (by omega) ?_)
    by_cases c : i ≤ m ∧ m ≤ j
    · have ht : i + j - m < q.length := by omega
      rw [show (i : Int) + j - m = ((i + j - m : Nat) : Int) from by omega, rdl_L ht, len_ofV, rd0, rd1, w64_succ (by omega), turned_take h1 h2 hm (i + j - m) ht (by rw [if_pos c])]
      exact ev_pos (by omega) (ev_pos (by omega) (ev_pos (by omega) (ev_pos (by rw [lenL]; omega) (ev_pos (by decide) (ev_pos (by decide) (ev_pos (by simp [L]; omega) ih))))))
    · have key2 : Ev (fun k => (if 0 < ((rd_L1 (L q) (m : Int)).length : Int) then (if 1 < ((rd_L1 (L q) (m : Int)).length : Int) then (if (L ((turned q i j).take m)).length < 5864062014805 then (spec_l7Run.l0 k (L q) (i : Int) (j : Int) (L ((turned q i j).take m) ++ [[rd (rd_L1 (L q) (m : Int)) 0, rd (rd_L1 (L q) (m : Int)) 1]]) (wrap64 ((m : Int) + 1))) else none) else none) else none)) (L (turned q i j)) := by
        rw [rdl_L hm, len_ofV, rd0, rd1, w64_succ (by omega), turned_take h1 h2 hm m hm (by rw [if_neg c])]
        exact ev_pos (by decide) (ev_pos (by decide) (ev_pos (by simp [L]; omega) ih))
      by_cases d : i ≤ m
      · exact ev_pos (by omega) (ev_neg (by omega) key2)
      · exact ev_neg (by omega) key2

theorem spec_convex_ev {q : List V} (h : Path q) : Ev (fun k => spec_l6sConvex.f k (L q)) (cvx q) := by
  unfold spec_l6sConvex.f cvx
  have hq := h.hi
  have h3 := h.lo
  have key := ev_count (fun k i => spec_l6sConvex.l0 k (L q) ((((prs q).take i).countP dsc : Nat) : Int) (i : Int)) (fun i => ((prs q).drop i).all good && decide ((prs q).countP dsc = 1)) q.length ?_ ?_ 0 (by omega)
  · exact key
  · refine ev_step ?_
    simp only [spec_l6sConvex.l0]
    refine ev_neg (by rw [lenL]; omega) ?_
    rw [List.take_of_length_le (by rw [prs_length]; omega), List.drop_of_length_le (by rw [prs_length]; omega)]
    have e : ((((prs q).countP dsc : Nat) : Int) == 1) = decide ((prs q).countP dsc = 1) := by
      rw [Bool.eq_iff_iff]; simp; omega
    rw [e]
    simpa using ev_some _
  · intro i hi ih
    have hm : (i + 1) % q.length < q.length := Nat.mod_lt _ (by omega)
    have em : Int.tmod (wrap64 ((i : Int) + 1)) ((L q).length : Int) = (((i + 1) % q.length : Nat) : Int) := by
      rw [w64_succ (by omega), lenL, ← Int.ofNat_tmod]
    have ba := b9_of h q[i] (List.getElem_mem _)
    have bb := b9_of h q[(i + 1) % q.length] (List.getElem_mem _)
    have hc := cnt_le q i
    have hct := cnt_take hi
    have cont : bad q[i] q[(i + 1) % q.length] = false → Ev (fun k => spec_l6sConvex.j1 k (L q) ((((prs q).take i).countP dsc : Nat) : Int) (i : Int) (ofV q[i]) (ofV q[(i + 1) % q.length]) false) (((prs q).drop i).all good && decide ((prs q).countP dsc = 1)) := by
      intro hb
      refine ev_step ?_
      simp only [spec_l6sConvex.j1]
      refine ev_neg (by simp) ?_
      rw [spec_before_eq bb ba, prs_drop hi, hb, w64_succ (i := i) (by omega)]
      simp only [Option.bind_some, Bool.not_false, Bool.true_and]
      by_cases hz : desc q[i] q[(i + 1) % q.length] = true
      · refine ev_pos hz ?_
        rw [if_pos hz] at hct
        rw [w64_succ (i := ((prs q).take i).countP dsc) (by omega)]
        rw [hct] at ih
        exact ih
      · refine ev_neg hz ?_
        rw [if_neg hz, Nat.add_zero] at hct
        rw [hct] at ih
        exact ih
    have stop : bad q[i] q[(i + 1) % q.length] = true → Ev (fun k => spec_l6sConvex.j1 k (L q) ((((prs q).take i).countP dsc : Nat) : Int) (i : Int) (ofV q[i]) (ofV q[(i + 1) % q.length]) true) (((prs q).drop i).all good && decide ((prs q).countP dsc = 1)) := by
      intro hb
      refine ev_step ?_
      simp only [spec_l6sConvex.j1]
      refine ev_pos (by trivial) ?_
      rw [prs_drop hi, hb]
      simpa using ev_some _
    refine ev_step ?_
    simp only [spec_l6sConvex.l0]
    rw [em, rdl_L hi, rdl_L hm, spec_cross_eq ba bb, len_ofV, len_ofV, rd0, rd0, rd1, rd1, dot_wrap ba bb]
    simp only [Option.bind_some]
    refine ev_pos (by rw [lenL]; omega) (ev_pos (by omega) (ev_neg (by rw [lenL]; omega) (ev_pos (by omega) (ev_pos (by rw [lenL]; omega) ?_))))
    by_cases c1 : cr q[i] q[(i + 1) % q.length] < 0
    · exact ev_pos c1 (stop (by unfold bad; rw [decide_eq_true c1]; rfl))
    · refine ev_neg c1 ?_
      by_cases c2 : cr q[i] q[(i + 1) % q.length] = 0
      · refine ev_pos c2 (ev_pos (by decide) (ev_pos (by decide) (ev_pos (by decide) (ev_pos (by decide) ?_))))
        by_cases c3 : dot q[i] q[(i + 1) % q.length] < 0
        · rw [decide_eq_true c3]
          exact stop (by unfold bad; rw [decide_eq_true c2, decide_eq_true c3]; simp)
        · rw [decide_eq_false c3]
          exact cont (by unfold bad; rw [decide_eq_false c1, decide_eq_false c3]; simp)
      · exact ev_neg c2 (cont (by unfold bad; rw [decide_eq_false c1, decide_eq_false c2]; rfl))

theorem spec_l7Equal_ev {x y : Q} (h : x.length = y.length) (h8 : x.length ≤ 1048576) : Ev (fun k => spec_l7Equal.f k (L x) (L y)) (decide (x = y)) := by
  unfold spec_l7Equal.f
  have key := down (fun i => x.take i = y.take i → Ev (fun k => spec_l7Equal.l0 k (L x) (L y) (i : Int)) (decide (x = y))) x.length ?_ ?_ 0 (by omega)
  · exact key rfl
  · intro ht
    rw [List.take_length, h, List.take_length] at ht
    rw [decide_eq_true ht]
    refine ev_step ?_
    simp only [spec_l7Equal.l0]
    rw [lenL, lenL, h]
    refine ev_neg (by omega) ?_
    simpa using ev_some _
  · intro i hi ih ht
    have hi2 : i < y.length := by omega
    refine ev_step ?_
    simp only [spec_l7Equal.l0]
    rw [rdl_L hi, rdl_L hi2, len_ofV, len_ofV, rd0, rd0, rd1, rd1, lenL, lenL, w64_succ (by omega)]
    refine ev_pos (by omega) (ev_pos (by omega) (ev_pos (by decide) (ev_pos (by omega) (ev_pos (by decide) ?_))))
    by_cases c1 : x[i].1 = y[i].1
    · refine ev_pos c1 (ev_pos (by decide) (ev_pos (by decide) ?_))
      by_cases c2 : x[i].2 = y[i].2
      · refine ev_pos c2 (ih ?_)
        rw [List.take_succ_eq_append_getElem hi, List.take_succ_eq_append_getElem hi2, ht, show x[i] = y[i] from Prod.ext c1 c2]
      · refine ev_neg c2 ?_
        rw [decide_eq_false (fun e => c2 (by subst e; rfl))]
        exact ev_some _
    · refine ev_neg c1 ?_
      rw [decide_eq_false (fun e => c1 (by subst e; rfl))]
      exact ev_some _
theorem rd2_ML {S : List Q} {d : Nat} (h : d < S.length) : rd_L2 (ML S) (d : Int) = L S[d] := by
  unfold rd_L2 ML
  rw [Int.toNat_natCast, List.getD_eq_getElem?_getD, List.getElem?_map, List.getElem?_eq_getElem h]
  rfl
theorem lenM (l : List Q) : ((ML l).length : Int) = (l.length : Int) := by rw [ML_length]
def fars (fb : List Int) (n : Nat) (X : List Q) : List Int := fb ++ List.replicate X.length ((n : Int) + 1)
theorem spec_l3_ev {p r : Q} {base X : List Q} {fb : List Int} {d i j n : Nat} {R : Int × Bool} (hS : ∀ x ∈ base ++ X, x.length = r.length) (hr : r.length ≤ 8) (hl : (base ++ X).length ≤ 120) (hfb : fb.length = base.length) (hd : d < fb.length) (hn : fb[d]? = some (n : Int)) (hn2 : n ≤ 120) (hj : j ≤ 8)
    (cont : Ev (fun k => spec_OrderFewest.l2 k (L p) (ML (base ++ ad base X r)) (fars fb n (ad base X r)) (d : Int) (i : Int) ((j + 1 : Nat) : Int)) R) :
    ∀ t, t ≤ (base ++ X).length → ∀ b : Bool, (b = true → r ∈ base ++ X) → (r ∈ base ++ X → b = true ∨ r ∈ (base ++ X).drop t) → Ev (fun k => spec_OrderFewest.l3 k (L p) (ML (base ++ X)) (fars fb n X) (d : Int) (i : Int) (j : Int) (L r) b (t : Int)) R := by
  refine down (fun t => ∀ b : Bool, (b = true → r ∈ base ++ X) → (r ∈ base ++ X → b = true ∨ r ∈ (base ++ X).drop t) → Ev (fun k => spec_OrderFewest.l3 k (L p) (ML (base ++ X)) (fars fb n X) (d : Int) (i : Int) (j : Int) (L r) b (t : Int)) R) (base ++ X).length ?_ ?_
  · intro b h1 h2
    have hfl : (fars fb n X).length = (base ++ X).length := by unfold fars; simp [hfb]
    refine ev_step ?_
    simp only [spec_OrderFewest.l3]
    refine ev_neg (by rw [lenM]; omega) ?_
    rw [w64_succ (i := j) (by omega)]
    cases b with
    | true =>
      have e : ad base X r = X := by unfold ad; rw [if_pos (h1 rfl)]
      rw [e] at cont
      exact ev_pos rfl cont
    | false =>
      have hnot : r ∉ base ++ X := fun h => by
        rcases h2 h with h3 | h3
        · cases h3
        · rw [List.drop_length] at h3; cases h3
      have e : ad base X r = X ++ [r] := by unfold ad; rw [if_neg hnot]
      rw [e] at cont
      have e1 : rd (fars fb n X) (d : Int) = (n : Int) := by
        rw [rd_nat, List.getD_eq_getElem?_getD]
        unfold fars
        rw [List.getElem?_append_left hd, hn]
        rfl
      have e2 : fars fb n (X ++ [r]) = fars fb n X ++ [(n : Int) + 1] := by
        unfold fars
        rw [List.length_append, List.length_singleton, List.replicate_succ', List.append_assoc]
      have e3 : ML (base ++ (X ++ [r])) = ML (base ++ X) ++ [L r] := by simp [ML]
      rw [e2, e3] at cont
      rw [e1, w64 (x := (n : Int) + 1) (by omega), hfl]
      have hb : base.length ≤ (base ++ X).length := by rw [List.length_append]; omega
      exact ev_neg (by decide) (ev_pos (by rw [ML_length]; omega) (ev_pos (by omega) (ev_pos (by omega) (ev_pos (by omega) cont))))
  · intro t ht ih b h1 h2
    refine ev_step ?_
    simp only [spec_OrderFewest.l3]
    rw [w64_succ (i := t) (by omega)]
    refine ev_pos (by rw [lenM]; omega) ?_
    cases b with
    | true => exact ev_pos rfl (ih true h1 (fun _ => .inl rfl))
    | false =>
      refine ev_neg (by decide) (ev_pos (by omega) ?_)
      rw [rd2_ML ht]
      have hx := hS _ (List.getElem_mem ht)
      refine Ev.bind (spec_l7Equal_ev hx (by omega)) (ih _ (fun h => ?_) (fun h => ?_))
      · rw [← of_decide_eq_true h]
        exact List.getElem_mem ht
      · rcases h2 h with h3 | h3
        · cases h3
        · rw [List.drop_eq_getElem_cons ht] at h3
          rcases List.mem_cons.1 h3 with h3 | h3
          · exact .inl (decide_eq_true h3.symm)
          · exact .inr h3
theorem spec_l2_ev {q0 q : Q} (h5 : q0.length ≤ 5) (hq : q.Perm q0) {base : List Q} {fb : List Int} {d i n : Nat} {R : Int × Bool} (hfb : fb.length = base.length) (hd : d < fb.length) (hn : fb[d]? = some (n : Int)) (hn2 : n ≤ 120) (hbq : base[d]? = some q) :
    ∀ (r j : Nat) (X : List Q), i ≤ j → j + r = q.length → Ok q0 (base ++ X) → Ev (fun k => spec_OrderFewest.l1 k (L q0) (ML (base ++ grow base X (rowR q i r j))) (fars fb n (grow base X (rowR q i r j))) (d : Int) ((i + 1 : Nat) : Int)) R → Ev (fun k => spec_OrderFewest.l2 k (L q0) (ML (base ++ X)) (fars fb n X) (d : Int) (i : Int) (j : Int)) R
  | 0, j, X, h1, h2, hO, cont => by
    have hl := hq.length_eq
    refine ev_step ?_
    simp only [spec_OrderFewest.l2]
    rw [w64_succ (i := i) (by omega)]
    exact ev_neg (by rw [lenL]; omega) cont
  | r + 1, j, X, h1, h2, hO, cont => by
    have hl := hq.length_eq
    have hdb : d < (base ++ X).length := by rw [List.length_append]; omega
    have hqd : (base ++ X)[d] = q := by
      have : (base ++ X)[d]? = some q := by rw [List.getElem?_append_left (by omega), hbq]
      rw [List.getElem?_eq_getElem hdb] at this
      exact Option.some.inj this
    refine ev_step ?_
    simp only [spec_OrderFewest.l2]
    rw [rd2_ML hdb, hqd]
    refine ev_pos (by rw [lenL]; omega) (ev_pos (by omega) (ev_pos (by rw [lenM]; omega) (Ev.bind (spec_l7Run_ev h1 (by omega) (by omega)) ?_)))
    have hp := (turned_perm q h1).trans hq
    refine spec_l3_ev (fun x hx => ((hO.pm x hx).trans hp.symm).length_eq) (by rw [hp.length_eq]; omega) (hO.len h5) hfb hd hn hn2 (by omega) ?_ 0 (Nat.zero_le _) false (fun e => by cases e) (fun h => .inr h)
    exact spec_l2_ev h5 hq hfb hd hn hn2 hbq r (j + 1) _ (by omega) (by omega) (ad_ok hO hp) cont
theorem spec_l1_ev {q0 q : Q} (h5 : q0.length ≤ 5) (hq : q.Perm q0) {base : List Q} {fb : List Int} {d n : Nat} {R : Int × Bool} (hfb : fb.length = base.length) (hd : d < fb.length) (hd2 : d ≤ 120) (hn : fb[d]? = some (n : Int)) (hn2 : n ≤ 120) (hbq : base[d]? = some q) :
    ∀ (r i : Nat) (X : List Q), i + r = q.length → Ok q0 (base ++ X) → Ev (fun k => spec_OrderFewest.l0 k (L q0) (ML (base ++ grow base X (nxR q r i))) (fars fb n (grow base X (nxR q r i))) ((d + 1 : Nat) : Int)) R → Ev (fun k => spec_OrderFewest.l1 k (L q0) (ML (base ++ X)) (fars fb n X) (d : Int) (i : Int)) R
  | 0, i, X, h2, hO, cont => by
    have hl := hq.length_eq
    refine ev_step ?_
    simp only [spec_OrderFewest.l1]
    rw [w64_succ (i := d) (by omega)]
    exact ev_neg (by rw [lenL]; omega) cont
  | r + 1, i, X, h2, hO, cont => by
    have hl := hq.length_eq
    refine ev_step ?_
    simp only [spec_OrderFewest.l1]
    rw [w64_succ (i := i) (by omega)]
    refine ev_pos (by rw [lenL]; omega) ?_
    refine spec_l2_ev h5 hq hfb hd hn hn2 hbq r (i + 1) X (by omega) (by omega) hO ?_
    refine spec_l1_ev h5 hq hfb hd hd2 hn hn2 hbq r (i + 1) _ (by omega) (grow_ok _ _ hO (fun x hx => by
      obtain ⟨t, h3, _, rfl⟩ := mem_row hx
      exact (turned_perm q (by omega)).trans hq)) ?_
    have e : nxR q (r + 1) i = rowR q i r (i + 1) ++ nxR q r (i + 1) := rfl
    rw [e, grow_append] at cont
    exact cont
theorem spec_l0_ev {q0 : Q} (hP : Path q0) (h5 : q0.length ≤ 5) {dn rest X : List Q} {n : Nat} {R : Int × Bool} (h : Res dn rest X n R) : Inv q0 dn rest X n → ∀ fd : List Int, fd.length = dn.length → Ev (fun k => spec_OrderFewest.l0 k (L q0) (ML (dn ++ rest ++ X)) (fars (fd ++ List.replicate rest.length (n : Int)) n X) (dn.length : Int)) R := by
  induction h with
  | @found dn q rest X n hc =>
    intro hI fd hfd
    have hq : Path q := path_perm hP (hI.ok.pm q (by simp))
    have hd : dn.length < (dn ++ q :: rest ++ X).length := by simp
    have e : (dn ++ q :: rest ++ X)[dn.length] = q := by simp
    have e2 : rd (fars (fd ++ List.replicate (q :: rest).length (n : Int)) n X) (dn.length : Int) = (n : Int) := by
      rw [rd_nat, ← hfd, List.getD_eq_getElem?_getD]
      unfold fars
      rw [List.append_assoc, List.getElem?_append_right (Nat.le_refl _), Nat.sub_self, List.length_cons, List.replicate_succ]
      rfl
    refine ev_step ?_
    simp only [spec_OrderFewest.l0]
    rw [rd2_ML hd, e, e2]
    refine ev_pos (by rw [lenM]; omega) (ev_pos (by omega) (Ev.bind (spec_convex_ev hq) ?_))
    rw [hc]
    refine ev_pos rfl (ev_pos ?_ (ev_some _))
    unfold fars
    simp [hfd]
    omega
  | @step dn q rest X n R hc h ih =>
    intro hI fd hfd
    have hq0 := hI.ok.pm q (by simp)
    have hq : Path q := path_perm hP hq0
    have hl := hI.len h5
    rw [List.length_cons] at hl
    have hd : dn.length < (dn ++ q :: rest ++ X).length := by simp
    have e : (dn ++ q :: rest ++ X)[dn.length] = q := by simp
    refine ev_step ?_
    simp only [spec_OrderFewest.l0]
    rw [rd2_ML hd, e]
    refine ev_pos (by rw [lenM]; omega) (ev_pos (by omega) (Ev.bind (spec_convex_ev hq) ?_))
    rw [hc]
    refine ev_neg (by decide) ?_
    have h2 := ih hI.step (fd ++ [(n : Int)]) (by simp [hfd])
    rw [show dn ++ [q] ++ rest = dn ++ q :: rest by simp, show fd ++ [(n : Int)] ++ List.replicate rest.length (n : Int) = fd ++ List.replicate (q :: rest).length (n : Int) by rw [List.append_assoc, List.length_cons, List.replicate_succ]; rfl, show (dn ++ [q]).length = dn.length + 1 by simp] at h2
    refine spec_l1_ev h5 hq0 (by simp [hfd]) (by simp [hfd]) (by omega) ?_ (hI.nlt h5) (by simp) q.length 0 X (by omega) hI.ok h2
    rw [← hfd, List.getElem?_append_right (Nat.le_refl _)]
    simp
  | @turn dn x X n R h ih =>
    intro hI fd hfd
    have h2 := ih hI.turn fd hfd
    rw [show dn ++ (x :: X) ++ [] = dn ++ [] ++ (x :: X) by simp, show fars (fd ++ List.replicate (x :: X).length ((n + 1 : Nat) : Int)) (n + 1) [] = fars (fd ++ List.replicate ([] : List Q).length (n : Int)) n (x :: X) by
      unfold fars
      rw [List.length_nil, List.replicate_zero, List.replicate_zero, List.append_nil, List.append_nil]
      rfl] at h2
    exact h2
  | @stop dn n =>
    intro hI fd hfd
    refine ev_step ?_
    simp only [spec_OrderFewest.l0]
    exact ev_neg (by rw [lenM]; simp) (ev_some _)
theorem spec_OrderFewest_ev {q : Q} (hP : Path q) (h5 : q.length ≤ 5) {R : Int × Bool} (h : Res [] [q] [] 0 R) : Ev (fun k => spec_OrderFewest.f k (L q)) R := by
  unfold spec_OrderFewest.f
  refine Ev.bind (spec_PathIn_ev _ (by rw [L_length]; omega)) ?_
  rw [pathB_L hP]
  refine ev_pos rfl (ev_step ?_)
  simp only [spec_OrderFewest.j0]
  exact ev_neg (by rw [lenL]; simp; omega) (spec_l0_ev hP h5 h (Inv.start q) [] rfl)
theorem spec_OrderFewest_no {p : List (List Int)} (hl : p.length ≤ 1048576) (h : ¬ (pathB p = true ∧ p.length ≤ 5)) : Ev (fun k => spec_OrderFewest.f k p) (0, false) := by
  unfold spec_OrderFewest.f
  refine Ev.bind (spec_PathIn_ev _ hl) ?_
  by_cases c : pathB p = true
  · have c5 : ¬ p.length ≤ 5 := fun e => h ⟨c, e⟩
    refine ev_pos c (ev_step ?_)
    simp only [spec_OrderFewest.j0]
    exact ev_pos (by simp; omega) (ev_some _)
  · refine ev_neg c (ev_step ?_)
    simp only [spec_OrderFewest.j0]
    exact ev_pos (by trivial) (ev_some _)

/-- The size's test: where it leaves something, there are no more rows than the bound, and no row is longer. -/
theorem szIntSS_ev (p : List (List Int)) (n : Nat) (hn : n ≤ 1048576) (hp : p.length ≤ 9223372036854775807) (hs : ∀ s ∈ p, s.length ≤ 9223372036854775807) :
    ∃ r : Int, Ev (fun k => laws_szIntSS.f k p (n : Int)) r ∧ (r < 0 ∨ (0 ≤ r ∧ r ≤ n ∧ p.length ≤ n ∧ ∀ s ∈ p, s.length ≤ n)) := by
  unfold laws_szIntSS.f
  rw [w64 (x := (n : Int) - (p.length : Int)) (by omega)]
  by_cases c : (n : Int) - (p.length : Int) < 0
  · exact ⟨-1, ev_pos c (ev_some _), Or.inl (by decide)⟩
  · have hpn : p.length ≤ n := by omega
    have key := down (fun i => ∀ m : Nat, m ≤ n → (∀ s ∈ p.take i, s.length ≤ n) → ∃ r : Int, Ev (fun k => laws_szIntSS.l0 k p (m : Int) (i : Int)) r ∧ (r < 0 ∨ (0 ≤ r ∧ r ≤ n ∧ p.length ≤ n ∧ ∀ s ∈ p, s.length ≤ n))) p.length ?_ ?_ 0 (by omega)
    · obtain ⟨r, hr, hr2⟩ := key (n - p.length) (by omega) (fun s hs => by cases hs)
      refine ⟨r, ev_neg c ?_, hr2⟩
      rw [show ((n - p.length : Nat) : Int) = (n : Int) - (p.length : Int) from by omega] at hr
      exact hr
    · intro m hm h
      rw [List.take_length] at h
      refine ⟨m, ev_step ?_, Or.inr ⟨by omega, by omega, hpn, h⟩⟩
      simp only [laws_szIntSS.l0]
      exact ev_neg (by omega) (ev_some _)
    · intro i hi ih m hm h
      have hl := hs p[i] (List.getElem_mem _)
      have es : laws_szIntS.f p[i] (m : Int) = some (if (m : Int) - (p[i].length : Int) < 0 then -1 else (m : Int) - (p[i].length : Int)) := by
        unfold laws_szIntS.f
        rw [w64 (by omega)]
        split <;> rfl
      by_cases d : (m : Int) - (p[i].length : Int) < 0
      · refine ⟨-1, ev_step ?_, Or.inl (by decide)⟩
        simp only [laws_szIntSS.l0]
        refine ev_pos (by omega) (ev_pos (by omega) ?_)
        rw [rdl_get hi, es, if_pos d]
        simp only [Option.bind_some]
        exact ev_pos (by decide) (ev_some _)
      · obtain ⟨r, hr, hr2⟩ := ih (m - p[i].length) (by omega) (by
          intro s hs2
          rw [List.take_succ_eq_append_getElem hi] at hs2
          rcases List.mem_append.1 hs2 with hs2 | hs2
          · exact h s hs2
          · obtain rfl := List.mem_singleton.1 hs2
            omega)
        refine ⟨r, ev_step ?_, hr2⟩
        simp only [laws_szIntSS.l0]
        refine ev_pos (by omega) (ev_pos (by omega) ?_)
        rw [rdl_get hi, es, if_neg d, w64_succ (by omega)]
        simp only [Option.bind_some]
        refine ev_neg (by omega) ?_
        rw [show ((m - p[i].length : Nat) : Int) = (m : Int) - (p[i].length : Int) from by omega] at hr
        exact hr

theorem toIntS_ev (l : List Int) (h : l.length ≤ 1048576) : Ev (fun k => laws_toIntS.f k l) l := by
  unfold laws_toIntS.f
  refine ev_pos (by omega) (ev_pos (by omega) ?_)
  have key := ev_count (fun k i => laws_toIntS.l0 k l (l.take i ++ List.replicate (l.length - i) 0) (i : Int)) (fun _ => l) l.length
    (by
      refine ev_step ?_
      simp only [laws_toIntS.l0]
      refine ev_neg (by omega) ?_
      simpa using ev_some l)
    (by
      intro i hi ih
      refine ev_step ?_
      simp only [laws_toIntS.l0]
      refine ev_pos (by omega) (ev_pos (by omega) (ev_pos (by simp; omega) ?_))
      rw [w64_succ (by omega), Int.toNat_natCast, rd_get hi, set_copy hi]
      exact ih)
  have := key 0 (by omega)
  simpa using this

theorem set_copyR {l : List (List Int)} {i : Nat} (h : i < l.length) : (l.take i ++ List.replicate (l.length - i) []).set i l[i] = l.take (i + 1) ++ List.replicate (l.length - (i + 1)) [] := by
  rw [List.set_append_right _ _ (by simp; omega), show l.length - i = (l.length - (i + 1)) + 1 from by omega, List.replicate_succ]
  have hz : i - (l.take i).length = 0 := by simp; omega
  rw [hz, List.set_cons_zero, List.take_succ_eq_append_getElem h, List.append_assoc]; rfl
theorem toIntSS_ev (l : List (List Int)) (h : l.length ≤ 1048576) (hs : ∀ s ∈ l, s.length ≤ 1048576) : Ev (fun k => laws_toIntSS.f k l) l := by
  unfold laws_toIntSS.f
  refine ev_pos (by omega) (ev_pos (by omega) ?_)
  have key := ev_count (fun k i => laws_toIntSS.l0 k l (l.take i ++ List.replicate (l.length - i) []) (i : Int)) (fun _ => l) l.length
    (by
      refine ev_step ?_
      simp only [laws_toIntSS.l0]
      refine ev_neg (by omega) ?_
      simpa using ev_some l)
    (by
      intro i hi ih
      refine ev_step ?_
      simp only [laws_toIntSS.l0]
      refine ev_pos (by omega) (ev_pos (by omega) ?_)
      rw [rdl_get hi]
      refine Ev.bind (toIntS_ev _ (hs _ (List.getElem_mem _))) (ev_pos (by simp; omega) ?_)
      rw [w64_succ (by omega), Int.toNat_natCast, set_copyR hi]
      exact ih)
  have := key 0 (by omega)
  simpa using this

theorem eqIntS_self (l : List Int) (h : l.length ≤ 1048576) : Ev (fun k => laws_eqIntS.f k l l) true := by
  unfold laws_eqIntS.f
  refine ev_pos (by trivial) ?_
  refine ev_count (fun k i => laws_eqIntS.l0 k l l (i : Int)) (fun _ => true) l.length ?_ ?_ 0 (by omega)
  · refine ev_step ?_
    simp only [laws_eqIntS.l0]
    exact ev_neg (by omega) (ev_some _)
  · intro i hi ih
    refine ev_step ?_
    simp only [laws_eqIntS.l0]
    refine ev_pos (by omega) (ev_pos (by omega) (ev_pos (by omega) (ev_pos (by trivial) ?_)))
    rw [w64_succ (by omega)]
    exact ih

theorem eqIntSS_self (l : List (List Int)) (h : l.length ≤ 1048576) (hs : ∀ s ∈ l, s.length ≤ 1048576) : Ev (fun k => laws_eqIntSS.f k l l) true := by
  unfold laws_eqIntSS.f
  refine ev_pos (by trivial) ?_
  refine ev_count (fun k i => laws_eqIntSS.l0 k l l (i : Int)) (fun _ => true) l.length ?_ ?_ 0 (by omega)
  · refine ev_step ?_
    simp only [laws_eqIntSS.l0]
    exact ev_neg (by omega) (ev_some _)
  · intro i hi ih
    refine ev_step ?_
    simp only [laws_eqIntSS.l0]
    refine ev_pos (by omega) (ev_pos (by omega) (ev_pos (by omega) ?_))
    rw [rdl_get hi]
    refine Ev.bind (eqIntS_self _ (hs _ (List.getElem_mem _))) (ev_pos (by trivial) ?_)
    rw [w64_succ (by omega)]
    exact ih

theorem FnExactOrderFewest (p : List (List Int)) (hp : p.length ≤ 9223372036854775807) (hs : ∀ s ∈ p, s.length ≤ 9223372036854775807) : ∃ k, laws_FnExactOrderFewest.f k p = some true := by
  refine Ev.rounds ?_
  unfold laws_FnExactOrderFewest.f
  obtain ⟨r, hr, hr2⟩ := szIntSS_ev p 1048576 (by omega) hp hs
  refine Ev.bind hr ?_
  rcases hr2 with h | ⟨h0, h1, h2, h3⟩
  · exact ev_pos h (ev_some _)
  · obtain ⟨R, hR1, hR2⟩ : ∃ R, Ev (fun k => spec_OrderFewest.f k p) R ∧ Ev (fun k => impl_OrderFewest.f k p) R := by
      by_cases c : pathB p = true ∧ p.length ≤ 5
      · obtain ⟨q, rfl, hP⟩ := path_of c.1
        have h5 : q.length ≤ 5 := by have := c.2; rw [L_length] at this; exact this
        obtain ⟨R, hR⟩ := known h5
        exact ⟨R, spec_OrderFewest_ev hP h5 hR, impl_OrderFewest_ev hP h5 hR⟩
      · exact ⟨_, spec_OrderFewest_no h2 c, impl_OrderFewest_no h2 c⟩
    refine ev_neg (by omega) (Ev.bind (toIntSS_ev p h2 h3) (Ev.bind hR1 (Ev.bind (toIntSS_ev p h2 h3) (Ev.bind hR2 (ev_pos rfl (ev_step ?_))))))
    simp only [laws_FnExactOrderFewest.j0]
    refine ev_neg (by simp) (Ev.bind (toIntSS_ev p h2 h3) (Ev.bind (eqIntSS_self p h2 h3) ?_))
    exact ev_pos rfl (ev_some _)

end Go.Proofs.Ytdjddfeokpmfaaa.Pure
