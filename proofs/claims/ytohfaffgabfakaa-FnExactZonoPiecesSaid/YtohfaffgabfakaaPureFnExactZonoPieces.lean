/- An exact promise of the given program: the pieces of a zonogon and whether it is one are what the plain law tells, for every slice of slices of numbers. -/
import Derived.Test.YtohfaffgabfakaaPFnExactZonoPiecesx3
import Derived.Test.YtohfaffgabfakaaBase
import Derived.Test.YtohfaffgabfakaaPth
import Derived.Test.YtohfaffgabfakaaSrt
import Derived.Test.YtohfaffgabfakaaStar
import Derived.Test.YtohfaffgabfakaaRowsIn
namespace Go.Proofs.Ytohfaffgabfakaa.Pure
open Go.RowKit Go.Proofs.Ytohfaffgabfakaa.PFnExactZonoPieces Go.Proofs.YtohfaffgabfakaaW.PrintWords Go.Proofs.YtohfaffgabfakaaW.PrintLast Go.Proofs.YtohfaffgabfakaaW.PrintMore Go.Proofs.Ytohfaffgabfakaa.Base Go.Proofs.Ytohfaffgabfakaa.Pth Go.Proofs.Ytohfaffgabfakaa.Srt Go.Proofs.Ytohfaffgabfakaa.Star Go.Proofs.Ytohfaffgabfakaa.RowsIn
set_option linter.unusedVariables false
set_option linter.unusedSimpArgs false
theorem rdl_get {p : List (List Int)} {i : Nat} (h : i < p.length) : rd_L1 p (i : Int) = p[i] := by unfold rd_L1; rw [Int.toNat_natCast]; simp [h]
theorem rdl_L {q : List V} {i : Nat} (h : i < q.length) : rd_L1 (L q) (i : Int) = ofV q[i] := by
  rw [rdl_get (by rw [L_length]; exact h)]; simp [L]
theorem rd0 (v : V) : rd (ofV v) 0 = v.1 := rfl
theorem rd1 (v : V) : rd (ofV v) 1 = v.2 := rfl
theorem len_ofV (v : V) : ((ofV v).length : Int) = 2 := rfl
theorem lenL (q : List V) : ((L q).length : Int) = (q.length : Int) := by rw [L_length]

theorem impl_isStep_eq (s : List Int) : impl_isStep.f s = some (stepB s) := by
  match s with
  | [] => rfl
  | [_] => rfl
  | [x, y] =>
    unfold impl_isStep.f
    have h0 : rd [x, y] 0 = x := rfl
    have h1 : rd [x, y] 1 = y := rfl
    have hl : ([x, y].length : Int) = 2 := rfl
    rw [h0, h1, hl, if_pos rfl, if_pos (by decide)]
    rw [stepB_two]
    by_cases a : x ≥ -9
    · rw [if_pos a]
      by_cases b : x ≤ 9
      · rw [if_pos b, if_pos (by decide)]
        by_cases c : y ≥ -9
        · rw [if_pos c]
          by_cases d : y ≤ 9
          · rw [if_pos d]
            by_cases e : x = 0
            · rw [if_pos e]
              by_cases f : y = 0
              · subst e f; rfl
              · have : (y != 0) = true := by simpa using f
                rw [this, decide_eq_true (by omega)]
            · rw [if_neg e, decide_eq_true (by omega)]
          · rw [if_neg d, decide_eq_false (by omega)]
        · rw [if_neg c, decide_eq_false (by omega)]
      · rw [if_neg b, decide_eq_false (by omega)]
    · rw [if_neg a, decide_eq_false (by omega)]
  | a :: b :: c :: t =>
    unfold impl_isStep.f
    rw [if_neg (by simp; omega)]; rfl

theorem impl_isStar_ev (p : List (List Int)) (h : p.length ≤ 1048576) : Ev (fun k => impl_isStar.f k p) (starB p) := by
  unfold impl_isStar.f
  have key := ev_count (fun k i => impl_isStar.l0 k p p (p.length : Int) (i : Int)) (fun i => (p.drop i).all stepB && decide (2 ≤ p.length) && decide (p.length ≤ 4)) p.length ?_ ?_ 0 (by omega)
  · exact key
  · refine ev_step ?_
    simp only [impl_isStar.l0]
    refine ev_neg (by omega) ?_
    rw [List.drop_length]
    by_cases c : (p.length : Int) ≥ 2
    · refine ev_pos c ?_
      rw [decide_eq_true (show 2 ≤ p.length by omega), show decide ((p.length : Int) ≤ 4) = decide (p.length ≤ 4) from decide_eq_decide.2 (by omega)]
      simpa using ev_some _
    · refine ev_neg c ?_
      rw [decide_eq_false (show ¬ 2 ≤ p.length by omega)]
      simpa using ev_some _
  · intro i hi ih
    refine ev_step ?_
    simp only [impl_isStar.l0]
    refine ev_pos (by omega) (ev_pos (by omega) (ev_pos (by omega) ?_))
    rw [rdl_get hi, impl_isStep_eq, drop_cons hi, List.all_cons]
    simp only [Option.bind_some]
    by_cases hs : stepB p[i] = true
    · refine ev_pos hs ?_
      rw [w64_succ (by omega), hs, Bool.true_and]
      exact ih
    · refine ev_neg hs ?_
      rw [Bool.eq_false_iff.2 hs]
      simpa using ev_some _

theorem L_take (q : List V) (n : Nat) : (L q).take n = L (q.take n) := by simp [L]
theorem L_drop (q : List V) (n : Nat) : (L q).drop n = L (q.drop n) := by simp [L]
theorem L_append (a b : List V) : L a ++ L b = L (a ++ b) := by simp [L]

theorem impl_cross_eq {a b : V} (ha : stepV a) (hb : stepV b) : impl_cross.f (ofV a) (ofV b) = some (cr a b) := by
  have h := cr_bound ha hb
  unfold cr at h
  unfold impl_cross.f cr
  rw [len_ofV, len_ofV, if_pos (by decide), if_pos (by decide), if_pos (by decide), if_pos (by decide), rd0, rd0, rd1, rd1]
  simp only [w_sub_l, w_sub_r]
  rw [w64 (by omega)]

theorem impl_ZonoPieces_ev {q : List V} (h : Star q) : Ev (fun k => impl_ZonoPieces.f k (L q)) (PS nz q, true) := by
  have hq := h.hi
  unfold impl_ZonoPieces.f
  refine Ev.bind (impl_isStar_ev _ (by rw [L_length]; omega)) ?_
  rw [starB_L h]
  refine ev_pos rfl ?_
  have key := ev_count (fun k i => impl_ZonoPieces.l0 k (L q) (PS nz (q.take i)) (L q) ((L q).length : Int) (i : Int)) (fun _ => (PS nz q, true)) q.length ?_ ?_ 0 (by omega)
  · exact key
  · refine ev_step ?_
    simp only [impl_ZonoPieces.l0]
    refine ev_neg (by rw [lenL]; omega) ?_
    rw [List.take_length]
    exact ev_some _
  · intro i hi ih
    refine ev_step ?_
    simp only [impl_ZonoPieces.l0]
    refine ev_pos (by rw [lenL]; omega) (ev_pos (by omega) (ev_pos (by rw [lenL]; omega) (ev_pos (by rw [lenL]; omega) ?_)))
    rw [rdl_L hi, Int.toNat_natCast, L_take]
    simp only [Option.bind_some]
    have hil : (q.take i).length = i := by simp; omega
    have key2 := ev_count (fun k j => impl_ZonoPieces.l1 k (L q) (PS nz (q.take i) + RS nz q[i] (q.take j)) (ofV q[i]) (L q) ((L q).length : Int) (i : Int) (L (q.take i)) ((L (q.take i)).length : Int) (j : Int)) (fun _ => (PS nz q, true)) i ?_ ?_ 0 (by omega)
    · have e0 : RS nz q[i] (q.take 0) = 0 := rfl
      simp only [e0, Int.add_zero] at key2
      exact key2
    · refine ev_step ?_
      simp only [impl_ZonoPieces.l1]
      refine ev_neg (by rw [lenL, hil]; omega) ?_
      rw [PS_take _ hi] at ih
      rw [w64_succ (by omega)]
      exact ih
    · intro j hj ih2
      have hjq : j < q.length := by omega
      have ha := pieces_bound h i
      have hr := prow_bound h i (j + 1) hi
      have hjl : j < (q.take i).length := by omega
      have ej : (q.take i)[j] = q[j] := by simp
      rw [RS_take nz q[i] hjq] at ih2 hr
      refine ev_step ?_
      simp only [impl_ZonoPieces.l1]
      refine ev_pos (by rw [lenL, hil]; omega) (ev_pos (by omega) (ev_pos (by rw [lenL, hil]; omega) ?_))
      rw [rdl_L hjl, ej, impl_cross_eq (h.st q[i] (List.getElem_mem _)) (h.st q[j] (List.getElem_mem _))]
      simp only [Option.bind_some]
      rw [w64_succ (by omega)]
      by_cases c : cr q[i] q[j] = 0
      · have en : nz q[i] q[j] = 0 := by unfold nz; rw [if_pos c]
        rw [en, Int.add_zero] at ih2
        exact ev_pos c ih2
      · have en : nz q[i] q[j] = 1 := by unfold nz; rw [if_neg c]
        rw [en] at ih2 hr
        rw [w64 (by omega), Int.add_assoc]
        exact ev_neg c ih2
theorem impl_ZonoPieces_no {p : List (List Int)} (hl : p.length ≤ 1048576) (h : starB p = false) : Ev (fun k => impl_ZonoPieces.f k p) (0, false) := by
  unfold impl_ZonoPieces.f
  refine Ev.bind (impl_isStar_ev p hl) ?_
  rw [h]
  exact ev_neg (by decide) (ev_some _)

theorem spec_l6In_eq' (a b c : Int) : spec_l6In.f a b c = some (decide (b ≤ a ∧ a ≤ c)) := by
  unfold spec_l6In.f
  by_cases h : a ≥ b
  · rw [if_pos h]; simp; intro _; exact h
  · rw [if_neg h]; simp; omega
theorem spec_l6sStep_eq (s : List Int) : spec_l6sStep.f s = some (stepB s) := by
  match s with
  | [] => rfl
  | [_] => rfl
  | [x, y] =>
    unfold spec_l6sStep.f
    have h0 : rd [x, y] 0 = x := rfl
    have h1 : rd [x, y] 1 = y := rfl
    have hl : ([x, y].length : Int) = 2 := rfl
    rw [h0, h1, hl, if_pos rfl, if_pos (by decide), spec_l6In_eq', spec_l6In_eq']
    simp only [Option.bind_some]
    rw [stepB_two]
    by_cases b : -9 ≤ x ∧ x ≤ 9
    · rw [if_pos (by simpa using b), if_pos (by decide)]
      by_cases d : -9 ≤ y ∧ y ≤ 9
      · rw [if_pos (by simpa using d)]
        by_cases e : x = 0
        · rw [if_pos e]
          by_cases f : y = 0
          · subst e f; rfl
          · have : (y != 0) = true := by simpa using f
            rw [this, decide_eq_true (by omega)]
        · rw [if_neg e, decide_eq_true (by omega)]
      · rw [if_neg (by simpa using d), decide_eq_false (by omega)]
    · rw [if_neg (by simpa using b), decide_eq_false (by omega)]
  | a :: b :: c :: t =>
    unfold spec_l6sStep.f
    rw [if_neg (by simp; omega)]; rfl

theorem spec_l7Star_ev (p : List (List Int)) (h : p.length ≤ 1048576) : Ev (fun k => spec_l7Star.f k p) (starB p) := by
  unfold spec_l7Star.f
  have key := ev_count (fun k i => spec_l7Star.l0 k p (i : Int)) (fun i => (p.drop i).all stepB && decide (2 ≤ p.length) && decide (p.length ≤ 4)) p.length ?_ ?_ 0 (by omega)
  · exact key
  · refine ev_step ?_
    simp only [spec_l7Star.l0]
    refine ev_neg (by omega) ?_
    rw [List.drop_length, spec_l6In_eq']
    simp only [Option.bind_some]
    have e : decide ((2 : Int) ≤ p.length ∧ (p.length : Int) ≤ 4) = (decide (2 ≤ p.length) && decide (p.length ≤ 4)) := by
      rw [← Bool.decide_and]; exact decide_eq_decide.2 (by omega)
    rw [e]
    simpa using ev_some _
  · intro i hi ih
    refine ev_step ?_
    simp only [spec_l7Star.l0]
    refine ev_pos (by omega) (ev_pos (by omega) ?_)
    rw [rdl_get hi, spec_l6sStep_eq, drop_cons hi, List.all_cons]
    simp only [Option.bind_some]
    by_cases hs : stepB p[i] = true
    · refine ev_pos hs ?_
      rw [w64_succ (by omega), hs, Bool.true_and]
      exact ih
    · refine ev_neg hs ?_
      rw [Bool.eq_false_iff.2 hs]
      simpa using ev_some _

theorem spec_l6sCross_eq {a b : V} (ha : stepV a) (hb : stepV b) : spec_l6sCross.f (ofV a) (ofV b) = some (cr a b) := by
  have h := cr_bound ha hb
  unfold cr at h
  unfold spec_l6sCross.f cr
  rw [len_ofV, len_ofV, if_pos (by decide), if_pos (by decide), if_pos (by decide), if_pos (by decide), rd0, rd0, rd1, rd1]
  simp only [w_sub_l, w_sub_r]
  rw [w64 (by omega)]

theorem spec_ZonoPieces_ev {q : List V} (h : Star q) : Ev (fun k => spec_ZonoPieces.f k (L q)) (PS nz q, true) := by
  have hq := h.hi
  unfold spec_ZonoPieces.f
  refine Ev.bind (spec_l7Star_ev _ (by rw [L_length]; omega)) ?_
  rw [starB_L h]
  refine ev_pos rfl (Ev.bind (a := PS nz q) ?_ (ev_some _))
  unfold spec_l7Pieces.f
  have key := ev_count (fun k i => spec_l7Pieces.l0 k (L q) (PS nz (q.take i)) (i : Int)) (fun _ => PS nz q) q.length ?_ ?_ 0 (by omega)
  · exact key
  · refine ev_step ?_
    simp only [spec_l7Pieces.l0]
    refine ev_neg (by rw [lenL]; omega) ?_
    rw [List.take_length]
    exact ev_some _
  · intro i hi ih
    refine ev_step ?_
    simp only [spec_l7Pieces.l0]
    refine ev_pos (by rw [lenL]; omega) ?_
    have key2 := ev_count (fun k j => spec_l7Pieces.l1 k (L q) (PS nz (q.take i) + RS nz q[i] (q.take j)) (i : Int) (j : Int)) (fun _ => PS nz q) i ?_ ?_ 0 (by omega)
    · have e0 : RS nz q[i] (q.take 0) = 0 := rfl
      simp only [e0, Int.add_zero] at key2
      exact key2
    · refine ev_step ?_
      simp only [spec_l7Pieces.l1]
      refine ev_neg (by omega) ?_
      rw [PS_take _ hi] at ih
      rw [w64_succ (by omega)]
      exact ih
    · intro j hj ih2
      have hjq : j < q.length := by omega
      have ha := pieces_bound h i
      have hr := prow_bound h i (j + 1) hi
      rw [RS_take nz q[i] hjq] at ih2 hr
      refine ev_step ?_
      simp only [spec_l7Pieces.l1]
      refine ev_pos (by omega) (ev_pos (by omega) (ev_pos (by rw [lenL]; omega) (ev_pos (by omega) (ev_pos (by rw [lenL]; omega) ?_))))
      rw [rdl_L hi, rdl_L hjq, spec_l6sCross_eq (h.st q[i] (List.getElem_mem _)) (h.st q[j] (List.getElem_mem _))]
      simp only [Option.bind_some]
      rw [w64_succ (by omega)]
      by_cases c : cr q[i] q[j] = 0
      · have en : nz q[i] q[j] = 0 := by unfold nz; rw [if_pos c]
        rw [en, Int.add_zero] at ih2
        exact ev_pos c ih2
      · have en : nz q[i] q[j] = 1 := by unfold nz; rw [if_neg c]
        rw [en] at ih2 hr
        rw [w64 (by omega), Int.add_assoc]
        exact ev_neg c ih2
theorem spec_ZonoPieces_no {p : List (List Int)} (hl : p.length ≤ 1048576) (h : starB p = false) : Ev (fun k => spec_ZonoPieces.f k p) (0, false) := by
  unfold spec_ZonoPieces.f
  refine Ev.bind (spec_l7Star_ev p hl) ?_
  rw [h]
  exact ev_neg (by decide) (ev_some _)

/-- The size's test: where it leaves something, there are no more rows than the bound, and no row is longer. -/
theorem szIntSS_ev (p : List (List Int)) (n : Nat) (hn : n ≤ 1048576) (hp : p.length ≤ 9223372036854775807) (hs : ∀ s ∈ p, s.length ≤ 9223372036854775807) :
    ∃ r : Int, Ev (fun k => laws_szIntSS.f k p (n : Int)) r ∧ (r < 0 ∨ (0 ≤ r ∧ r ≤ n ∧ p.length ≤ n ∧ ∀ s ∈ p, s.length ≤ n)) := by
  unfold laws_szIntSS.f
  rw [w64 (x := (n : Int) - (p.length : Int)) (by omega)]
  by_cases c : (n : Int) - (p.length : Int) < 0
  · exact ⟨-1, ev_pos c (ev_some _), Or.inl (by decide)⟩
  · have hpn : p.length ≤ n := by omega
    have key := down (fun i => ∀ m : Nat, m ≤ n → (∀ s ∈ p.take i, s.length ≤ n) → ∃ r : Int, Ev (fun k => laws_szIntSS.l0 k p (m : Int) (i : Int)) r ∧ (r < 0 ∨ (0 ≤ r ∧ r ≤ n ∧ p.length ≤ n ∧ ∀ s ∈ p, s.length ≤ n))) p.length ?_ ?_ 0 (by omega)
    · obtain ⟨r, hr, hr2⟩ := key (n - p.length) (by omega) (fun s hs => by cases hs)
      refine ⟨r, ev_neg c ?_, hr2⟩
      rw [show ((n - p.length : Nat) : Int) = (n : Int) - (p.length : Int) from by omega] at hr
      exact hr
    · intro m hm h
      rw [List.take_length] at h
      refine ⟨m, ev_step ?_, Or.inr ⟨by omega, by omega, hpn, h⟩⟩
      simp only [laws_szIntSS.l0]
      exact ev_neg (by omega) (ev_some _)
    · intro i hi ih m hm h
      have hl := hs p[i] (List.getElem_mem _)
      have es : laws_szIntS.f p[i] (m : Int) = some (if (m : Int) - (p[i].length : Int) < 0 then -1 else (m : Int) - (p[i].length : Int)) := by
        unfold laws_szIntS.f
        rw [w64 (by omega)]
        split <;> rfl
      by_cases d : (m : Int) - (p[i].length : Int) < 0
      · refine ⟨-1, ev_step ?_, Or.inl (by decide)⟩
        simp only [laws_szIntSS.l0]
        refine ev_pos (by omega) (ev_pos (by omega) ?_)
        rw [rdl_get hi, es, if_pos d]
        simp only [Option.bind_some]
        exact ev_pos (by decide) (ev_some _)
      · obtain ⟨r, hr, hr2⟩ := ih (m - p[i].length) (by omega) (by
          intro s hs2
          rw [List.take_succ_eq_append_getElem hi] at hs2
          rcases List.mem_append.1 hs2 with hs2 | hs2
          · exact h s hs2
          · obtain rfl := List.mem_singleton.1 hs2
            omega)
        refine ⟨r, ev_step ?_, hr2⟩
        simp only [laws_szIntSS.l0]
        refine ev_pos (by omega) (ev_pos (by omega) ?_)
        rw [rdl_get hi, es, if_neg d, w64_succ (by omega)]
        simp only [Option.bind_some]
        refine ev_neg (by omega) ?_
        rw [show ((m - p[i].length : Nat) : Int) = (m : Int) - (p[i].length : Int) from by omega] at hr
        exact hr

theorem toIntS_ev (l : List Int) (h : l.length ≤ 1048576) : Ev (fun k => laws_toIntS.f k l) l := by
  unfold laws_toIntS.f
  refine ev_pos (by omega) (ev_pos (by omega) ?_)
  have key := ev_count (fun k i => laws_toIntS.l0 k l (l.take i ++ List.replicate (l.length - i) 0) (i : Int)) (fun _ => l) l.length
    (by
      refine ev_step ?_
      simp only [laws_toIntS.l0]
      refine ev_neg (by omega) ?_
      simpa using ev_some l)
    (by
      intro i hi ih
      refine ev_step ?_
      simp only [laws_toIntS.l0]
      refine ev_pos (by omega) (ev_pos (by omega) (ev_pos (by simp; omega) ?_))
      rw [w64_succ (by omega), Int.toNat_natCast, rd_get hi, set_copy hi]
      exact ih)
  have := key 0 (by omega)
  simpa using this

theorem set_copyR {l : List (List Int)} {i : Nat} (h : i < l.length) : (l.take i ++ List.replicate (l.length - i) []).set i l[i] = l.take (i + 1) ++ List.replicate (l.length - (i + 1)) [] := by
  rw [List.set_append_right _ _ (by simp; omega), show l.length - i = (l.length - (i + 1)) + 1 from by omega, List.replicate_succ]
  have hz : i - (l.take i).length = 0 := by simp; omega
  rw [hz, List.set_cons_zero, List.take_succ_eq_append_getElem h, List.append_assoc]; rfl
theorem toIntSS_ev (l : List (List Int)) (h : l.length ≤ 1048576) (hs : ∀ s ∈ l, s.length ≤ 1048576) : Ev (fun k => laws_toIntSS.f k l) l := by
  unfold laws_toIntSS.f
  refine ev_pos (by omega) (ev_pos (by omega) ?_)
  have key := ev_count (fun k i => laws_toIntSS.l0 k l (l.take i ++ List.replicate (l.length - i) []) (i : Int)) (fun _ => l) l.length
    (by
      refine ev_step ?_
      simp only [laws_toIntSS.l0]
      refine ev_neg (by omega) ?_
      simpa using ev_some l)
    (by
      intro i hi ih
      refine ev_step ?_
      simp only [laws_toIntSS.l0]
      refine ev_pos (by omega) (ev_pos (by omega) ?_)
      rw [rdl_get hi]
      refine Ev.bind (toIntS_ev _ (hs _ (List.getElem_mem _))) (ev_pos (by simp; omega) ?_)
      rw [w64_succ (by omega), Int.toNat_natCast, set_copyR hi]
      exact ih)
  have := key 0 (by omega)
  simpa using this

theorem eqIntS_self (l : List Int) (h : l.length ≤ 1048576) : Ev (fun k => laws_eqIntS.f k l l) true := by
  unfold laws_eqIntS.f
  refine ev_pos (by trivial) ?_
  refine ev_count (fun k i => laws_eqIntS.l0 k l l (i : Int)) (fun _ => true) l.length ?_ ?_ 0 (by omega)
  · refine ev_step ?_
    simp only [laws_eqIntS.l0]
    exact ev_neg (by omega) (ev_some _)
  · intro i hi ih
    refine ev_step ?_
    simp only [laws_eqIntS.l0]
    refine ev_pos (by omega) (ev_pos (by omega) (ev_pos (by omega) (ev_pos (by trivial) ?_)))
    rw [w64_succ (by omega)]
    exact ih

theorem eqIntSS_self (l : List (List Int)) (h : l.length ≤ 1048576) (hs : ∀ s ∈ l, s.length ≤ 1048576) : Ev (fun k => laws_eqIntSS.f k l l) true := by
  unfold laws_eqIntSS.f
  refine ev_pos (by trivial) ?_
  refine ev_count (fun k i => laws_eqIntSS.l0 k l l (i : Int)) (fun _ => true) l.length ?_ ?_ 0 (by omega)
  · refine ev_step ?_
    simp only [laws_eqIntSS.l0]
    exact ev_neg (by omega) (ev_some _)
  · intro i hi ih
    refine ev_step ?_
    simp only [laws_eqIntSS.l0]
    refine ev_pos (by omega) (ev_pos (by omega) (ev_pos (by omega) ?_))
    rw [rdl_get hi]
    refine Ev.bind (eqIntS_self _ (hs _ (List.getElem_mem _))) (ev_pos (by trivial) ?_)
    rw [w64_succ (by omega)]
    exact ih

theorem FnExactZonoPieces (p : List (List Int)) (hp : p.length ≤ 9223372036854775807) (hs : ∀ s ∈ p, s.length ≤ 9223372036854775807) : ∃ k, laws_FnExactZonoPieces.f k p = some true := by
  refine Ev.rounds ?_
  unfold laws_FnExactZonoPieces.f
  obtain ⟨r, hr, hr2⟩ := szIntSS_ev p 1048576 (by omega) hp hs
  refine Ev.bind hr ?_
  rcases hr2 with h | ⟨h0, h1, h2, h3⟩
  · exact ev_pos h (ev_some _)
  · refine ev_neg (by omega) (Ev.bind (toIntSS_ev p h2 h3) ?_)
    have fin : Ev (fun k => laws_FnExactZonoPieces.j0 k p p false) true := by
      refine ev_step ?_
      simp only [laws_FnExactZonoPieces.j0]
      exact ev_neg (by simp) (Ev.bind (toIntSS_ev p h2 h3) (Ev.bind (eqIntSS_self p h2 h3) (ev_pos (by trivial) (ev_some _))))
    by_cases c : starB p = true
    · obtain ⟨q, hq, hP⟩ := star_of c
      rw [hq] at fin h2 h3 ⊢
      exact Ev.bind (spec_ZonoPieces_ev hP) (Ev.bind (toIntSS_ev _ h2 h3) (Ev.bind (impl_ZonoPieces_ev hP) (ev_pos rfl (by simpa using fin))))
    · have c' := Bool.eq_false_iff.2 c
      exact Ev.bind (spec_ZonoPieces_no h2 c') (Ev.bind (toIntSS_ev _ h2 h3) (Ev.bind (impl_ZonoPieces_no h2 c') (ev_pos rfl (by simpa using fin))))

end Go.Proofs.Ytohfaffgabfakaa.Pure
