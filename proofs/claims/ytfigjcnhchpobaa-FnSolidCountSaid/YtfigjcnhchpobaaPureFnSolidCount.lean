/- A promise of the given program: solids of short edges are few, and more with longer edges (for every code that draws a number). -/
import Derived.Test.YtfigjcnhchpobaaPFnSolidCountx10
import Derived.Test.YtfigjcnhchpobaaBase
import Derived.Test.YtfigjcnhchpobaaSol
import Derived.Test.YtfigjcnhchpobaaFace
import Derived.Test.YtfigjcnhchpobaaStand
import Derived.Test.YtfigjcnhchpobaaFirst
import Derived.Test.YtfigjcnhchpobaaCnt
namespace Go.Proofs.Ytfigjcnhchpobaa.Pure
open Go.RowKit Go.Proofs.Ytfigjcnhchpobaa.PFnSolidCount Go.Proofs.YtfigjcnhchpobaaW.PrintWords Go.Proofs.YtfigjcnhchpobaaW.PrintLast Go.Proofs.YtfigjcnhchpobaaW.PrintMore Go.Proofs.Ytfigjcnhchpobaa.Base Go.Proofs.Ytfigjcnhchpobaa.Sol Go.Proofs.Ytfigjcnhchpobaa.Face Go.Proofs.Ytfigjcnhchpobaa.Stand Go.Proofs.Ytfigjcnhchpobaa.First Go.Proofs.Ytfigjcnhchpobaa.Cnt
set_option linter.unusedVariables false
set_option linter.unusedSimpArgs false
theorem isRuler_ev (l : List Int) (h : l.length ≤ 1048576) : ∃ b, Ev (fun k => impl_isRuler.f k l) b ∧ (b = true ↔ (∀ i (h : i < l.length), 1 ≤ l[i] ∧ l[i] ≤ 60) ∧ 1 ≤ l.length ∧ l.length ≤ 9) := by
  unfold impl_isRuler.f
  have key := down (fun i => (∀ j (hj : j < l.length), j < i → 1 ≤ l[j] ∧ l[j] ≤ 60) → ∃ b, Ev (fun k => impl_isRuler.l0 k l l (l.length : Int) (i : Int)) b ∧ (b = true ↔ (∀ i (h : i < l.length), 1 ≤ l[i] ∧ l[i] ≤ 60) ∧ 1 ≤ l.length ∧ l.length ≤ 9)) l.length ?_ ?_ 0 (by omega)
  · exact key (fun j _ hj => by omega)
  · intro ha
    by_cases c : (l.length : Int) ≥ 1
    · refine ⟨decide ((l.length : Int) ≤ 9), ev_step ?_, ?_⟩
      · simp only [impl_isRuler.l0]
        exact ev_neg (by omega) (ev_pos c (ev_some _))
      · rw [decide_eq_true_eq]
        exact ⟨fun _ => ⟨fun i hi => ha i hi hi, by omega, by omega⟩, fun hb => by have := hb.2; omega⟩
    · refine ⟨false, ev_step ?_, fun h => (by cases h), fun hb => by have := hb.2; omega⟩
      simp only [impl_isRuler.l0]
      exact ev_neg (by omega) (ev_neg c (ev_some _))
  · intro i hi ih ha
    by_cases c1 : l[i] < 1
    · refine ⟨false, ev_step ?_, fun h => (by cases h), fun hb => by have := hb.1 i hi; omega⟩
      simp only [impl_isRuler.l0]
      rw [rd_get hi]
      exact ev_pos (by omega) (ev_pos (by omega) (ev_pos (by omega) (ev_pos c1 (ev_some _))))
    · by_cases c2 : l[i] > 60
      · refine ⟨false, ev_step ?_, fun h => (by cases h), fun hb => by have := hb.1 i hi; omega⟩
        simp only [impl_isRuler.l0]
        rw [rd_get hi]
        exact ev_pos (by omega) (ev_pos (by omega) (ev_pos (by omega) (ev_neg c1 (ev_pos c2 (ev_some _)))))
      · obtain ⟨b, hb, hb2⟩ := ih (by
          intro j hj hji
          rcases Nat.lt_or_ge j i with h1 | h1
          · exact ha j hj h1
          · obtain rfl : j = i := by omega
            exact ⟨by omega, by omega⟩)
        refine ⟨b, ev_step ?_, hb2⟩
        simp only [impl_isRuler.l0]
        rw [rd_get hi, w64_succ (by omega)]
        exact ev_pos (by omega) (ev_pos (by omega) (ev_pos (by omega) (ev_neg c1 (ev_neg c2 hb))))

theorem stick_ev {a b c : Int} (ha : 1 ≤ a ∧ a ≤ 12) (hb : 1 ≤ b ∧ b ≤ 12) (hc : 1 ≤ c ∧ c ≤ 12) : Ev (fun k => impl_StickThree.f k a b c) (tri a b c) := by
  unfold impl_StickThree.f
  obtain ⟨r, hr, h2⟩ := isRuler_ev [a, b, c] (by show 3 ≤ 1048576; decide)
  have hrt : r = true := h2.2 ⟨fun i hi => by
    have : i = 0 ∨ i = 1 ∨ i = 2 := by simp at hi; omega
    rcases this with rfl | rfl | rfl
    · show 1 ≤ a ∧ a ≤ 60; omega
    · show 1 ≤ b ∧ b ≤ 60; omega
    · show 1 ≤ c ∧ c ≤ 60; omega, by show 1 ≤ 3; decide, by show 3 ≤ 9; decide⟩
  subst hrt
  refine Ev.bind hr (ev_pos rfl ?_)
  rw [w64 (x := b + c) (by omega), w64 (x := a + c) (by omega), w64 (x := a + b) (by omega)]
  unfold tri
  by_cases h1 : a < b + c
  · rw [decide_eq_true h1, Bool.true_and]
    refine ev_pos h1 ?_
    by_cases h2 : b < a + c
    · rw [decide_eq_true h2, Bool.true_and]
      exact ev_pos h2 (ev_some _)
    · rw [decide_eq_false h2, Bool.false_and]
      exact ev_neg h2 (ev_some _)
  · rw [decide_eq_false h1, Bool.false_and]
    exact ev_neg h1 (ev_some _)

theorem faces_step {a b c : Int} (ha : 1 ≤ a ∧ a ≤ 12) (hb : 1 ≤ b ∧ b ≤ 12) (hc : 1 ≤ c ∧ c ≤ 12) {n : Int} (hn : 0 ≤ n ∧ n ≤ 100) {G : Nat → Int → Option Int} {r : Int} (h : Ev (fun k => G k (n + one (tri a b c))) r) :
    Ev (fun k => (impl_StickThree.f k a b c).bind fun t => if t = true then G k (wrap64 (n + 1)) else G k n) r := by
  refine Ev.bind (stick_ev ha hb hc) ?_
  cases z : tri a b c with
  | true => rw [z, one_true] at h; rw [w64 (by omega)]; exact ev_pos rfl h
  | false => rw [z, one_false, Int.add_zero] at h; exact ev_neg (by decide) h
theorem impl_facesOf_ev {a b c d e f : Int} (ha : 1 ≤ a ∧ a ≤ 12) (hb : 1 ≤ b ∧ b ≤ 12) (hc : 1 ≤ c ∧ c ≤ 12) (hd : 1 ≤ d ∧ d ≤ 12) (he : 1 ≤ e ∧ e ≤ 12) (hf : 1 ≤ f ∧ f ≤ 12) :
    Ev (fun k => impl_facesOf.f k [a, b, c, d, e, f]) (faces6 a b c d e f) := by
  have b1 := one_bound (tri d e f); have b2 := one_bound (tri b c f); have b3 := one_bound (tri a c e); have b4 := one_bound (tri a b d)
  unfold impl_facesOf.f
  refine ev_pos (by decide : 5 < 6) ?_
  show Ev (fun k => (impl_StickThree.f k d e f).bind fun t => if t = true then impl_facesOf.l0 k 3 [a, b, c, d, e, f] (wrap64 (0 + 1)) else impl_facesOf.l0 k 3 [a, b, c, d, e, f] 0) _
  refine faces_step (G := fun k n => impl_facesOf.l0 k 3 [a, b, c, d, e, f] n) hd he hf (by omega) ?_
  refine faces_step (G := fun k n => impl_facesOf.l0 k 2 [a, b, c, d, e, f] n) hb hc hf (by omega) ?_
  refine faces_step (G := fun k n => impl_facesOf.l0 k 1 [a, b, c, d, e, f] n) ha hc he (by omega) ?_
  refine faces_step (G := fun k n => impl_facesOf.l0 k 0 [a, b, c, d, e, f] n) ha hb hd (by omega) ?_
  have e0 : (0 : Int) + one (tri d e f) + one (tri b c f) + one (tri a c e) + one (tri a b d) = faces6 a b c d e f := by unfold faces6; omega
  rw [e0]
  exact ev_some _

theorem impl_number_eq (a b c d e f : Int) : impl_numberOf.f [a, b, c, d, e, f] = some (wrap64 (number a b c d e f)) := by
  unfold impl_numberOf.f number
  have r0 : rd [a, b, c, d, e, f] 0 = a := rfl
  have r1 : rd [a, b, c, d, e, f] 1 = b := rfl
  have r2 : rd [a, b, c, d, e, f] 2 = c := rfl
  have r3 : rd [a, b, c, d, e, f] 3 = d := rfl
  have r4 : rd [a, b, c, d, e, f] 4 = e := rfl
  have r5 : rd [a, b, c, d, e, f] 5 = f := rfl
  have hl : ([a, b, c, d, e, f].length : Int) = 6 := rfl
  rw [r0, r1, r2, r3, r4, r5, hl, if_pos (by decide), if_pos (by decide), if_pos (by decide), if_pos (by decide), if_pos (by decide), if_pos (by decide)]
  simp only [w_add_l, w_add_r, w_sub_l, w_sub_r, w_mul_l, w_mul_r]

theorem impl_stands_ev {l : List Int} (h : solB l = true) : Ev (fun k => impl_stands.f k l) (standsB l) := by
  unfold impl_stands.f standsB
  obtain ⟨a, b, c, d, e, f, rfl, ha, hb, hc, hd, he, hf⟩ := sol_six h
  refine Ev.bind (impl_facesOf_ev ha hb hc hd he hf) ?_
  have e1 : facesN [a, b, c, d, e, f] = faces6 a b c d e f := rfl
  have e2 : num [a, b, c, d, e, f] = number a b c d e f := rfl
  rw [e1, e2, impl_number_eq]
  simp only [Option.bind_some]
  by_cases z : faces6 a b c d e f = 4
  · rw [decide_eq_true z, Bool.true_and]
    exact ev_pos z (ev_some _)
  · rw [decide_eq_false z, Bool.false_and]
    exact ev_neg z (ev_some _)

/-- Which lists have each corner once: those of 'perms'. -/
theorem index_ev (l : List Int) (x : Int) (h : l.length ≤ 1048576) : ∃ r, Ev (fun k => slices_Index_int_int.f k l x) r ∧ (decide (r ≥ 0) = l.contains x) := by
  unfold slices_Index_int_int.f
  have := ev_count (fun k i => slices_Index_int_int.l0 k l x (l.length : Int) (i : Int)) (fun i => if (l.drop i).contains x then ((i + (l.drop i).idxOf x : Nat) : Int) else -1) l.length ?_ ?_ 0 (by omega)
  · refine ⟨_, this, ?_⟩
    simp only [List.drop_zero]
    by_cases c : l.contains x
    · rw [if_pos c, c]; simp
    · rw [if_neg c]; simp at c; simp [c]
  · refine ev_step ?_
    simp only [slices_Index_int_int.l0]
    refine ev_neg (by omega) ?_
    simpa using ev_some _
  · intro i hi ih
    refine ev_step ?_
    simp only [slices_Index_int_int.l0]
    refine ev_pos (by omega) (ev_pos (by omega) (ev_pos (by omega) ?_))
    rw [rd_get hi, drop_cons hi]
    by_cases c : x = l[i]
    · refine ev_pos c ?_
      have e1 : ∀ t : List Int, (l[i] :: t).contains x = true := fun t => by simp [c]
      have e2 : ∀ t : List Int, (l[i] :: t).idxOf x = 0 := fun t => by rw [List.idxOf_cons]; simp [c]
      rw [if_pos (e1 _), e2]
      exact ev_some _
    · refine ev_neg c ?_
      rw [w64_succ (by omega)]
      have e : ∀ t : List Int, (l[i] :: t).contains x = t.contains x := fun t => by simp [c]
      rw [e]
      by_cases c2 : (l.drop (i + 1)).contains x
      · rw [if_pos c2] at ih ⊢
        have e2 : ∀ t : List Int, (l[i] :: t).idxOf x = t.idxOf x + 1 := fun t => by
          rw [List.idxOf_cons, show (l[i] == x) = false from by simp; exact fun h => c h.symm]; rfl
        rw [e2, show i + ((l.drop (i + 1)).idxOf x + 1) = i + 1 + (l.drop (i + 1)).idxOf x from by omega]
        exact ih
      · rw [if_neg c2] at ih ⊢
        exact ih
theorem contains_ev (l : List Int) (x : Int) (h : l.length ≤ 1048576) : Ev (fun k => slices_Contains_int_int.f k l x) (l.contains x) := by
  obtain ⟨r, hr, hd⟩ := index_ev l x h
  unfold slices_Contains_int_int.f
  refine Ev.bind hr ?_
  rw [hd]
  exact ev_some _
theorem impl_isOrder_ev (l : List Int) (h : l.length ≤ 1048576) : Ev (fun k => impl_isOrder.f k l) (ordB l 0) := by
  unfold impl_isOrder.f
  refine ev_count (fun k i => impl_isOrder.l0 k l l (l.length : Int) (i : Int)) (fun i => ordB l i) l.length ?_ ?_ 0 (by omega)
  · refine ev_step ?_
    simp only [impl_isOrder.l0]
    refine ev_neg (by omega) ?_
    have e : ((l.length : Int) == 4) = (l.length == 4) := by rw [Bool.eq_iff_iff]; simp; omega
    rw [ordB_end, e]; exact ev_some _
  · intro i hi ih
    refine ev_step ?_
    simp only [impl_isOrder.l0]
    refine ev_pos (by omega) (ev_pos (by omega) (ev_pos (by omega) ?_))
    rw [rd_get hi, ordB_step hi, Int.toNat_natCast]
    by_cases h1 : l[i] < 0
    · refine ev_pos h1 ?_
      rw [if_pos (by omega)]; exact ev_some _
    · refine ev_neg h1 ?_
      by_cases h2 : l[i] > 3
      · refine ev_pos h2 ?_
        rw [if_pos (by omega)]; exact ev_some _
      · refine ev_neg h2 (ev_pos (by omega) (Ev.bind (contains_ev _ _ (by simp; omega)) ?_))
        by_cases h3 : (l.take i).contains l[i]
        · refine ev_pos h3 ?_
          rw [if_pos (Or.inr (Or.inr h3))]; exact ev_some _
        · refine ev_neg h3 ?_
          rw [if_neg (by simp only [not_or]; exact ⟨by omega, by omega, h3⟩), w64_succ (by omega)]
          exact ih

/-- Corners called otherwise, by each of the 24 orders: what both texts answer. -/
theorem impl_named_ev (a b c d e f : Int) (x : List Int) (hx : x ∈ perms) : Ev (fun k => impl_named.f k [a, b, c, d, e, f] x) (named [a, b, c, d, e, f] x) := by
  refine Ev.of (impl_named.mono _ _) (k := 30) ?_
  simp only [perms, List.mem_cons, List.not_mem_nil, or_false] at hx
  rcases hx with rfl | rfl | rfl | rfl | rfl | rfl | rfl | rfl | rfl | rfl | rfl | rfl | rfl | rfl | rfl | rfl | rfl | rfl | rfl | rfl | rfl | rfl | rfl | rfl <;> kernel_rfl

theorem compare_int_eq (a b : Int) : cmp_Compare_int.f a b = some (if a < b then -1 else if a > b then 1 else 0) := by
  unfold cmp_Compare_int.f cmp_isNaN_int.f
  have : ∀ x : Int, (x != x) = false := fun x => by simp
  simp only [this, Option.bind_some]
  rw [if_neg (by decide), if_neg (by decide)]
  split
  · rfl
  · split <;> rfl
theorem compare_ev (s t : List Int) (hl : s.length = t.length) (h : s.length ≤ 1048576) : ∃ n : Int, Ev (fun k => slices_Compare_int_int.f k s t) n ∧ (decide (n < 0) = lx s t) := by
  unfold slices_Compare_int_int.f
  have key := down (fun i => ∃ n : Int, Ev (fun k => slices_Compare_int_int.l0 k s t s (s.length : Int) (i : Int)) n ∧ (decide (n < 0) = lx (s.drop i) (t.drop i))) s.length ?_ ?_ 0 (by omega)
  · exact key
  · refine ⟨0, ev_step ?_, ?_⟩
    · simp only [slices_Compare_int_int.l0]
      exact ev_neg (by omega) (ev_neg (by omega) (ev_some _))
    · rw [List.drop_length]; rfl
  · intro i hi ⟨n, hn, hd⟩
    have hit : i < t.length := by omega
    rw [drop_cons hi, drop_cons hit]
    simp only [lx]
    by_cases c : s[i] = t[i]
    · refine ⟨n, ev_step ?_, by rw [if_pos c]; exact hd⟩
      simp only [slices_Compare_int_int.l0]
      rw [rd_get hi, rd_get hit, compare_int_eq, w64_succ (by omega)]
      simp only [Option.bind_some]
      exact ev_pos (by omega) (ev_pos (by omega) (ev_pos (by omega) (ev_neg (by omega) (ev_pos (by omega) (ev_pos (by rw [if_neg (by omega), if_neg (by omega)]) hn)))))
    · rcases Int.lt_or_gt_of_ne c with d | d
      · refine ⟨-1, ev_step ?_, by rw [if_neg c, decide_eq_true d]; rfl⟩
        simp only [slices_Compare_int_int.l0]
        rw [rd_get hi, rd_get hit, compare_int_eq, if_pos d]
        simp only [Option.bind_some]
        exact ev_pos (by omega) (ev_pos (by omega) (ev_pos (by omega) (ev_neg (by omega) (ev_pos (by omega) (ev_neg (by decide) (ev_some _))))))
      · refine ⟨1, ev_step ?_, by rw [if_neg c, decide_eq_false (p := s[i] < t[i]) (by omega)]; rfl⟩
        simp only [slices_Compare_int_int.l0]
        rw [rd_get hi, rd_get hit, compare_int_eq, if_neg (by omega), if_pos d]
        simp only [Option.bind_some]
        exact ev_pos (by omega) (ev_pos (by omega) (ev_pos (by omega) (ev_neg (by omega) (ev_pos (by omega) (ev_neg (by decide) (ev_some _))))))
theorem quad_eq {i : Nat} (h : i < 256) : [wrap64 (Int.tdiv (i : Int) 64), Int.tmod (wrap64 (Int.tdiv (i : Int) 16)) 4, Int.tmod (wrap64 (Int.tdiv (i : Int) 4)) 4, Int.tmod (i : Int) 4] = quad i := by
  have e1 : Int.tdiv (i : Int) 64 = ((i / 64 : Nat) : Int) := (Int.ofNat_tdiv i 64).symm
  have e2 : Int.tdiv (i : Int) 16 = ((i / 16 : Nat) : Int) := (Int.ofNat_tdiv i 16).symm
  have e3 : Int.tdiv (i : Int) 4 = ((i / 4 : Nat) : Int) := (Int.ofNat_tdiv i 4).symm
  have m : ∀ x : Nat, Int.tmod (x : Int) 4 = ((x % 4 : Nat) : Int) := fun x => (Int.ofNat_tmod x 4).symm
  rw [e1, e2, e3, w64 (x := ((i / 64 : Nat) : Int)) (by omega), w64 (x := ((i / 16 : Nat) : Int)) (by omega), w64 (x := ((i / 4 : Nat) : Int)) (by omega), m, m, m]
  rfl
theorem six_of {l : List Int} (h : l.length = 6) : ∃ a b c d e f, l = [a, b, c, d, e, f] := by
  match l, h with
  | [a, b, c, d, e, f], _ => exact ⟨a, b, c, d, e, f, rfl⟩
theorem impl_first_ev {l : List Int} (h : l.length = 6) : Ev (fun k => impl_firstNamed.f k l) (firstOf l) := by
  unfold impl_firstNamed.f firstOf
  rw [← from256_zero]
  have key := down (fun i => ∀ b : List Int, b.length = 6 → Ev (fun k => impl_firstNamed.l0 k l b (i : Int)) ((from256 i).foldl (upd l) b)) 256 ?_ ?_ 0 (by omega)
  · exact key l h
  · intro b hb
    refine ev_step ?_
    simp only [impl_firstNamed.l0]
    refine ev_neg (by omega) ?_
    unfold slices_Clone_int_int.f
    simp only [Option.bind_some, List.nil_append]
    rw [from256_end]
    simp only [hb]
    exact ev_some _
  · intro i hi ih b hb
    refine ev_step ?_
    simp only [impl_firstNamed.l0]
    refine ev_pos (by omega) ?_
    rw [quad_eq hi, w64_succ (by omega), from256_step hi]
    simp only [Option.bind_some]
    refine Ev.bind (impl_isOrder_ev (quad i) (by show 4 ≤ 1048576; decide)) ?_
    by_cases c : perms.contains (quad i) = true
    · have hp : quad i ∈ perms := List.contains_iff_mem.1 c
      rw [if_pos c, List.foldl_cons]
      obtain ⟨a1, a2, a3, a4, a5, a6, rfl⟩ := six_of h
      obtain ⟨n, hn, hd⟩ := compare_ev (named [a1, a2, a3, a4, a5, a6] (quad i)) b (by rw [hb]; rfl) (by show 6 ≤ 1048576; decide)
      refine ev_pos ((ordB_iff _).2 hp) (Ev.bind (impl_named_ev _ _ _ _ _ _ _ hp) (Ev.bind hn ?_))
      have ih' := ih (upd [a1, a2, a3, a4, a5, a6] b (quad i)) (upd_length hb)
      unfold upd at ih'
      unfold upd
      by_cases z : lx (named [a1, a2, a3, a4, a5, a6] (quad i)) b = true
      · rw [if_pos z] at ih' ⊢
        rw [z] at hd
        exact ev_pos (of_decide_eq_true hd) ih'
      · rw [if_neg z] at ih' ⊢
        rw [Bool.eq_false_iff.2 z] at hd
        exact ev_neg (of_decide_eq_false hd) ih'
    · rw [if_neg c]
      refine ev_neg (fun hc => c (List.contains_iff_mem.2 ((ordB_iff _).1 hc))) ?_
      exact ih b hb
def firstA (l : List Int) : List Int × Bool := if solB l = true then (firstOf l, true) else ([], false)
theorem sol_len {l : List Int} (h : solB l = true) : l.length = 6 := by
  obtain ⟨a, b, c, d, e, f, rfl, _⟩ := sol_six h
  rfl
theorem firstA_len (l : List Int) : (firstA l).1.length ≤ 6 := by
  unfold firstA
  by_cases c : solB l = true
  · rw [if_pos c]; dsimp only; rw [first_length (sol_len c)]; decide
  · rw [if_neg c]; exact Nat.zero_le _

def sameA (l x : List Int) : Bool := solB l && (solB x && firstOf l == firstOf x)
theorem slices_equal_ev (s t : List Int) (h : s.length ≤ 1048576) (hl : s.length = t.length) : Ev (fun k => slices_Equal_int_int.f k s t) (s == t) := by
  unfold slices_Equal_int_int.f
  refine ev_pos (by omega) ?_
  have key := ev_count (fun k i => slices_Equal_int_int.l0 k s t (s.length : Int) (i : Int)) (fun i => s.drop i == t.drop i) s.length ?_ ?_ 0 (by omega)
  · exact key
  · refine ev_step ?_
    simp only [slices_Equal_int_int.l0]
    refine ev_neg (by omega) ?_
    rw [List.drop_length, hl, List.drop_length]
    exact ev_some _
  · intro i hi ih
    have hit : i < t.length := by omega
    refine ev_step ?_
    simp only [slices_Equal_int_int.l0]
    rw [drop_cons hi, drop_cons hit, rd_get hi, rd_get hit, w64_succ (by omega)]
    refine ev_pos (by omega) (ev_pos (by omega) (ev_pos (by omega) (ev_pos (by omega) ?_)))
    have e : (s[i] :: s.drop (i + 1) == t[i] :: t.drop (i + 1)) = (s[i] == t[i] && s.drop (i + 1) == t.drop (i + 1)) := rfl
    rw [e]
    by_cases c : s[i] = t[i]
    · have : (s[i] == t[i]) = true := by simpa using c
      rw [this, Bool.true_and]
      exact ev_pos c ih
    · have : (s[i] == t[i]) = false := by simpa using c
      rw [this, Bool.false_and]
      exact ev_neg c (ev_some _)
theorem row_ev (F : Nat → Int → Option Int) (v : Nat → Int) : ∀ (r : Nat) (x : Int), (∀ i, i < r → Ev (fun k => F k (x + (i : Int))) (v i)) → Ev (fun k => impl_SolidCount.row (F k) r x) (su r v)
  | 0, x, _ => ev_some _
  | r + 1, x, h => by
    rw [su_front]
    have h0 := h 0 (by omega)
    simp only [Int.natCast_zero, Int.add_zero] at h0
    refine Ev.bind h0 (Ev.bind (row_ev F (fun i => v (i + 1)) r (x + 1) (fun i hi => ?_)) (ev_some _))
    have := h (i + 1) (by omega)
    have e : x + ((i + 1 : Nat) : Int) = x + 1 + (i : Int) := by omega
    rwa [e] at this
theorem impl_leaf_ev {s : List Int} (h : solB s = true) : Ev (fun k => impl_SolidCount.leaf k s) (own1 s) := by
  unfold impl_SolidCount.leaf own1 own
  refine Ev.bind (impl_stands_ev h) ?_
  have h6 := sol_len h
  cases c : standsB s with
  | false => exact ev_neg (by decide) (ev_some _)
  | true =>
    rw [Bool.true_and]
    refine ev_pos rfl (Ev.bind (impl_first_ev h6) (Ev.bind (slices_equal_ev _ _ (by rw [first_length h6]; decide) (by rw [first_length h6, h6])) (ev_some _)))
theorem impl_l_ev (n : Nat) (hn : n ≤ 3) : ∀ d pre, pre.length + d = 6 → (∀ x ∈ pre, 1 ≤ x ∧ x ≤ 3) → Ev (fun k => impl_SolidCount.l k n d pre) (cnt n d (fun t => own1 (pre ++ t)))
  | 0, pre, hl, hp => by
    have := impl_leaf_ev (solB_of (s := pre) (by omega) hp)
    unfold cnt impl_SolidCount.l
    dsimp only
    rwa [List.append_nil]
  | d + 1, pre, hl, hp => by
    unfold cnt impl_SolidCount.l
    refine row_ev (fun k x => impl_SolidCount.l k n d (pre ++ [x])) _ n 1 (fun i hi => ?_)
    have := impl_l_ev n hn d (pre ++ [1 + (i : Int)]) (by simp; omega) (fun x hx => by
      rcases List.mem_append.1 hx with hx | hx
      · exact hp x hx
      · rw [List.mem_singleton.1 hx]; omega)
    have e : (fun t => own1 (pre ++ [1 + (i : Int)] ++ t)) = (fun t => own1 (pre ++ ((i : Int) + 1) :: t)) := by
      funext t
      rw [List.append_assoc, Int.add_comm]
      rfl
    rwa [e] at this
theorem impl_SolidCount_ev (n : Int) : Ev (fun k => impl_SolidCount.f k n) (countA n) := by
  unfold impl_SolidCount.f countA
  by_cases h0 : n < 1
  · rw [if_neg (by omega)]
    exact ev_pos h0 (ev_some _)
  · refine ev_neg h0 ?_
    by_cases h3 : n > 3
    · rw [if_neg (by omega)]
      exact ev_pos h3 (ev_some _)
    · rw [if_pos ⟨by omega, by omega⟩]
      exact ev_neg h3 (Ev.bind (impl_l_ev n.toNat (by omega) 6 [] rfl (fun x hx => by simp at hx)) (ev_some _))

theorem spec_l6In_eq (a b c : Int) : spec_l6In.f a b c = some (decide (b ≤ a ∧ a ≤ c)) := by
  unfold spec_l6In.f
  by_cases h : a ≥ b
  · rw [if_pos h]; simp; intro _; exact h
  · rw [if_neg h]; simp; omega
theorem three_ev {a b c : Int} (ha : 1 ≤ a ∧ a ≤ 12) (hb : 1 ≤ b ∧ b ≤ 12) (hc : 1 ≤ c ∧ c ≤ 12) : spec_l1Three.f a b c = some (tri a b c) := by
  unfold spec_l1Three.f
  rw [w64 (x := b + c) (by omega), w64 (x := a + c) (by omega), w64 (x := a + b) (by omega)]
  unfold tri
  by_cases h1 : a < b + c
  · rw [decide_eq_true h1, Bool.true_and, if_pos h1]
    by_cases h2 : b < a + c
    · rw [decide_eq_true h2, Bool.true_and, if_pos h2]
    · rw [decide_eq_false h2, Bool.false_and, if_neg h2]
  · rw [decide_eq_false h1, Bool.false_and, if_neg h1]
theorem spec_face {x y z : Int} (hx : 1 ≤ x ∧ x ≤ 12) (hy : 1 ≤ y ∧ y ≤ 12) (hz : 1 ≤ z ∧ z ≤ 12) {l : List Int} {n i : Int} (hn : 0 ≤ n ∧ n ≤ 100) {r : Int}
    (hs : ∀ k, spec_l8Faces.l0 (k + 6) l n i = (spec_l1Three.f x y z).bind fun t => if t = true then spec_l8Faces.l0 k l (wrap64 (n + 1)) (wrap64 (i + 1)) else spec_l8Faces.l0 k l n (wrap64 (i + 1)))
    (h : Ev (fun k => spec_l8Faces.l0 k l (n + one (tri x y z)) (wrap64 (i + 1))) r) : Ev (fun k => spec_l8Faces.l0 k l n i) r := by
  refine ev_step (ev_step (ev_step (ev_step (ev_step (ev_step ?_)))))
  have e : (fun k => spec_l8Faces.l0 (k + 1 + 1 + 1 + 1 + 1 + 1) l n i) = fun k => (spec_l1Three.f x y z).bind fun t => if t = true then spec_l8Faces.l0 k l (wrap64 (n + 1)) (wrap64 (i + 1)) else spec_l8Faces.l0 k l n (wrap64 (i + 1)) := funext hs
  rw [e, three_ev hx hy hz]
  simp only [Option.bind_some]
  cases t : tri x y z with
  | true => rw [t, one_true] at h; rw [w64 (x := n + 1) (by omega)]; exact ev_pos rfl h
  | false => rw [t, one_false, Int.add_zero] at h; exact ev_neg (by decide) h
theorem spec_faces_ev {a b c d e f : Int} (ha : 1 ≤ a ∧ a ≤ 12) (hb : 1 ≤ b ∧ b ≤ 12) (hc : 1 ≤ c ∧ c ≤ 12) (hd : 1 ≤ d ∧ d ≤ 12) (he : 1 ≤ e ∧ e ≤ 12) (hf : 1 ≤ f ∧ f ≤ 12) :
    Ev (fun k => spec_l8Faces.f k [a, b, c, d, e, f]) (faces6 a b c d e f) := by
  have b1 := one_bound (tri d e f); have b2 := one_bound (tri b c f); have b3 := one_bound (tri a c e); have b4 := one_bound (tri a b d)
  unfold spec_l8Faces.f
  refine spec_face hd he hf (by omega) (fun k => by kernel_rfl) ?_
  rw [show wrap64 (0 + 1) = 1 from by decide +kernel]
  refine spec_face hb hc hf (by omega) (fun k => by kernel_rfl) ?_
  rw [show wrap64 (1 + 1) = 2 from by decide +kernel]
  refine spec_face ha hc he (by omega) (fun k => by kernel_rfl) ?_
  rw [show wrap64 (2 + 1) = 3 from by decide +kernel]
  refine spec_face ha hb hd (by omega) (fun k => by kernel_rfl) ?_
  rw [show wrap64 (3 + 1) = 4 from by decide +kernel]
  have e0 : (0 : Int) + one (tri d e f) + one (tri b c f) + one (tri a c e) + one (tri a b d) = faces6 a b c d e f := by unfold faces6; omega
  rw [e0]
  refine ev_step ?_
  simp only [spec_l8Faces.l0]
  exact ev_neg (by decide) (ev_some _)

theorem spec_number_eq (a b c d e f : Int) : spec_l8Number.f [a, b, c, d, e, f] = some (wrap64 (number a b c d e f)) := by
  unfold spec_l8Number.f number
  have r0 : rd [a, b, c, d, e, f] 0 = a := rfl
  have r1 : rd [a, b, c, d, e, f] 1 = b := rfl
  have r2 : rd [a, b, c, d, e, f] 2 = c := rfl
  have r3 : rd [a, b, c, d, e, f] 3 = d := rfl
  have r4 : rd [a, b, c, d, e, f] 4 = e := rfl
  have r5 : rd [a, b, c, d, e, f] 5 = f := rfl
  have hl : ([a, b, c, d, e, f].length : Int) = 6 := rfl
  rw [r0, r1, r2, r3, r4, r5, hl, if_pos (by decide), if_pos (by decide), if_pos (by decide), if_pos (by decide), if_pos (by decide), if_pos (by decide)]
  simp only [w_add_l, w_add_r, w_sub_l, w_sub_r, w_mul_l, w_mul_r]

theorem spec_stands_ev {l : List Int} (h : solB l = true) : Ev (fun k => spec_l8Stands.f k l) (standsB l) := by
  unfold spec_l8Stands.f standsB
  obtain ⟨a, b, c, d, e, f, rfl, ha, hb, hc, hd, he, hf⟩ := sol_six h
  refine Ev.bind (spec_faces_ev ha hb hc hd he hf) ?_
  have e1 : facesN [a, b, c, d, e, f] = faces6 a b c d e f := rfl
  have e2 : num [a, b, c, d, e, f] = number a b c d e f := rfl
  rw [e1, e2, spec_number_eq]
  simp only [Option.bind_some]
  by_cases z : faces6 a b c d e f = 4
  · rw [decide_eq_true z, Bool.true_and]
    exact ev_pos z (ev_some _)
  · rw [decide_eq_false z, Bool.false_and]
    exact ev_neg z (ev_some _)

theorem spec_named_ev (a b c d e f : Int) (x : List Int) (hx : x ∈ perms) : Ev (fun k => spec_l8Named.f k [a, b, c, d, e, f] x) (named [a, b, c, d, e, f] x) := by
  refine Ev.of (spec_l8Named.mono _ _) (k := 30) ?_
  simp only [perms, List.mem_cons, List.not_mem_nil, or_false] at hx
  rcases hx with rfl | rfl | rfl | rfl | rfl | rfl | rfl | rfl | rfl | rfl | rfl | rfl | rfl | rfl | rfl | rfl | rfl | rfl | rfl | rfl | rfl | rfl | rfl | rfl <;> kernel_rfl

theorem less_ev (s t : List Int) (hl : s.length = t.length) (h : s.length ≤ 1048576) : Ev (fun k => spec_l8Less.f k s t) (lx s t) := by
  unfold spec_l8Less.f
  have key := ev_count (fun k i => spec_l8Less.l0 k s t (i : Int)) (fun i => lx (s.drop i) (t.drop i)) s.length ?_ ?_ 0 (by omega)
  · exact key
  · refine ev_step ?_
    simp only [spec_l8Less.l0]
    refine ev_neg (by omega) ?_
    rw [List.drop_length]
    exact ev_some _
  · intro i hi ih
    have hit : i < t.length := by omega
    refine ev_step ?_
    simp only [spec_l8Less.l0]
    rw [drop_cons hi, drop_cons hit, rd_get hi, rd_get hit, w64_succ (by omega)]
    simp only [lx]
    refine ev_pos (by omega) (ev_pos (by omega) (ev_pos (by omega) ?_))
    by_cases c : s[i] = t[i]
    · rw [if_pos c]
      exact ev_pos c ih
    · rw [if_neg c]
      exact ev_neg c (ev_some _)
theorem spec_first_ev {l : List Int} (h : l.length = 6) : Ev (fun k => spec_l8First.f k l) (firstOf l) := by
  unfold spec_l8First.f firstOf
  simp only [Option.bind_some, List.nil_append, List.length_nil, Nat.zero_add]
  refine ev_pos (by omega) ?_
  rw [← T0_zero]
  have loop2 : ∀ (a b : Nat) (r : List Int) (rest : List (List Int)), a < 4 → b < 4 →
      (∀ m : List Int, m.length = 6 → Ev (fun k => spec_l8First.l1 k l m (a : Int) ((b + 1 : Nat) : Int)) (rest.foldl (upd l) m)) →
      ∀ m : List Int, m.length = 6 → Ev (fun k => spec_l8First.l2 k l m (a : Int) (b : Int) 0) ((T2 a b 0 ++ rest).foldl (upd l) m) := by
    intro a b r rest ha hb hk
    have key := down (fun c => ∀ m : List Int, m.length = 6 → Ev (fun k => spec_l8First.l2 k l m (a : Int) (b : Int) (c : Int)) ((T2 a b c ++ rest).foldl (upd l) m)) 4 ?_ ?_ 0 (by omega)
    · exact key
    · intro m hm
      refine ev_step ?_
      simp only [spec_l8First.l2]
      refine ev_neg (by omega) ?_
      rw [T2_end, List.nil_append, w64_succ (by omega)]
      exact hk m hm
    · intro c hc ih m hm
      have e6 : wrap64 (wrap64 (wrap64 (6 - (a : Int)) - (b : Int)) - (c : Int)) = 6 - (a : Int) - (b : Int) - (c : Int) := by
        rw [w64 (x := 6 - (a : Int)) (by omega), w64 (x := 6 - (a : Int) - (b : Int)) (by omega), w64 (by omega)]
      have body : Ev (fun k => spec_l8First.j3 k l m (a : Int) (b : Int) (c : Int) (6 - (a : Int) - (b : Int) - (c : Int)) (skip a b c)) ((T2 a b c ++ rest).foldl (upd l) m) := by
        refine ev_step ?_
        simp only [spec_l8First.j3]
        rw [w64_succ (by omega), T2_step hc]
        by_cases z : skip a b c = true
        · rw [if_pos z]
          exact ev_pos z (ih m hm)
        · rw [if_neg z, List.cons_append, List.foldl_cons]
          have hp := trio_perm ha hb hc (Bool.eq_false_iff.2 z)
          have ih' := ih (upd l m (trio a b c)) (upd_length hm)
          obtain ⟨a1, a2, a3, a4, a5, a6, rfl⟩ := six_of h
          refine ev_neg z (Ev.bind (spec_named_ev _ _ _ _ _ _ _ hp) (Ev.bind (less_ev _ m (by rw [hm]; rfl) (by show 6 ≤ 1048576; decide)) ?_))
          unfold upd at ih'
          unfold upd
          by_cases y : lx (named [a1, a2, a3, a4, a5, a6] (trio a b c)) m = true
          · rw [if_pos y] at ih' ⊢
            exact ev_pos y ih'
          · rw [if_neg y] at ih' ⊢
            exact ev_neg y ih'
      refine ev_step ?_
      simp only [spec_l8First.l2]
      rw [e6]
      refine ev_pos (by omega) ?_
      by_cases c1 : (a : Int) = (b : Int)
      · have s : skip a b c = true := by obtain rfl : a = b := by omega
                                         simp [skip]
        rw [s] at body
        exact ev_pos c1 body
      · refine ev_neg c1 ?_
        by_cases c2 : (a : Int) = (c : Int)
        · have s : skip a b c = true := by obtain rfl : a = c := by omega
                                           simp [skip]
          rw [s] at body
          exact ev_pos c2 body
        · refine ev_neg c2 ?_
          have s : skip a b c = ((b : Int) == (c : Int)) := by
            have e1 : (a == b) = false := by simp; omega
            have e2 : (a == c) = false := by simp; omega
            unfold skip
            rw [e1, e2, Bool.false_or, Bool.false_or, Bool.eq_iff_iff]
            simp
            omega
          rw [s] at body
          exact body
  have loop1 : ∀ (a : Nat) (rest : List (List Int)), a < 4 →
      (∀ m : List Int, m.length = 6 → Ev (fun k => spec_l8First.l0 k l m ((a + 1 : Nat) : Int)) (rest.foldl (upd l) m)) →
      ∀ m : List Int, m.length = 6 → Ev (fun k => spec_l8First.l1 k l m (a : Int) 0) ((T1 a 0 ++ rest).foldl (upd l) m) := by
    intro a rest ha hk
    have key := down (fun b => ∀ m : List Int, m.length = 6 → Ev (fun k => spec_l8First.l1 k l m (a : Int) (b : Int)) ((T1 a b ++ rest).foldl (upd l) m)) 4 ?_ ?_ 0 (by omega)
    · exact key
    · intro m hm
      refine ev_step ?_
      simp only [spec_l8First.l1]
      refine ev_neg (by omega) ?_
      rw [T1_end, List.nil_append, w64_succ (by omega)]
      exact hk m hm
    · intro b hb ih m hm
      refine ev_step ?_
      simp only [spec_l8First.l1]
      refine ev_pos (by omega) ?_
      rw [T1_step hb, List.append_assoc]
      exact loop2 a b l (T1 a (b + 1) ++ rest) ha hb ih m hm
  have key := down (fun a => ∀ m : List Int, m.length = 6 → Ev (fun k => spec_l8First.l0 k l m (a : Int)) ((T0 a).foldl (upd l) m)) 4 ?_ ?_ 0 (by omega)
  · exact key l h
  · intro m hm
    refine ev_step ?_
    simp only [spec_l8First.l0]
    refine ev_neg (by omega) ?_
    rw [T0_end]
    exact ev_some _
  · intro a ha ih m hm
    refine ev_step ?_
    simp only [spec_l8First.l0]
    refine ev_pos (by omega) ?_
    rw [T0_step ha]
    exact loop1 a (T0 (a + 1)) ha ih m hm

theorem tmod_nat (y n : Nat) : Int.tmod (y : Int) (n : Int) = ((y % n : Nat) : Int) := by
  rw [Int.tmod_eq_emod_of_nonneg (Int.natCast_nonneg _)]; rfl
theorem tdiv_nat (y n : Nat) : Int.tdiv (y : Int) (n : Int) = ((y / n : Nat) : Int) := by
  rw [Int.tdiv_eq_ediv_of_nonneg (Int.natCast_nonneg _)]; rfl
theorem spec_l2_ev {n : Nat} (hn : 0 < n) (h3 : n ≤ 3) (all m x : Int) (r : Int × Bool) : ∀ d y pre y', pre.length + d = 6 → y < 1000000 →
    Ev (fun k => spec_SolidCount.l2 k n all m x (pre ++ dg n d y) y' 6) r → y' = ((y / n ^ d : Nat) : Int) → Ev (fun k => spec_SolidCount.l2 k n all m x pre (y : Int) ((pre.length : Nat) : Int)) r
  | 0, y, pre, y', hl, hy, h, e => by
    subst e
    unfold dg at h
    rw [List.append_nil, Nat.pow_zero, Nat.div_one] at h
    rw [show pre.length = 6 by omega]
    exact h
  | d + 1, y, pre, y', hl, hy, h, e => by
    refine ev_step ?_
    simp only [spec_SolidCount.l2]
    refine ev_pos (by omega) (ev_neg (by omega) (ev_pos (by omega) ?_))
    have hm := Nat.mod_lt y hn
    have hd : y / n ≤ y := Nat.div_le_self _ _
    obtain ⟨q1, hq1⟩ : ∃ q, q = y % n := ⟨_, rfl⟩
    obtain ⟨q2, hq2⟩ : ∃ q, q = y / n := ⟨_, rfl⟩
    have hb1 : (1 + (q1 : Int)) ≤ 100 := by omega
    have hb2 : (q2 : Int) ≤ 1000000 := by omega
    rw [tmod_nat, tdiv_nat, ← hq1, ← hq2, w64 (by omega), w64 (by omega), w64_succ (by omega), hq1, hq2]
    have := spec_l2_ev hn h3 all m x r d (y / n) (pre ++ [1 + ((y % n : Nat) : Int)]) y' (by simp; omega) (by omega) (by rw [List.append_assoc]; exact h) (by rw [e, Nat.div_div_eq_div_mul, Nat.pow_succ, Nat.mul_comm])
    rw [show (pre ++ [1 + ((y % n : Nat) : Int)]).length = pre.length + 1 by simp] at this
    exact this
theorem spec_l1_ev {n : Nat} (hn : 0 < n) (h3 : n ≤ 3) (all : Nat) (ha : all ≤ 100000) : Ev (fun k => spec_SolidCount.l1 k n all 0 0) (su all (fun x => own1 (dg n 6 x)), true) := by
  have key := ev_count (fun k i => spec_SolidCount.l1 k n all (su i (fun x => own1 (dg n 6 x))) (i : Int)) (fun _ => (su all (fun x => own1 (dg n 6 x)), true)) all ?_ ?_ 0 (by omega)
  · exact key
  · refine ev_step ?_
    simp only [spec_SolidCount.l1]
    exact ev_neg (by omega) (ev_some _)
  · intro i hi ih
    refine ev_step ?_
    simp only [spec_SolidCount.l1]
    refine ev_pos (by omega) ?_
    refine spec_l2_ev hn h3 _ _ _ _ 6 i [] _ rfl (by omega) ?_ rfl
    rw [List.nil_append]
    have h6 := dg_len n 6 i
    have hS := solB_of h6 (dg_in hn h3 6 i)
    refine ev_step ?_
    simp only [spec_SolidCount.l2]
    refine ev_neg (by omega) (Ev.bind (spec_stands_ev hS) ?_)
    have hsu : su (i + 1) (fun x => own1 (dg n 6 x)) = su i (fun x => own1 (dg n 6 x)) + own1 (dg n 6 i) := rfl
    have h0 := su_nonneg i (fun j _ => (own1_01 (dg n 6 j)).1)
    have h1 := su_le i (fun j _ => (own1_01 (dg n 6 j)).2)
    rw [hsu] at ih
    have ho : own (dg n 6 i) = (standsB (dg n 6 i) && !lx (firstOf (dg n 6 i)) (dg n 6 i)) := by unfold own; rw [own_less h6]
    unfold own1 at ih
    rw [ho] at ih
    cases c : standsB (dg n 6 i) with
    | false =>
      rw [c, Bool.false_and, if_neg (by decide), Int.add_zero] at ih
      rw [w64_succ (by omega)]
      exact ev_neg (by decide) ih
    | true =>
      rw [c, Bool.true_and] at ih
      refine ev_pos rfl (Ev.bind (spec_first_ev h6) (Ev.bind (less_ev _ _ (by rw [first_length h6, h6]) (by rw [first_length h6]; decide)) ?_))
      cases c2 : lx (firstOf (dg n 6 i)) (dg n 6 i) with
      | true =>
        rw [c2, if_neg (by decide), Int.add_zero] at ih
        rw [w64_succ (by omega)]
        exact ev_pos rfl ih
      | false =>
        rw [c2, if_pos (by decide)] at ih
        rw [w64_succ (by omega), w64 (by omega)]
        exact ev_neg (by decide) ih
theorem spec_SolidCount_ev (n : Int) : Ev (fun k => spec_SolidCount.f k n) (countA n) := by
  unfold spec_SolidCount.f countA
  have hin : spec_l6In.f n 1 3 = some (decide (1 ≤ n ∧ n ≤ 3)) := by
    unfold spec_l6In.f
    by_cases h1 : n ≥ 1
    · rw [if_pos h1]
      congr 1
      exact decide_eq_decide.2 ⟨fun h => ⟨h1, h⟩, fun h => h.2⟩
    · rw [if_neg h1, decide_eq_false (by omega)]
  refine Ev.bind (ev_of_eq hin) ?_
  by_cases c : 1 ≤ n ∧ n ≤ 3
  · rw [if_pos c]
    refine ev_pos (decide_eq_true c) ?_
    obtain ⟨m, rfl⟩ := Int.eq_ofNat_of_zero_le (show 0 ≤ n by omega)
    have hm : m = 1 ∨ m = 2 ∨ m = 3 := by omega
    rw [Int.toNat_natCast, cnt_digits (by omega)]
    have key : ∀ (i : Nat), i ≤ 6 → Ev (fun k => spec_SolidCount.l0 k m ((m ^ i : Nat) : Int) (i : Int)) (su (m ^ 6) (fun x => own1 (dg m 6 x)), true) := by
      refine down (fun i => Ev (fun k => spec_SolidCount.l0 k m ((m ^ i : Nat) : Int) (i : Int)) (su (m ^ 6) (fun x => own1 (dg m 6 x)), true)) 6 ?_ ?_
      · refine ev_step ?_
        simp only [spec_SolidCount.l0]
        refine ev_neg (by omega) (spec_l1_ev (by omega) (by omega) (m ^ 6) ?_)
        rcases hm with rfl | rfl | rfl <;> decide
      · intro i hi ih
        refine ev_step ?_
        simp only [spec_SolidCount.l0]
        refine ev_pos (by omega) ?_
        have hp : m ^ i ≤ 3 ^ 6 := Nat.le_trans (Nat.pow_le_pow_left (by omega) i) (Nat.pow_le_pow_right (by decide) (by omega))
        have e : ((m ^ i : Nat) : Int) * (m : Int) = ((m ^ (i + 1) : Nat) : Int) := by rw [Nat.pow_succ, Int.natCast_mul]
        have hq : m ^ (i + 1) ≤ 3 ^ 6 := Nat.le_trans (Nat.pow_le_pow_left (by omega) _) (Nat.pow_le_pow_right (by decide) (by omega))
        have h36 : 3 ^ 6 = 729 := rfl
        rw [e, w64_succ (by omega), w64 (by omega)]
        exact ih
    have := key 0 (by omega)
    simpa using this
  · rw [if_neg c]
    exact ev_neg (by simpa using c) (ev_some _)

theorem open_eq (l : List Int) : ∃ b, spec_l6Open.f l = some (b, 0) ∧ b.length ≤ 2000 ∧ ∀ x ∈ b, x ∈ l := by
  unfold spec_l6Open.f
  by_cases h : (l.length : Int) > 2000
  · refine ⟨l.take 2000, by rw [if_pos h, if_pos (by omega)], by simp; omega, fun x hx => List.mem_of_mem_take hx⟩
  · exact ⟨l, by rw [if_neg h], by omega, fun x hx => hx⟩
theorem u8_range {l : List Int} (h : ∀ x ∈ l, (Lit.int .u8 x).wf = true) : ∀ x ∈ l, 0 ≤ x ∧ x ≤ 255 := by
  intro x hx
  have := h x hx
  have h0 : IntKind.u8.min = 0 := rfl
  have h1 : IntKind.u8.max = 255 := rfl
  simp [Lit.wf, h0, h1] at this
  omega

/-- A draw: a number from 0 to n-1 (0 where n is less than 1), the place goes on by one. -/
theorem pick_ev (b : List Int) (p n : Int) (hp : 0 ≤ p ∧ p ≤ 1000000000) (hb : b.length ≤ 2000) (hx : ∀ x ∈ b, 0 ≤ x ∧ x ≤ 255) (hn : -1000000 ≤ n ∧ n ≤ 1000000) :
    ∃ r, Ev (fun k => spec_l6Rd_pick.f k b p n) (r, p + 1) ∧ 0 ≤ r ∧ (1 ≤ n → r < n) ∧ (n < 1 → r = 0) := by
  have e1 : wrap64 (p + 1) = p + 1 := w64 (by omega)
  have e2 : wrap64 (p + 1 - 1) = p := by rw [show p + 1 - 1 = p from by omega]; exact w64 (by omega)
  have hrd : ∀ i : Int, 0 ≤ i → i < b.length → 0 ≤ rd b i ∧ rd b i ≤ 255 := by
    intro i h0 h1
    obtain ⟨j, rfl⟩ := Int.eq_ofNat_of_zero_le h0
    rw [rd_get (by omega)]
    exact hx _ (List.getElem_mem _)
  unfold spec_l6Rd_pick.f
  rw [e1]
  by_cases h1 : n < 1
  · refine ⟨0, ev_pos h1 ?_, by omega, by omega, fun _ => rfl⟩
    refine ev_step ?_
    simp only [spec_l6Rd_pick.j0]
    exact ev_pos (by trivial) (ev_some _)
  · by_cases h2 : b.length = 0
    · refine ⟨0, ev_neg h1 ?_, by omega, by omega, fun _ => rfl⟩
      refine ev_step ?_
      simp only [spec_l6Rd_pick.j0]
      refine ev_pos ?_ (ev_some _)
      rw [h2]; rfl
    · by_cases h3 : p < b.length
      · have hr := hrd p hp.1 h3
        refine ⟨Int.tmod (wrap64 (rd b p)) n, ev_neg h1 ?_, ?_, ?_, by omega⟩
        · refine ev_step ?_
          simp only [spec_l6Rd_pick.j0, e2]
          refine ev_neg ?_ (ev_pos h3 (ev_pos hp.1 (ev_neg (by omega) (ev_some _))))
          simpa using h2
        · rw [w64 (by omega)]; exact Int.tmod_nonneg _ hr.1
        · intro _; rw [w64 (by omega)]; exact Int.tmod_lt_of_pos _ (by omega)
      · have hL : (0 : Int) < b.length := by omega
        have q0 : 0 ≤ Int.tmod p b.length := Int.tmod_nonneg _ hp.1
        have q1 : Int.tmod p b.length < b.length := Int.tmod_lt_of_pos _ hL
        have e3 : wrap64 (p * 7) = p * 7 := w64 (by omega)
        have e4 : wrap64 (p * 7 + 3) = p * 7 + 3 := w64 (by omega)
        have s0 : 0 ≤ Int.tmod (p * 7 + 3) b.length := Int.tmod_nonneg _ (by omega)
        have s1 : Int.tmod (p * 7 + 3) b.length < b.length := Int.tmod_lt_of_pos _ hL
        have hu := hrd _ q0 q1
        have hv := hrd _ s0 s1
        have hd0 : 0 ≤ Int.tdiv p b.length := Int.tdiv_nonneg hp.1 (by omega)
        have hd1 : Int.tdiv p b.length ≤ p := by
          rw [Int.tdiv_eq_ediv_of_nonneg hp.1]
          exact Int.ediv_le_self _ hp.1
        generalize hu' : rd b (Int.tmod p b.length) = u at hu
        generalize hv' : rd b (Int.tmod (p * 7 + 3) b.length) = v at hv
        generalize hd' : Int.tdiv p b.length = d at hd0 hd1
        obtain ⟨X, hX, hX0, hX1⟩ : ∃ X : Int, wrap64 (wrap64 (wrap64 (wrap64 (wrap64 u * 131) + wrap64 (wrap64 v * 1117)) + wrap64 (p * 29)) + wrap64 (wrap64 d * 53)) = X ∧ 0 ≤ X ∧ X < 4611686018427387904 := by
          refine ⟨u * 131 + v * 1117 + p * 29 + d * 53, ?_, by omega, by omega⟩
          rw [w64 (x := u) (by omega), w64 (x := u * 131) (by omega), w64 (x := v) (by omega), w64 (x := v * 1117) (by omega), w64 (x := d) (by omega), w64 (x := d * 53) (by omega), w64 (x := p * 29) (by omega),
            w64 (x := u * 131 + v * 1117) (by omega), w64 (x := u * 131 + v * 1117 + p * 29) (by omega), w64 (by omega)]
        have hY0 : 0 ≤ Int.tdiv X 64 := Int.tdiv_nonneg hX0 (by omega)
        have hY1 : Int.tdiv X 64 < 4611686018427387904 := by
          rw [Int.tdiv_eq_ediv_of_nonneg hX0]; omega
        have eY : wrap64 (Int.tdiv X 64) = Int.tdiv X 64 := w64 (by omega)
        have hz : 0 ≤ Go.bits .xor .i64 X (Int.tdiv X 64) := xor_nonneg hX0 (by omega) hY0 (by omega)
        refine ⟨Int.tmod (Go.bits .xor .i64 X (Int.tdiv X 64)) n, ev_neg h1 ?_, ?_, ?_, by omega⟩
        · refine ev_step ?_
          simp only [spec_l6Rd_pick.j0, e2, e3, e4, hu', hv', hd', hX, eY]
          refine ev_neg ?_ (ev_neg h3 (ev_neg (by omega) (ev_pos q0 (ev_pos q1 (ev_pos s0 (ev_pos s1 (ev_neg (by omega) (ev_some _))))))))
          simpa using h2
        · exact Int.tmod_nonneg _ hz
        · intro _; exact Int.tmod_lt_of_pos _ (by omega)

theorem draw_count_ev (l : List Int) (hw : ∀ x ∈ l, (Lit.int .u8 x).wf = true) : ∃ n, Ev (fun k => spec_DrawSolidCount.f k l) n := by
  unfold spec_DrawSolidCount.f
  obtain ⟨b, e0, hb, hbl⟩ := open_eq l
  have hx : ∀ x ∈ b, 0 ≤ x ∧ x ≤ 255 := fun x h => u8_range hw x (hbl x h)
  obtain ⟨r1, p1, _⟩ := pick_ev b 0 3 (by omega) hb hx (by omega)
  obtain ⟨r2, p2, _⟩ := pick_ev b (0 + 1) 12 (by omega) hb hx (by omega)
  obtain ⟨r3, p3, _⟩ := pick_ev b (0 + 1 + 1) 12 (by omega) hb hx (by omega)
  exact ⟨_, Ev.bind (ev_of_eq e0) (Ev.bind p1 (Ev.bind p2 (Ev.bind p3 (ev_some _))))⟩

theorem FnSolidCount : laws_FnSolidCount.Pure := by
  intro l _ _ hw
  refine Ev.rounds ?_
  unfold laws_FnSolidCount.f
  by_cases h : (l.length : Int) > 1048576
  · exact ev_pos h (ev_some _)
  · refine ev_neg h ?_
    obtain ⟨n, hn⟩ := draw_count_ev l hw
    refine Ev.bind hn (Ev.bind (impl_SolidCount_ev n) (Ev.bind (spec_SolidCount_ev n) (ev_neg (by simp) (ev_pos rfl ?_))))
    rcases countA_cases n with c | ⟨rfl, c⟩ | ⟨rfl, c⟩ | ⟨rfl, c⟩
    · rw [c]
      exact ev_neg (by decide) (ev_pos (by decide) (by simpa using ev_some _))
    · rw [c]
      exact ev_pos (by decide) (Ev.bind (impl_SolidCount_ev _) (ev_pos (by decide) (ev_pos (by decide) (ev_pos (by decide) (ev_some _)))))
    · rw [c]
      refine ev_pos (by decide) (Ev.bind (impl_SolidCount_ev _) (ev_pos (by decide) (ev_neg (by decide) ?_)))
      have e : countA (wrap64 (2 - 1)) = (1, true) := by
        rw [show wrap64 (2 - 1) = 1 from w64 (by omega)]
        rcases countA_cases 1 with c | ⟨_, c⟩ | ⟨h, c⟩ | ⟨h, c⟩
        · exact absurd c (by unfold countA; rw [if_pos (by decide)]; decide)
        · exact c
        · omega
        · omega
      rw [e]
      exact ev_pos (by decide) (ev_some _)
    · rw [c]
      refine ev_pos (by decide) (Ev.bind (impl_SolidCount_ev _) (ev_pos (by decide) (ev_neg (by decide) ?_)))
      have e : countA (wrap64 (3 - 1)) = (5, true) := by
        rw [show wrap64 (3 - 1) = 2 from w64 (by omega)]
        rcases countA_cases 2 with c | ⟨h, c⟩ | ⟨_, c⟩ | ⟨h, c⟩
        · exact absurd c (by unfold countA; rw [if_pos (by decide)]; decide)
        · omega
        · exact c
        · omega
      rw [e]
      exact ev_pos (by decide) (ev_some _)

end Go.Proofs.Ytfigjcnhchpobaa.Pure
