/- The given program's SolidLeast answers as the reference's does, for every list and every number (no condition beyond the row's own). -/
import Derived.Test.YtbjmgcdhfoelkaaPFnExactSolidLeastx5
import Derived.Test.YtbjmgcdhfoelkaaBase
import Derived.Test.YtbjmgcdhfoelkaaSol
import Derived.Test.YtbjmgcdhfoelkaaFace
import Derived.Test.YtbjmgcdhfoelkaaStand
namespace Go.Proofs.Ytbjmgcdhfoelkaa.Pure
open Go.RowKit Go.Proofs.Ytbjmgcdhfoelkaa.PFnExactSolidLeast Go.Proofs.YtbjmgcdhfoelkaaW.PrintWords Go.Proofs.YtbjmgcdhfoelkaaW.PrintLast Go.Proofs.YtbjmgcdhfoelkaaW.PrintMore Go.Proofs.Ytbjmgcdhfoelkaa.Base Go.Proofs.Ytbjmgcdhfoelkaa.Sol Go.Proofs.Ytbjmgcdhfoelkaa.Face Go.Proofs.Ytbjmgcdhfoelkaa.Stand
set_option linter.unusedVariables false
set_option linter.unusedSimpArgs false
theorem toIntS_ev (l : List Int) (h : l.length ≤ 1048576) : Ev (fun k => laws_toIntS.f k l) l := by
  unfold laws_toIntS.f
  refine ev_pos (by omega) (ev_pos (by omega) ?_)
  have key := ev_count (fun k i => laws_toIntS.l0 k l (l.take i ++ List.replicate (l.length - i) 0) (i : Int)) (fun _ => l) l.length
    (by
      refine ev_step ?_
      simp only [laws_toIntS.l0]
      refine ev_neg (by omega) ?_
      simpa using ev_some l)
    (by
      intro i hi ih
      refine ev_step ?_
      simp only [laws_toIntS.l0]
      refine ev_pos (by omega) (ev_pos (by omega) (ev_pos (by simp; omega) ?_))
      rw [w64_succ (by omega), Int.toNat_natCast, rd_get hi, set_copy hi]
      exact ih)
  have := key 0 (by omega)
  simpa using this

theorem eqIntS_self (l : List Int) (h : l.length ≤ 1048576) : Ev (fun k => laws_eqIntS.f k l l) true := by
  unfold laws_eqIntS.f
  refine ev_pos (by trivial) ?_
  refine ev_count (fun k i => laws_eqIntS.l0 k l l (i : Int)) (fun _ => true) l.length ?_ ?_ 0 (by omega)
  · refine ev_step ?_
    simp only [laws_eqIntS.l0]
    exact ev_neg (by omega) (ev_some _)
  · intro i hi ih
    refine ev_step ?_
    simp only [laws_eqIntS.l0]
    refine ev_pos (by omega) (ev_pos (by omega) (ev_pos (by omega) (ev_pos (by trivial) ?_)))
    rw [w64_succ (by omega)]
    exact ih

theorem isRuler_ev (l : List Int) (h : l.length ≤ 1048576) : ∃ b, Ev (fun k => impl_isRuler.f k l) b ∧ (b = true ↔ (∀ i (h : i < l.length), 1 ≤ l[i] ∧ l[i] ≤ 60) ∧ 1 ≤ l.length ∧ l.length ≤ 9) := by
  unfold impl_isRuler.f
  have key := down (fun i => (∀ j (hj : j < l.length), j < i → 1 ≤ l[j] ∧ l[j] ≤ 60) → ∃ b, Ev (fun k => impl_isRuler.l0 k l l (l.length : Int) (i : Int)) b ∧ (b = true ↔ (∀ i (h : i < l.length), 1 ≤ l[i] ∧ l[i] ≤ 60) ∧ 1 ≤ l.length ∧ l.length ≤ 9)) l.length ?_ ?_ 0 (by omega)
  · exact key (fun j _ hj => by omega)
  · intro ha
    by_cases c : (l.length : Int) ≥ 1
    · refine ⟨decide ((l.length : Int) ≤ 9), ev_step ?_, ?_⟩
      · simp only [impl_isRuler.l0]
        exact ev_neg (by omega) (ev_pos c (ev_some _))
      · rw [decide_eq_true_eq]
        exact ⟨fun _ => ⟨fun i hi => ha i hi hi, by omega, by omega⟩, fun hb => by have := hb.2; omega⟩
    · refine ⟨false, ev_step ?_, fun h => (by cases h), fun hb => by have := hb.2; omega⟩
      simp only [impl_isRuler.l0]
      exact ev_neg (by omega) (ev_neg c (ev_some _))
  · intro i hi ih ha
    by_cases c1 : l[i] < 1
    · refine ⟨false, ev_step ?_, fun h => (by cases h), fun hb => by have := hb.1 i hi; omega⟩
      simp only [impl_isRuler.l0]
      rw [rd_get hi]
      exact ev_pos (by omega) (ev_pos (by omega) (ev_pos (by omega) (ev_pos c1 (ev_some _))))
    · by_cases c2 : l[i] > 60
      · refine ⟨false, ev_step ?_, fun h => (by cases h), fun hb => by have := hb.1 i hi; omega⟩
        simp only [impl_isRuler.l0]
        rw [rd_get hi]
        exact ev_pos (by omega) (ev_pos (by omega) (ev_pos (by omega) (ev_neg c1 (ev_pos c2 (ev_some _)))))
      · obtain ⟨b, hb, hb2⟩ := ih (by
          intro j hj hji
          rcases Nat.lt_or_ge j i with h1 | h1
          · exact ha j hj h1
          · obtain rfl : j = i := by omega
            exact ⟨by omega, by omega⟩)
        refine ⟨b, ev_step ?_, hb2⟩
        simp only [impl_isRuler.l0]
        rw [rd_get hi, w64_succ (by omega)]
        exact ev_pos (by omega) (ev_pos (by omega) (ev_pos (by omega) (ev_neg c1 (ev_neg c2 hb))))

theorem stick_ev {a b c : Int} (ha : 1 ≤ a ∧ a ≤ 12) (hb : 1 ≤ b ∧ b ≤ 12) (hc : 1 ≤ c ∧ c ≤ 12) : Ev (fun k => impl_StickThree.f k a b c) (tri a b c) := by
  unfold impl_StickThree.f
  obtain ⟨r, hr, h2⟩ := isRuler_ev [a, b, c] (by show 3 ≤ 1048576; decide)
  have hrt : r = true := h2.2 ⟨fun i hi => by
    have : i = 0 ∨ i = 1 ∨ i = 2 := by simp at hi; omega
    rcases this with rfl | rfl | rfl
    · show 1 ≤ a ∧ a ≤ 60; omega
    · show 1 ≤ b ∧ b ≤ 60; omega
    · show 1 ≤ c ∧ c ≤ 60; omega, by show 1 ≤ 3; decide, by show 3 ≤ 9; decide⟩
  subst hrt
  refine Ev.bind hr (ev_pos rfl ?_)
  rw [w64 (x := b + c) (by omega), w64 (x := a + c) (by omega), w64 (x := a + b) (by omega)]
  unfold tri
  by_cases h1 : a < b + c
  · rw [decide_eq_true h1, Bool.true_and]
    refine ev_pos h1 ?_
    by_cases h2 : b < a + c
    · rw [decide_eq_true h2, Bool.true_and]
      exact ev_pos h2 (ev_some _)
    · rw [decide_eq_false h2, Bool.false_and]
      exact ev_neg h2 (ev_some _)
  · rw [decide_eq_false h1, Bool.false_and]
    exact ev_neg h1 (ev_some _)

theorem impl_SolidIn_ev (l : List Int) (h : l.length ≤ 1048576) : Ev (fun k => impl_SolidIn.f k l) (solB l) := by
  unfold impl_SolidIn.f
  have := ev_count (fun k i => impl_SolidIn.l0 k l l (l.length : Int) (i : Int)) (fun i => (l.drop i).all inB && l.length == 6) l.length ?_ ?_ 0 (by omega)
  · simpa [solB] using this
  · refine ev_step ?_
    simp only [impl_SolidIn.l0]
    refine ev_neg (by omega) ?_
    have e : ((l.length : Int) == 6) = (l.length == 6) := by rw [Bool.eq_iff_iff]; simp; omega
    simpa [e] using ev_some _
  · intro i hi ih
    refine ev_step ?_
    simp only [impl_SolidIn.l0]
    refine ev_pos (by omega) (ev_pos (by omega) (ev_pos (by omega) ?_))
    rw [rd_get hi, drop_cons hi, List.all_cons]
    by_cases h1 : l[i] < 1
    · refine ev_pos h1 ?_
      have : inB l[i] = false := by unfold inB; simp; omega
      rw [this]; exact ev_some _
    · refine ev_neg h1 ?_
      by_cases h2 : l[i] > 12
      · refine ev_pos h2 ?_
        have : inB l[i] = false := by unfold inB; simp; omega
        rw [this]; exact ev_some _
      · refine ev_neg h2 ?_
        have : inB l[i] = true := by unfold inB; simp; omega
        rw [this, Bool.true_and, w64_succ (by omega)]
        exact ih

theorem faces_step {a b c : Int} (ha : 1 ≤ a ∧ a ≤ 12) (hb : 1 ≤ b ∧ b ≤ 12) (hc : 1 ≤ c ∧ c ≤ 12) {n : Int} (hn : 0 ≤ n ∧ n ≤ 100) {G : Nat → Int → Option Int} {r : Int} (h : Ev (fun k => G k (n + one (tri a b c))) r) :
    Ev (fun k => (impl_StickThree.f k a b c).bind fun t => if t = true then G k (wrap64 (n + 1)) else G k n) r := by
  refine Ev.bind (stick_ev ha hb hc) ?_
  cases z : tri a b c with
  | true => rw [z, one_true] at h; rw [w64 (by omega)]; exact ev_pos rfl h
  | false => rw [z, one_false, Int.add_zero] at h; exact ev_neg (by decide) h
theorem impl_facesOf_ev {a b c d e f : Int} (ha : 1 ≤ a ∧ a ≤ 12) (hb : 1 ≤ b ∧ b ≤ 12) (hc : 1 ≤ c ∧ c ≤ 12) (hd : 1 ≤ d ∧ d ≤ 12) (he : 1 ≤ e ∧ e ≤ 12) (hf : 1 ≤ f ∧ f ≤ 12) :
    Ev (fun k => impl_facesOf.f k [a, b, c, d, e, f]) (faces6 a b c d e f) := by
  have b1 := one_bound (tri d e f); have b2 := one_bound (tri b c f); have b3 := one_bound (tri a c e); have b4 := one_bound (tri a b d)
  unfold impl_facesOf.f
  refine ev_pos (by decide : 5 < 6) ?_
  show Ev (fun k => (impl_StickThree.f k d e f).bind fun t => if t = true then impl_facesOf.l0 k 3 [a, b, c, d, e, f] (wrap64 (0 + 1)) else impl_facesOf.l0 k 3 [a, b, c, d, e, f] 0) _
  refine faces_step (G := fun k n => impl_facesOf.l0 k 3 [a, b, c, d, e, f] n) hd he hf (by omega) ?_
  refine faces_step (G := fun k n => impl_facesOf.l0 k 2 [a, b, c, d, e, f] n) hb hc hf (by omega) ?_
  refine faces_step (G := fun k n => impl_facesOf.l0 k 1 [a, b, c, d, e, f] n) ha hc he (by omega) ?_
  refine faces_step (G := fun k n => impl_facesOf.l0 k 0 [a, b, c, d, e, f] n) ha hb hd (by omega) ?_
  have e0 : (0 : Int) + one (tri d e f) + one (tri b c f) + one (tri a c e) + one (tri a b d) = faces6 a b c d e f := by unfold faces6; omega
  rw [e0]
  exact ev_some _

theorem spec_number_eq (a b c d e f : Int) : spec_l8Number.f [a, b, c, d, e, f] = some (wrap64 (number a b c d e f)) := by
  unfold spec_l8Number.f number
  have r0 : rd [a, b, c, d, e, f] 0 = a := rfl
  have r1 : rd [a, b, c, d, e, f] 1 = b := rfl
  have r2 : rd [a, b, c, d, e, f] 2 = c := rfl
  have r3 : rd [a, b, c, d, e, f] 3 = d := rfl
  have r4 : rd [a, b, c, d, e, f] 4 = e := rfl
  have r5 : rd [a, b, c, d, e, f] 5 = f := rfl
  have hl : ([a, b, c, d, e, f].length : Int) = 6 := rfl
  rw [r0, r1, r2, r3, r4, r5, hl, if_pos (by decide), if_pos (by decide), if_pos (by decide), if_pos (by decide), if_pos (by decide), if_pos (by decide)]
  simp only [w_add_l, w_add_r, w_sub_l, w_sub_r, w_mul_l, w_mul_r]
theorem impl_number_eq (a b c d e f : Int) : impl_numberOf.f [a, b, c, d, e, f] = some (wrap64 (number a b c d e f)) := by
  unfold impl_numberOf.f number
  have r0 : rd [a, b, c, d, e, f] 0 = a := rfl
  have r1 : rd [a, b, c, d, e, f] 1 = b := rfl
  have r2 : rd [a, b, c, d, e, f] 2 = c := rfl
  have r3 : rd [a, b, c, d, e, f] 3 = d := rfl
  have r4 : rd [a, b, c, d, e, f] 4 = e := rfl
  have r5 : rd [a, b, c, d, e, f] 5 = f := rfl
  have hl : ([a, b, c, d, e, f].length : Int) = 6 := rfl
  rw [r0, r1, r2, r3, r4, r5, hl, if_pos (by decide), if_pos (by decide), if_pos (by decide), if_pos (by decide), if_pos (by decide), if_pos (by decide)]
  simp only [w_add_l, w_add_r, w_sub_l, w_sub_r, w_mul_l, w_mul_r]
/-- The number as both texts answer it. -/
def numA (l : List Int) : Int × Bool := if solB l then (wrap64 (num l), true) else (0, false)
theorem numA_six {a b c d e f : Int} (h : solB [a, b, c, d, e, f] = true) : numA [a, b, c, d, e, f] = (wrap64 (number a b c d e f), true) := by
  unfold numA; rw [if_pos h]; rfl

theorem impl_stands_ev {l : List Int} (h : solB l = true) : Ev (fun k => impl_stands.f k l) (standsB l) := by
  unfold impl_stands.f standsB
  obtain ⟨a, b, c, d, e, f, rfl, ha, hb, hc, hd, he, hf⟩ := sol_six h
  refine Ev.bind (impl_facesOf_ev ha hb hc hd he hf) ?_
  have e1 : facesN [a, b, c, d, e, f] = faces6 a b c d e f := rfl
  have e2 : num [a, b, c, d, e, f] = number a b c d e f := rfl
  rw [e1, e2, impl_number_eq]
  simp only [Option.bind_some]
  by_cases z : faces6 a b c d e f = 4
  · rw [decide_eq_true z, Bool.true_and]
    exact ev_pos z (ev_some _)
  · rw [decide_eq_false z, Bool.false_and]
    exact ev_neg z (ev_some _)

theorem impl_least_loop {l : List Int} (h : solB l = true) {p : Nat} (hp : p < 6) (hl : l.length = 6) : ∀ (n : Nat) (x y : Int) (m : List Int), n ≤ 12 → (∀ t, m.set p t = l.set p t) → m.length = 6 →
    Ev (fun k => impl_SolidLeast.l0 k (p : Int) x y m (13 - (n : Int))) (leastF l p n x y) := by
  intro n
  induction n with
  | zero =>
    intro x y m _ _ _
    refine ev_step ?_
    simp only [impl_SolidLeast.l0]
    exact ev_neg (by omega) (ev_some _)
  | succ n ih =>
    intro x y m hn hm hml
    have e1 : (13 : Int) - ((n + 1 : Nat) : Int) = 12 - (n : Int) := by omega
    have e2 : wrap64 (12 - (n : Int) + 1) = 13 - (n : Int) := by rw [w64 (by omega)]; omega
    refine ev_step ?_
    simp only [impl_SolidLeast.l0]
    rw [e1, e2, Int.toNat_natCast, hm]
    refine ev_pos (by omega) (ev_pos (by omega) (ev_pos (by omega) ?_))
    simp only [Option.bind_some]
    refine Ev.bind (impl_stands_ev (set_solB h p (by omega))) ?_
    have hm2 : ∀ t, (l.set p (12 - (n : Int))).set p t = l.set p t := fun t => List.set_set _
    have hl2 : (l.set p (12 - (n : Int))).length = 6 := by rw [List.length_set]; exact hl
    simp only [leastF]
    by_cases c : standsB (l.set p (12 - (n : Int))) = true
    · rw [if_pos c]
      refine ev_pos c ?_
      by_cases z : x = 0
      · rw [if_pos z]
        exact ev_pos z (ih _ _ _ (by omega) hm2 hl2)
      · rw [if_neg z]
        exact ev_neg z (ih _ _ _ (by omega) hm2 hl2)
    · rw [if_neg c]
      exact ev_neg c (ih _ _ _ (by omega) hm2 hl2)
theorem impl_SolidLeast_ev (l : List Int) (p : Int) (h : l.length ≤ 1048576) : Ev (fun k => impl_SolidLeast.f k l p) (leastA l p) := by
  unfold impl_SolidLeast.f leastA
  refine Ev.bind (impl_SolidIn_ev l h) ?_
  by_cases c : solB l = true
  · refine ev_pos c ?_
    have hl : l.length = 6 := by obtain ⟨a, b, c, d, e, f, rfl, _⟩ := sol_six c; rfl
    by_cases c1 : p < 0
    · rw [if_neg (by omega)]
      refine ev_pos c1 (ev_step ?_)
      simp only [impl_SolidLeast.j0]
      exact ev_pos (by trivial) (ev_some _)
    · refine ev_neg c1 (ev_step ?_)
      simp only [impl_SolidLeast.j0]
      by_cases c2 : p > 5
      · rw [if_neg (by omega)]
        exact ev_pos (by simpa using c2) (ev_some _)
      · rw [if_pos ⟨c, by omega, by omega⟩]
        refine ev_neg (by simpa using c2) ?_
        obtain ⟨q, rfl⟩ := Int.eq_ofNat_of_zero_le (show 0 ≤ p by omega)
        unfold slices_Clone_int_int.f
        simp only [Option.bind_some, List.nil_append, List.length_nil, Nat.zero_add, hl]
        rw [Int.toNat_natCast]
        exact impl_least_loop c (by omega) hl 12 0 0 l (by decide) (fun _ => rfl) hl
  · rw [if_neg (fun hh => c hh.1)]
    refine ev_neg c (ev_step ?_)
    simp only [impl_SolidLeast.j0]
    exact ev_pos (by trivial) (ev_some _)

theorem spec_l6In_eq (a b c : Int) : spec_l6In.f a b c = some (decide (b ≤ a ∧ a ≤ c)) := by
  unfold spec_l6In.f
  by_cases h : a ≥ b
  · rw [if_pos h]; simp; intro _; exact h
  · rw [if_neg h]; simp; omega
theorem spec_l8Solid_ev (l : List Int) (h : l.length ≤ 1048576) : Ev (fun k => spec_l8Solid.f k l) (solB l) := by
  unfold spec_l8Solid.f
  have := ev_count (fun k i => spec_l8Solid.l0 k l (i : Int)) (fun i => (l.drop i).all inB && l.length == 6) l.length ?_ ?_ 0 (by omega)
  · simpa [solB] using this
  · refine ev_step ?_
    simp only [spec_l8Solid.l0]
    refine ev_neg (by omega) ?_
    have e : ((l.length : Int) == 6) = (l.length == 6) := by rw [Bool.eq_iff_iff]; simp; omega
    simpa [e] using ev_some _
  · intro i hi ih
    refine ev_step ?_
    simp only [spec_l8Solid.l0]
    refine ev_pos (by omega) (ev_pos (by omega) ?_)
    rw [rd_get hi, drop_cons hi, List.all_cons, spec_l6In_eq]
    simp only [Option.bind_some]
    by_cases h1 : 1 ≤ l[i] ∧ l[i] ≤ 12
    · refine ev_pos (by simpa using h1) ?_
      have : inB l[i] = true := by unfold inB; simp; omega
      rw [this, Bool.true_and, w64_succ (by omega)]
      exact ih
    · refine ev_neg (by simpa using h1) ?_
      have : inB l[i] = false := by unfold inB; simp; omega
      rw [this]; exact ev_some _

theorem three_ev {a b c : Int} (ha : 1 ≤ a ∧ a ≤ 12) (hb : 1 ≤ b ∧ b ≤ 12) (hc : 1 ≤ c ∧ c ≤ 12) : spec_l1Three.f a b c = some (tri a b c) := by
  unfold spec_l1Three.f
  rw [w64 (x := b + c) (by omega), w64 (x := a + c) (by omega), w64 (x := a + b) (by omega)]
  unfold tri
  by_cases h1 : a < b + c
  · rw [decide_eq_true h1, Bool.true_and, if_pos h1]
    by_cases h2 : b < a + c
    · rw [decide_eq_true h2, Bool.true_and, if_pos h2]
    · rw [decide_eq_false h2, Bool.false_and, if_neg h2]
  · rw [decide_eq_false h1, Bool.false_and, if_neg h1]
theorem spec_face {x y z : Int} (hx : 1 ≤ x ∧ x ≤ 12) (hy : 1 ≤ y ∧ y ≤ 12) (hz : 1 ≤ z ∧ z ≤ 12) {l : List Int} {n i : Int} (hn : 0 ≤ n ∧ n ≤ 100) {r : Int}
    (hs : ∀ k, spec_l8Faces.l0 (k + 6) l n i = (spec_l1Three.f x y z).bind fun t => if t = true then spec_l8Faces.l0 k l (wrap64 (n + 1)) (wrap64 (i + 1)) else spec_l8Faces.l0 k l n (wrap64 (i + 1)))
    (h : Ev (fun k => spec_l8Faces.l0 k l (n + one (tri x y z)) (wrap64 (i + 1))) r) : Ev (fun k => spec_l8Faces.l0 k l n i) r := by
  refine ev_step (ev_step (ev_step (ev_step (ev_step (ev_step ?_)))))
  have e : (fun k => spec_l8Faces.l0 (k + 1 + 1 + 1 + 1 + 1 + 1) l n i) = fun k => (spec_l1Three.f x y z).bind fun t => if t = true then spec_l8Faces.l0 k l (wrap64 (n + 1)) (wrap64 (i + 1)) else spec_l8Faces.l0 k l n (wrap64 (i + 1)) := funext hs
  rw [e, three_ev hx hy hz]
  simp only [Option.bind_some]
  cases t : tri x y z with
  | true => rw [t, one_true] at h; rw [w64 (x := n + 1) (by omega)]; exact ev_pos rfl h
  | false => rw [t, one_false, Int.add_zero] at h; exact ev_neg (by decide) h
theorem spec_faces_ev {a b c d e f : Int} (ha : 1 ≤ a ∧ a ≤ 12) (hb : 1 ≤ b ∧ b ≤ 12) (hc : 1 ≤ c ∧ c ≤ 12) (hd : 1 ≤ d ∧ d ≤ 12) (he : 1 ≤ e ∧ e ≤ 12) (hf : 1 ≤ f ∧ f ≤ 12) :
    Ev (fun k => spec_l8Faces.f k [a, b, c, d, e, f]) (faces6 a b c d e f) := by
  have b1 := one_bound (tri d e f); have b2 := one_bound (tri b c f); have b3 := one_bound (tri a c e); have b4 := one_bound (tri a b d)
  unfold spec_l8Faces.f
  refine spec_face hd he hf (by omega) (fun k => by kernel_rfl) ?_
  rw [show wrap64 (0 + 1) = 1 from by decide +kernel]
  refine spec_face hb hc hf (by omega) (fun k => by kernel_rfl) ?_
  rw [show wrap64 (1 + 1) = 2 from by decide +kernel]
  refine spec_face ha hc he (by omega) (fun k => by kernel_rfl) ?_
  rw [show wrap64 (2 + 1) = 3 from by decide +kernel]
  refine spec_face ha hb hd (by omega) (fun k => by kernel_rfl) ?_
  rw [show wrap64 (3 + 1) = 4 from by decide +kernel]
  have e0 : (0 : Int) + one (tri d e f) + one (tri b c f) + one (tri a c e) + one (tri a b d) = faces6 a b c d e f := by unfold faces6; omega
  rw [e0]
  refine ev_step ?_
  simp only [spec_l8Faces.l0]
  exact ev_neg (by decide) (ev_some _)

theorem spec_stands_ev {l : List Int} (h : solB l = true) : Ev (fun k => spec_l8Stands.f k l) (standsB l) := by
  unfold spec_l8Stands.f standsB
  obtain ⟨a, b, c, d, e, f, rfl, ha, hb, hc, hd, he, hf⟩ := sol_six h
  refine Ev.bind (spec_faces_ev ha hb hc hd he hf) ?_
  have e1 : facesN [a, b, c, d, e, f] = faces6 a b c d e f := rfl
  have e2 : num [a, b, c, d, e, f] = number a b c d e f := rfl
  rw [e1, e2, spec_number_eq]
  simp only [Option.bind_some]
  by_cases z : faces6 a b c d e f = 4
  · rw [decide_eq_true z, Bool.true_and]
    exact ev_pos z (ev_some _)
  · rw [decide_eq_false z, Bool.false_and]
    exact ev_neg z (ev_some _)

theorem spec_least_loop {l : List Int} (h : solB l = true) {p : Nat} (hp : p < 6) (hl : l.length = 6) : ∀ (n : Nat) (x y : Int), n ≤ 12 →
    Ev (fun k => spec_SolidLeast.l0 k l (p : Int) x y (13 - (n : Int))) (leastF l p n x y) := by
  intro n
  induction n with
  | zero =>
    intro x y _
    refine ev_step ?_
    simp only [spec_SolidLeast.l0]
    exact ev_neg (by omega) (ev_some _)
  | succ n ih =>
    intro x y hn
    have e1 : (13 : Int) - ((n + 1 : Nat) : Int) = 12 - (n : Int) := by omega
    have e2 : wrap64 (12 - (n : Int) + 1) = 13 - (n : Int) := by rw [w64 (by omega)]; omega
    refine ev_step ?_
    simp only [spec_SolidLeast.l0]
    rw [e1, e2, Int.toNat_natCast]
    simp only [Option.bind_some, List.nil_append, List.length_nil, Nat.zero_add, hl]
    refine ev_pos (by omega) (ev_pos (by decide) (ev_pos (by omega) (ev_pos (by omega) ?_)))
    refine Ev.bind (spec_stands_ev (set_solB h p (by omega))) ?_
    simp only [leastF]
    by_cases c : standsB (l.set p (12 - (n : Int))) = true
    · rw [if_pos c]
      refine ev_pos c ?_
      by_cases z : x = 0
      · rw [if_pos z]
        exact ev_pos z (ih _ _ (by omega))
      · rw [if_neg z]
        exact ev_neg z (ih _ _ (by omega))
    · rw [if_neg c]
      exact ev_neg c (ih _ _ (by omega))
theorem spec_SolidLeast_ev (l : List Int) (p : Int) (h : l.length ≤ 1048576) : Ev (fun k => spec_SolidLeast.f k l p) (leastA l p) := by
  unfold spec_SolidLeast.f leastA
  refine Ev.bind (spec_l8Solid_ev l h) ?_
  by_cases c : solB l = true
  · refine ev_pos c ?_
    have hl : l.length = 6 := by obtain ⟨a, b, c, d, e, f, rfl, _⟩ := sol_six c; rfl
    rw [spec_l6In_eq]
    simp only [Option.bind_some]
    refine ev_step ?_
    simp only [spec_SolidLeast.j0]
    by_cases c2 : 0 ≤ p ∧ p ≤ 5
    · rw [if_pos ⟨c, c2.1, c2.2⟩, decide_eq_true c2]
      refine ev_neg (by decide) ?_
      obtain ⟨q, rfl⟩ := Int.eq_ofNat_of_zero_le c2.1
      rw [Int.toNat_natCast]
      exact spec_least_loop c (by omega) hl 12 0 0 (by decide)
    · rw [if_neg (fun hh => c2 hh.2), decide_eq_false c2]
      exact ev_pos (by decide) (ev_some _)
  · rw [if_neg (fun hh => c hh.1)]
    refine ev_neg c (ev_step ?_)
    simp only [spec_SolidLeast.j0]
    exact ev_pos (by trivial) (ev_some _)

theorem FnExactSolidLeast : laws_FnExactSolidLeast.Pure := by
  intro l p _ _ _ _
  refine Ev.rounds ?_
  unfold laws_FnExactSolidLeast.f
  by_cases h : (l.length : Int) > 1048576
  · exact ev_pos h (ev_some _)
  · refine ev_neg h ?_
    have hl : l.length ≤ 1048576 := by omega
    refine Ev.bind (toIntS_ev l hl) (Ev.bind (spec_SolidLeast_ev l p hl) (Ev.bind (toIntS_ev l hl) (Ev.bind (impl_SolidLeast_ev l p hl) ?_)))
    refine ev_pos (by trivial) (ev_pos (by trivial) (ev_step ?_))
    simp only [laws_FnExactSolidLeast.j0]
    refine ev_neg (by simp) (Ev.bind (toIntS_ev l hl) (Ev.bind (eqIntS_self l hl) ?_))
    exact ev_pos (by trivial) (ev_some _)

end Go.Proofs.Ytbjmgcdhfoelkaa.Pure
