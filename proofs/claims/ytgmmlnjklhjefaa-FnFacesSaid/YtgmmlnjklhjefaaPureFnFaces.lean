/- Promise 73 of the given program: faces are at most four, are as many for the solid's first name, and are four just if the four threes of lengths are sides of a triangle (for every code that draws a solid). -/
import Derived.Test.YtgmmlnjklhjefaaPFnFacesx8
import Derived.Test.YtgmmlnjklhjefaaBase
import Derived.Test.YtgmmlnjklhjefaaSol
import Derived.Test.YtgmmlnjklhjefaaFace
import Derived.Test.YtgmmlnjklhjefaaFirst
import Derived.Test.YtgmmlnjklhjefaaInv
namespace Go.Proofs.Ytgmmlnjklhjefaa.Pure
open Go.RowKit Go.Proofs.Ytgmmlnjklhjefaa.PFnFaces Go.Proofs.YtgmmlnjklhjefaaW.PrintWords Go.Proofs.YtgmmlnjklhjefaaW.PrintLast Go.Proofs.YtgmmlnjklhjefaaW.PrintMore Go.Proofs.Ytgmmlnjklhjefaa.Base Go.Proofs.Ytgmmlnjklhjefaa.Sol Go.Proofs.Ytgmmlnjklhjefaa.Face Go.Proofs.Ytgmmlnjklhjefaa.First Go.Proofs.Ytgmmlnjklhjefaa.Inv
set_option linter.unusedVariables false
set_option linter.unusedSimpArgs false
theorem open_eq (l : List Int) : ∃ b, spec_l6Open.f l = some (b, 0) ∧ b.length ≤ 2000 ∧ ∀ x ∈ b, x ∈ l := by
  unfold spec_l6Open.f
  by_cases h : (l.length : Int) > 2000
  · refine ⟨l.take 2000, by rw [if_pos h, if_pos (by omega)], by simp; omega, fun x hx => List.mem_of_mem_take hx⟩
  · exact ⟨l, by rw [if_neg h], by omega, fun x hx => hx⟩
theorem u8_range {l : List Int} (h : ∀ x ∈ l, (Lit.int .u8 x).wf = true) : ∀ x ∈ l, 0 ≤ x ∧ x ≤ 255 := by
  intro x hx
  have := h x hx
  have h0 : IntKind.u8.min = 0 := rfl
  have h1 : IntKind.u8.max = 255 := rfl
  simp [Lit.wf, h0, h1] at this
  omega

/-- A draw: a number from 0 to n-1 (0 where n is less than 1), the place goes on by one. -/
theorem pick_ev (b : List Int) (p n : Int) (hp : 0 ≤ p ∧ p ≤ 1000000000) (hb : b.length ≤ 2000) (hx : ∀ x ∈ b, 0 ≤ x ∧ x ≤ 255) (hn : -1000000 ≤ n ∧ n ≤ 1000000) :
    ∃ r, Ev (fun k => spec_l6Rd_pick.f k b p n) (r, p + 1) ∧ 0 ≤ r ∧ (1 ≤ n → r < n) ∧ (n < 1 → r = 0) := by
  have e1 : wrap64 (p + 1) = p + 1 := w64 (by omega)
  have e2 : wrap64 (p + 1 - 1) = p := by rw [show p + 1 - 1 = p from by omega]; exact w64 (by omega)
  have hrd : ∀ i : Int, 0 ≤ i → i < b.length → 0 ≤ rd b i ∧ rd b i ≤ 255 := by
    intro i h0 h1
    obtain ⟨j, rfl⟩ := Int.eq_ofNat_of_zero_le h0
    rw [rd_get (by omega)]
    exact hx _ (List.getElem_mem _)
  unfold spec_l6Rd_pick.f
  rw [e1]
  by_cases h1 : n < 1
  · refine ⟨0, ev_pos h1 ?_, by omega, by omega, fun _ => rfl⟩
    refine ev_step ?_
    simp only [spec_l6Rd_pick.j0]
    exact ev_pos (by trivial) (ev_some _)
  · by_cases h2 : b.length = 0
    · refine ⟨0, ev_neg h1 ?_, by omega, by omega, fun _ => rfl⟩
      refine ev_step ?_
      simp only [spec_l6Rd_pick.j0]
      refine ev_pos ?_ (ev_some _)
      rw [h2]; rfl
    · by_cases h3 : p < b.length
      · have hr := hrd p hp.1 h3
        refine ⟨Int.tmod (wrap64 (rd b p)) n, ev_neg h1 ?_, ?_, ?_, by omega⟩
        · refine ev_step ?_
          simp only [spec_l6Rd_pick.j0, e2]
          refine ev_neg ?_ (ev_pos h3 (ev_pos hp.1 (ev_neg (by omega) (ev_some _))))
          simpa using h2
        · rw [w64 (by omega)]; exact Int.tmod_nonneg _ hr.1
        · intro _; rw [w64 (by omega)]; exact Int.tmod_lt_of_pos _ (by omega)
      · have hL : (0 : Int) < b.length := by omega
        have q0 : 0 ≤ Int.tmod p b.length := Int.tmod_nonneg _ hp.1
        have q1 : Int.tmod p b.length < b.length := Int.tmod_lt_of_pos _ hL
        have e3 : wrap64 (p * 7) = p * 7 := w64 (by omega)
        have e4 : wrap64 (p * 7 + 3) = p * 7 + 3 := w64 (by omega)
        have s0 : 0 ≤ Int.tmod (p * 7 + 3) b.length := Int.tmod_nonneg _ (by omega)
        have s1 : Int.tmod (p * 7 + 3) b.length < b.length := Int.tmod_lt_of_pos _ hL
        have hu := hrd _ q0 q1
        have hv := hrd _ s0 s1
        have hd0 : 0 ≤ Int.tdiv p b.length := Int.tdiv_nonneg hp.1 (by omega)
        have hd1 : Int.tdiv p b.length ≤ p := by
          rw [Int.tdiv_eq_ediv_of_nonneg hp.1]
          exact Int.ediv_le_self _ hp.1
        generalize hu' : rd b (Int.tmod p b.length) = u at hu
        generalize hv' : rd b (Int.tmod (p * 7 + 3) b.length) = v at hv
        generalize hd' : Int.tdiv p b.length = d at hd0 hd1
        obtain ⟨X, hX, hX0, hX1⟩ : ∃ X : Int, wrap64 (wrap64 (wrap64 (wrap64 (wrap64 u * 131) + wrap64 (wrap64 v * 1117)) + wrap64 (p * 29)) + wrap64 (wrap64 d * 53)) = X ∧ 0 ≤ X ∧ X < 4611686018427387904 := by
          refine ⟨u * 131 + v * 1117 + p * 29 + d * 53, ?_, by omega, by omega⟩
          rw [w64 (x := u) (by omega), w64 (x := u * 131) (by omega), w64 (x := v) (by omega), w64 (x := v * 1117) (by omega), w64 (x := d) (by omega), w64 (x := d * 53) (by omega), w64 (x := p * 29) (by omega),
            w64 (x := u * 131 + v * 1117) (by omega), w64 (x := u * 131 + v * 1117 + p * 29) (by omega), w64 (by omega)]
        have hY0 : 0 ≤ Int.tdiv X 64 := Int.tdiv_nonneg hX0 (by omega)
        have hY1 : Int.tdiv X 64 < 4611686018427387904 := by
          rw [Int.tdiv_eq_ediv_of_nonneg hX0]; omega
        have eY : wrap64 (Int.tdiv X 64) = Int.tdiv X 64 := w64 (by omega)
        have hz : 0 ≤ Go.bits .xor .i64 X (Int.tdiv X 64) := xor_nonneg hX0 (by omega) hY0 (by omega)
        refine ⟨Int.tmod (Go.bits .xor .i64 X (Int.tdiv X 64)) n, ev_neg h1 ?_, ?_, ?_, by omega⟩
        · refine ev_step ?_
          simp only [spec_l6Rd_pick.j0, e2, e3, e4, hu', hv', hd', hX, eY]
          refine ev_neg ?_ (ev_neg h3 (ev_neg (by omega) (ev_pos q0 (ev_pos q1 (ev_pos s0 (ev_pos s1 (ev_neg (by omega) (ev_some _))))))))
          simpa using h2
        · exact Int.tmod_nonneg _ hz
        · intro _; exact Int.tmod_lt_of_pos _ (by omega)

theorem l92Solid_loop (P0 : Int) (hP0 : 0 ≤ P0 ∧ P0 ≤ 100000) (b : List Int) (hb : b.length ≤ 2000) (hx : ∀ x ∈ b, 0 ≤ x ∧ x ≤ 255) (x4 : Int) (d : Nat) : ∀ (i : Nat) (x3 : List Int) (p : Int), i + d = 6 → x3.length = i → 0 ≤ p → p ≤ P0 - 10 * d →
    ∃ s q, Ev (fun k => spec_l92Solid.l0 k x3 x4 (i : Int) b p) (s, q) ∧ s.length ≤ 6 ∧ 0 ≤ q ∧ q ≤ P0 + 2 := by
  induction d with
  | zero =>
    intro i x3 p hi hl h0 h1
    obtain ⟨r, hr, hr0, hr1, _⟩ := pick_ev b p 40 (by omega) hb hx (by omega)
    by_cases c0 : r = 0
    · obtain ⟨r', hr', hr0', hr1', _⟩ := pick_ev b (p + 1) 6 (by omega) hb hx (by omega)
      refine ⟨x3.set r'.toNat 13, p + 1 + 1, ev_step ?_, by simp; omega, by omega, by omega⟩
      simp only [spec_l92Solid.l0]
      refine ev_neg (by omega) (Ev.bind hr (ev_pos c0 (Ev.bind hr' ?_)))
      exact ev_pos hr0' (ev_pos (by have := hr1' (by omega); simp only [hl]; omega) (ev_some _))
    · by_cases c1 : r = 1
      · refine ⟨x3.take 5, p + 1, ev_step ?_, by simp; omega, by omega, by omega⟩
        simp only [spec_l92Solid.l0]
        refine ev_neg (by omega) (Ev.bind hr (ev_neg c0 (ev_pos c1 (ev_pos (by omega) ?_))))
        exact ev_some _
      · refine ⟨x3, p + 1, ev_step ?_, by omega, by omega, by omega⟩
        simp only [spec_l92Solid.l0]
        exact ev_neg (by omega) (Ev.bind hr (ev_neg c0 (ev_neg c1 (ev_some _))))
  | succ d ih =>
    intro i x3 p hi hl h0 h1
    obtain ⟨r, hr, _, _, _⟩ := pick_ev b p 4 (by omega) hb hx (by omega)
    obtain ⟨r', hr', _, _, _⟩ := pick_ev b (p + 1) 4 (by omega) hb hx (by omega)
    obtain ⟨s, q, hs, hsl, hq⟩ := ih (i + 1) (x3 ++ [mn 12 (mx 1 (wrap64 (wrap64 (x4 + r) - r')))]) (p + 1 + 1) (by omega) (by simp; omega) (by omega) (by omega)
    refine ⟨s, q, ev_step ?_, hsl, hq⟩
    simp only [spec_l92Solid.l0]
    refine ev_pos (by omega) (Ev.bind hr (Ev.bind hr' (ev_pos (by omega) ?_)))
    rw [w64_succ (by omega)]
    exact hs
theorem l92Solid_any (b : List Int) (hb : b.length ≤ 2000) (hx : ∀ x ∈ b, 0 ≤ x ∧ x ≤ 255) (p : Int) (hp : 0 ≤ p ∧ p ≤ 50000) : ∃ s q, Ev (fun k => spec_l92Solid.f k b p) (s, q) ∧ s.length ≤ 6 ∧ 0 ≤ q ∧ q ≤ p + 100 := by
  obtain ⟨r, hr, _, _, _⟩ := pick_ev b p 9 (by omega) hb hx (by omega)
  obtain ⟨s, q, hs, hsl, hq⟩ := l92Solid_loop (p + 90) (by omega) b hb hx (wrap64 (2 + r)) 6 0 [] (p + 1) rfl rfl (by omega) (by omega)
  refine ⟨s, q, ?_, hsl, by omega, by omega⟩
  unfold spec_l92Solid.f
  exact Ev.bind hr hs
theorem l92Solid_ev (b : List Int) (hb : b.length ≤ 2000) (hx : ∀ x ∈ b, 0 ≤ x ∧ x ≤ 255) : ∃ s q, Ev (fun k => spec_l92Solid.f k b 0) (s, q) ∧ s.length ≤ 6 ∧ 0 ≤ q ∧ q ≤ 1000 := by
  obtain ⟨s, q, hs, hsl, h0, h1⟩ := l92Solid_any b hb hx 0 (by omega)
  exact ⟨s, q, hs, hsl, h0, by omega⟩

theorem l92Edges_ev (l : List Int) (h : ∀ x ∈ l, (Lit.int .u8 x).wf = true) : ∃ s, Ev (fun k => spec_l92Edges.f k l) s ∧ s.length ≤ 6 := by
  obtain ⟨b, hb, hbl, hbm⟩ := open_eq l
  obtain ⟨s, q, hs, hsl, _⟩ := l92Solid_ev b hbl (fun x hx => u8_range h x (hbm x hx))
  refine ⟨s, ?_, hsl⟩
  unfold spec_l92Edges.f
  rw [hb]
  simp only [Option.bind_some]
  exact Ev.bind hs (ev_some _)

theorem isRuler_ev (l : List Int) (h : l.length ≤ 1048576) : ∃ b, Ev (fun k => impl_isRuler.f k l) b ∧ (b = true ↔ (∀ i (h : i < l.length), 1 ≤ l[i] ∧ l[i] ≤ 60) ∧ 1 ≤ l.length ∧ l.length ≤ 9) := by
  unfold impl_isRuler.f
  have key := down (fun i => (∀ j (hj : j < l.length), j < i → 1 ≤ l[j] ∧ l[j] ≤ 60) → ∃ b, Ev (fun k => impl_isRuler.l0 k l l (l.length : Int) (i : Int)) b ∧ (b = true ↔ (∀ i (h : i < l.length), 1 ≤ l[i] ∧ l[i] ≤ 60) ∧ 1 ≤ l.length ∧ l.length ≤ 9)) l.length ?_ ?_ 0 (by omega)
  · exact key (fun j _ hj => by omega)
  · intro ha
    by_cases c : (l.length : Int) ≥ 1
    · refine ⟨decide ((l.length : Int) ≤ 9), ev_step ?_, ?_⟩
      · simp only [impl_isRuler.l0]
        exact ev_neg (by omega) (ev_pos c (ev_some _))
      · rw [decide_eq_true_eq]
        exact ⟨fun _ => ⟨fun i hi => ha i hi hi, by omega, by omega⟩, fun hb => by have := hb.2; omega⟩
    · refine ⟨false, ev_step ?_, fun h => (by cases h), fun hb => by have := hb.2; omega⟩
      simp only [impl_isRuler.l0]
      exact ev_neg (by omega) (ev_neg c (ev_some _))
  · intro i hi ih ha
    by_cases c1 : l[i] < 1
    · refine ⟨false, ev_step ?_, fun h => (by cases h), fun hb => by have := hb.1 i hi; omega⟩
      simp only [impl_isRuler.l0]
      rw [rd_get hi]
      exact ev_pos (by omega) (ev_pos (by omega) (ev_pos (by omega) (ev_pos c1 (ev_some _))))
    · by_cases c2 : l[i] > 60
      · refine ⟨false, ev_step ?_, fun h => (by cases h), fun hb => by have := hb.1 i hi; omega⟩
        simp only [impl_isRuler.l0]
        rw [rd_get hi]
        exact ev_pos (by omega) (ev_pos (by omega) (ev_pos (by omega) (ev_neg c1 (ev_pos c2 (ev_some _)))))
      · obtain ⟨b, hb, hb2⟩ := ih (by
          intro j hj hji
          rcases Nat.lt_or_ge j i with h1 | h1
          · exact ha j hj h1
          · obtain rfl : j = i := by omega
            exact ⟨by omega, by omega⟩)
        refine ⟨b, ev_step ?_, hb2⟩
        simp only [impl_isRuler.l0]
        rw [rd_get hi, w64_succ (by omega)]
        exact ev_pos (by omega) (ev_pos (by omega) (ev_pos (by omega) (ev_neg c1 (ev_neg c2 hb))))

theorem stick_ev {a b c : Int} (ha : 1 ≤ a ∧ a ≤ 12) (hb : 1 ≤ b ∧ b ≤ 12) (hc : 1 ≤ c ∧ c ≤ 12) : Ev (fun k => impl_StickThree.f k a b c) (tri a b c) := by
  unfold impl_StickThree.f
  obtain ⟨r, hr, h2⟩ := isRuler_ev [a, b, c] (by show 3 ≤ 1048576; decide)
  have hrt : r = true := h2.2 ⟨fun i hi => by
    have : i = 0 ∨ i = 1 ∨ i = 2 := by simp at hi; omega
    rcases this with rfl | rfl | rfl
    · show 1 ≤ a ∧ a ≤ 60; omega
    · show 1 ≤ b ∧ b ≤ 60; omega
    · show 1 ≤ c ∧ c ≤ 60; omega, by show 1 ≤ 3; decide, by show 3 ≤ 9; decide⟩
  subst hrt
  refine Ev.bind hr (ev_pos rfl ?_)
  rw [w64 (x := b + c) (by omega), w64 (x := a + c) (by omega), w64 (x := a + b) (by omega)]
  unfold tri
  by_cases h1 : a < b + c
  · rw [decide_eq_true h1, Bool.true_and]
    refine ev_pos h1 ?_
    by_cases h2 : b < a + c
    · rw [decide_eq_true h2, Bool.true_and]
      exact ev_pos h2 (ev_some _)
    · rw [decide_eq_false h2, Bool.false_and]
      exact ev_neg h2 (ev_some _)
  · rw [decide_eq_false h1, Bool.false_and]
    exact ev_neg h1 (ev_some _)

theorem impl_SolidIn_ev (l : List Int) (h : l.length ≤ 1048576) : Ev (fun k => impl_SolidIn.f k l) (solB l) := by
  unfold impl_SolidIn.f
  have := ev_count (fun k i => impl_SolidIn.l0 k l l (l.length : Int) (i : Int)) (fun i => (l.drop i).all inB && l.length == 6) l.length ?_ ?_ 0 (by omega)
  · simpa [solB] using this
  · refine ev_step ?_
    simp only [impl_SolidIn.l0]
    refine ev_neg (by omega) ?_
    have e : ((l.length : Int) == 6) = (l.length == 6) := by rw [Bool.eq_iff_iff]; simp; omega
    simpa [e] using ev_some _
  · intro i hi ih
    refine ev_step ?_
    simp only [impl_SolidIn.l0]
    refine ev_pos (by omega) (ev_pos (by omega) (ev_pos (by omega) ?_))
    rw [rd_get hi, drop_cons hi, List.all_cons]
    by_cases h1 : l[i] < 1
    · refine ev_pos h1 ?_
      have : inB l[i] = false := by unfold inB; simp; omega
      rw [this]; exact ev_some _
    · refine ev_neg h1 ?_
      by_cases h2 : l[i] > 12
      · refine ev_pos h2 ?_
        have : inB l[i] = false := by unfold inB; simp; omega
        rw [this]; exact ev_some _
      · refine ev_neg h2 ?_
        have : inB l[i] = true := by unfold inB; simp; omega
        rw [this, Bool.true_and, w64_succ (by omega)]
        exact ih

theorem faces_step {a b c : Int} (ha : 1 ≤ a ∧ a ≤ 12) (hb : 1 ≤ b ∧ b ≤ 12) (hc : 1 ≤ c ∧ c ≤ 12) {n : Int} (hn : 0 ≤ n ∧ n ≤ 100) {G : Nat → Int → Option Int} {r : Int} (h : Ev (fun k => G k (n + one (tri a b c))) r) :
    Ev (fun k => (impl_StickThree.f k a b c).bind fun t => if t = true then G k (wrap64 (n + 1)) else G k n) r := by
  refine Ev.bind (stick_ev ha hb hc) ?_
  cases z : tri a b c with
  | true => rw [z, one_true] at h; rw [w64 (by omega)]; exact ev_pos rfl h
  | false => rw [z, one_false, Int.add_zero] at h; exact ev_neg (by decide) h
theorem impl_facesOf_ev {a b c d e f : Int} (ha : 1 ≤ a ∧ a ≤ 12) (hb : 1 ≤ b ∧ b ≤ 12) (hc : 1 ≤ c ∧ c ≤ 12) (hd : 1 ≤ d ∧ d ≤ 12) (he : 1 ≤ e ∧ e ≤ 12) (hf : 1 ≤ f ∧ f ≤ 12) :
    Ev (fun k => impl_facesOf.f k [a, b, c, d, e, f]) (faces6 a b c d e f) := by
  have b1 := one_bound (tri d e f); have b2 := one_bound (tri b c f); have b3 := one_bound (tri a c e); have b4 := one_bound (tri a b d)
  unfold impl_facesOf.f
  refine ev_pos (by decide : 5 < 6) ?_
  show Ev (fun k => (impl_StickThree.f k d e f).bind fun t => if t = true then impl_facesOf.l0 k 3 [a, b, c, d, e, f] (wrap64 (0 + 1)) else impl_facesOf.l0 k 3 [a, b, c, d, e, f] 0) _
  refine faces_step (G := fun k n => impl_facesOf.l0 k 3 [a, b, c, d, e, f] n) hd he hf (by omega) ?_
  refine faces_step (G := fun k n => impl_facesOf.l0 k 2 [a, b, c, d, e, f] n) hb hc hf (by omega) ?_
  refine faces_step (G := fun k n => impl_facesOf.l0 k 1 [a, b, c, d, e, f] n) ha hc he (by omega) ?_
  refine faces_step (G := fun k n => impl_facesOf.l0 k 0 [a, b, c, d, e, f] n) ha hb hd (by omega) ?_
  have e0 : (0 : Int) + one (tri d e f) + one (tri b c f) + one (tri a c e) + one (tri a b d) = faces6 a b c d e f := by unfold faces6; omega
  rw [e0]
  exact ev_some _

theorem impl_SolidFaces_ev (l : List Int) (h : l.length ≤ 1048576) : Ev (fun k => impl_SolidFaces.f k l) (facesA l) := by
  unfold impl_SolidFaces.f facesA
  refine Ev.bind (impl_SolidIn_ev l h) ?_
  by_cases c : solB l = true
  · refine ev_pos c ?_
    rw [if_pos c]
    obtain ⟨a, b, c, d, e, f, rfl, ha, hb, hc, hd, he, hf⟩ := sol_six c
    exact Ev.bind (impl_facesOf_ev ha hb hc hd he hf) (ev_some _)
  · refine ev_neg c ?_
    rw [if_neg c]; exact ev_some _

theorem spec_l6In_eq (a b c : Int) : spec_l6In.f a b c = some (decide (b ≤ a ∧ a ≤ c)) := by
  unfold spec_l6In.f
  by_cases h : a ≥ b
  · rw [if_pos h]; simp; intro _; exact h
  · rw [if_neg h]; simp; omega
theorem spec_l8Solid_ev (l : List Int) (h : l.length ≤ 1048576) : Ev (fun k => spec_l8Solid.f k l) (solB l) := by
  unfold spec_l8Solid.f
  have := ev_count (fun k i => spec_l8Solid.l0 k l (i : Int)) (fun i => (l.drop i).all inB && l.length == 6) l.length ?_ ?_ 0 (by omega)
  · simpa [solB] using this
  · refine ev_step ?_
    simp only [spec_l8Solid.l0]
    refine ev_neg (by omega) ?_
    have e : ((l.length : Int) == 6) = (l.length == 6) := by rw [Bool.eq_iff_iff]; simp; omega
    simpa [e] using ev_some _
  · intro i hi ih
    refine ev_step ?_
    simp only [spec_l8Solid.l0]
    refine ev_pos (by omega) (ev_pos (by omega) ?_)
    rw [rd_get hi, drop_cons hi, List.all_cons, spec_l6In_eq]
    simp only [Option.bind_some]
    by_cases h1 : 1 ≤ l[i] ∧ l[i] ≤ 12
    · refine ev_pos (by simpa using h1) ?_
      have : inB l[i] = true := by unfold inB; simp; omega
      rw [this, Bool.true_and, w64_succ (by omega)]
      exact ih
    · refine ev_neg (by simpa using h1) ?_
      have : inB l[i] = false := by unfold inB; simp; omega
      rw [this]; exact ev_some _

theorem three_ev {a b c : Int} (ha : 1 ≤ a ∧ a ≤ 12) (hb : 1 ≤ b ∧ b ≤ 12) (hc : 1 ≤ c ∧ c ≤ 12) : spec_l1Three.f a b c = some (tri a b c) := by
  unfold spec_l1Three.f
  rw [w64 (x := b + c) (by omega), w64 (x := a + c) (by omega), w64 (x := a + b) (by omega)]
  unfold tri
  by_cases h1 : a < b + c
  · rw [decide_eq_true h1, Bool.true_and, if_pos h1]
    by_cases h2 : b < a + c
    · rw [decide_eq_true h2, Bool.true_and, if_pos h2]
    · rw [decide_eq_false h2, Bool.false_and, if_neg h2]
  · rw [decide_eq_false h1, Bool.false_and, if_neg h1]
theorem spec_face {x y z : Int} (hx : 1 ≤ x ∧ x ≤ 12) (hy : 1 ≤ y ∧ y ≤ 12) (hz : 1 ≤ z ∧ z ≤ 12) {l : List Int} {n i : Int} (hn : 0 ≤ n ∧ n ≤ 100) {r : Int}
    (hs : ∀ k, spec_l8Faces.l0 (k + 6) l n i = (spec_l1Three.f x y z).bind fun t => if t = true then spec_l8Faces.l0 k l (wrap64 (n + 1)) (wrap64 (i + 1)) else spec_l8Faces.l0 k l n (wrap64 (i + 1)))
    (h : Ev (fun k => spec_l8Faces.l0 k l (n + one (tri x y z)) (wrap64 (i + 1))) r) : Ev (fun k => spec_l8Faces.l0 k l n i) r := by
  refine ev_step (ev_step (ev_step (ev_step (ev_step (ev_step ?_)))))
  have e : (fun k => spec_l8Faces.l0 (k + 1 + 1 + 1 + 1 + 1 + 1) l n i) = fun k => (spec_l1Three.f x y z).bind fun t => if t = true then spec_l8Faces.l0 k l (wrap64 (n + 1)) (wrap64 (i + 1)) else spec_l8Faces.l0 k l n (wrap64 (i + 1)) := funext hs
  rw [e, three_ev hx hy hz]
  simp only [Option.bind_some]
  cases t : tri x y z with
  | true => rw [t, one_true] at h; rw [w64 (x := n + 1) (by omega)]; exact ev_pos rfl h
  | false => rw [t, one_false, Int.add_zero] at h; exact ev_neg (by decide) h
theorem spec_faces_ev {a b c d e f : Int} (ha : 1 ≤ a ∧ a ≤ 12) (hb : 1 ≤ b ∧ b ≤ 12) (hc : 1 ≤ c ∧ c ≤ 12) (hd : 1 ≤ d ∧ d ≤ 12) (he : 1 ≤ e ∧ e ≤ 12) (hf : 1 ≤ f ∧ f ≤ 12) :
    Ev (fun k => spec_l8Faces.f k [a, b, c, d, e, f]) (faces6 a b c d e f) := by
  have b1 := one_bound (tri d e f); have b2 := one_bound (tri b c f); have b3 := one_bound (tri a c e); have b4 := one_bound (tri a b d)
  unfold spec_l8Faces.f
  refine spec_face hd he hf (by omega) (fun k => by kernel_rfl) ?_
  rw [show wrap64 (0 + 1) = 1 from by decide +kernel]
  refine spec_face hb hc hf (by omega) (fun k => by kernel_rfl) ?_
  rw [show wrap64 (1 + 1) = 2 from by decide +kernel]
  refine spec_face ha hc he (by omega) (fun k => by kernel_rfl) ?_
  rw [show wrap64 (2 + 1) = 3 from by decide +kernel]
  refine spec_face ha hb hd (by omega) (fun k => by kernel_rfl) ?_
  rw [show wrap64 (3 + 1) = 4 from by decide +kernel]
  have e0 : (0 : Int) + one (tri d e f) + one (tri b c f) + one (tri a c e) + one (tri a b d) = faces6 a b c d e f := by unfold faces6; omega
  rw [e0]
  refine ev_step ?_
  simp only [spec_l8Faces.l0]
  exact ev_neg (by decide) (ev_some _)

theorem spec_SolidFaces_ev (l : List Int) (h : l.length ≤ 1048576) : Ev (fun k => spec_SolidFaces.f k l) (facesA l) := by
  unfold spec_SolidFaces.f facesA
  refine Ev.bind (spec_l8Solid_ev l h) ?_
  by_cases c : solB l = true
  · refine ev_pos c ?_
    rw [if_pos c]
    obtain ⟨a, b, c, d, e, f, rfl, ha, hb, hc, hd, he, hf⟩ := sol_six c
    exact Ev.bind (spec_faces_ev ha hb hc hd he hf) (ev_some _)
  · refine ev_neg c ?_
    rw [if_neg c]; exact ev_some _

/-- Which lists have each corner once: those of 'perms'. -/
theorem index_ev (l : List Int) (x : Int) (h : l.length ≤ 1048576) : ∃ r, Ev (fun k => slices_Index_int_int.f k l x) r ∧ (decide (r ≥ 0) = l.contains x) := by
  unfold slices_Index_int_int.f
  have := ev_count (fun k i => slices_Index_int_int.l0 k l x (l.length : Int) (i : Int)) (fun i => if (l.drop i).contains x then ((i + (l.drop i).idxOf x : Nat) : Int) else -1) l.length ?_ ?_ 0 (by omega)
  · refine ⟨_, this, ?_⟩
    simp only [List.drop_zero]
    by_cases c : l.contains x
    · rw [if_pos c, c]; simp
    · rw [if_neg c]; simp at c; simp [c]
  · refine ev_step ?_
    simp only [slices_Index_int_int.l0]
    refine ev_neg (by omega) ?_
    simpa using ev_some _
  · intro i hi ih
    refine ev_step ?_
    simp only [slices_Index_int_int.l0]
    refine ev_pos (by omega) (ev_pos (by omega) (ev_pos (by omega) ?_))
    rw [rd_get hi, drop_cons hi]
    by_cases c : x = l[i]
    · refine ev_pos c ?_
      have e1 : ∀ t : List Int, (l[i] :: t).contains x = true := fun t => by simp [c]
      have e2 : ∀ t : List Int, (l[i] :: t).idxOf x = 0 := fun t => by rw [List.idxOf_cons]; simp [c]
      rw [if_pos (e1 _), e2]
      exact ev_some _
    · refine ev_neg c ?_
      rw [w64_succ (by omega)]
      have e : ∀ t : List Int, (l[i] :: t).contains x = t.contains x := fun t => by simp [c]
      rw [e]
      by_cases c2 : (l.drop (i + 1)).contains x
      · rw [if_pos c2] at ih ⊢
        have e2 : ∀ t : List Int, (l[i] :: t).idxOf x = t.idxOf x + 1 := fun t => by
          rw [List.idxOf_cons, show (l[i] == x) = false from by simp; exact fun h => c h.symm]; rfl
        rw [e2, show i + ((l.drop (i + 1)).idxOf x + 1) = i + 1 + (l.drop (i + 1)).idxOf x from by omega]
        exact ih
      · rw [if_neg c2] at ih ⊢
        exact ih
theorem contains_ev (l : List Int) (x : Int) (h : l.length ≤ 1048576) : Ev (fun k => slices_Contains_int_int.f k l x) (l.contains x) := by
  obtain ⟨r, hr, hd⟩ := index_ev l x h
  unfold slices_Contains_int_int.f
  refine Ev.bind hr ?_
  rw [hd]
  exact ev_some _
theorem impl_isOrder_ev (l : List Int) (h : l.length ≤ 1048576) : Ev (fun k => impl_isOrder.f k l) (ordB l 0) := by
  unfold impl_isOrder.f
  refine ev_count (fun k i => impl_isOrder.l0 k l l (l.length : Int) (i : Int)) (fun i => ordB l i) l.length ?_ ?_ 0 (by omega)
  · refine ev_step ?_
    simp only [impl_isOrder.l0]
    refine ev_neg (by omega) ?_
    have e : ((l.length : Int) == 4) = (l.length == 4) := by rw [Bool.eq_iff_iff]; simp; omega
    rw [ordB_end, e]; exact ev_some _
  · intro i hi ih
    refine ev_step ?_
    simp only [impl_isOrder.l0]
    refine ev_pos (by omega) (ev_pos (by omega) (ev_pos (by omega) ?_))
    rw [rd_get hi, ordB_step hi, Int.toNat_natCast]
    by_cases h1 : l[i] < 0
    · refine ev_pos h1 ?_
      rw [if_pos (by omega)]; exact ev_some _
    · refine ev_neg h1 ?_
      by_cases h2 : l[i] > 3
      · refine ev_pos h2 ?_
        rw [if_pos (by omega)]; exact ev_some _
      · refine ev_neg h2 (ev_pos (by omega) (Ev.bind (contains_ev _ _ (by simp; omega)) ?_))
        by_cases h3 : (l.take i).contains l[i]
        · refine ev_pos h3 ?_
          rw [if_pos (Or.inr (Or.inr h3))]; exact ev_some _
        · refine ev_neg h3 ?_
          rw [if_neg (by simp only [not_or]; exact ⟨by omega, by omega, h3⟩), w64_succ (by omega)]
          exact ih

/-- Corners called otherwise, by each of the 24 orders: what both texts answer. -/
theorem impl_named_ev (a b c d e f : Int) (x : List Int) (hx : x ∈ perms) : Ev (fun k => impl_named.f k [a, b, c, d, e, f] x) (named [a, b, c, d, e, f] x) := by
  refine Ev.of (impl_named.mono _ _) (k := 30) ?_
  simp only [perms, List.mem_cons, List.not_mem_nil, or_false] at hx
  rcases hx with rfl | rfl | rfl | rfl | rfl | rfl | rfl | rfl | rfl | rfl | rfl | rfl | rfl | rfl | rfl | rfl | rfl | rfl | rfl | rfl | rfl | rfl | rfl | rfl <;> kernel_rfl

theorem compare_int_eq (a b : Int) : cmp_Compare_int.f a b = some (if a < b then -1 else if a > b then 1 else 0) := by
  unfold cmp_Compare_int.f cmp_isNaN_int.f
  have : ∀ x : Int, (x != x) = false := fun x => by simp
  simp only [this, Option.bind_some]
  rw [if_neg (by decide), if_neg (by decide)]
  split
  · rfl
  · split <;> rfl
theorem compare_ev (s t : List Int) (hl : s.length = t.length) (h : s.length ≤ 1048576) : ∃ n : Int, Ev (fun k => slices_Compare_int_int.f k s t) n ∧ (decide (n < 0) = lx s t) := by
  unfold slices_Compare_int_int.f
  have key := down (fun i => ∃ n : Int, Ev (fun k => slices_Compare_int_int.l0 k s t s (s.length : Int) (i : Int)) n ∧ (decide (n < 0) = lx (s.drop i) (t.drop i))) s.length ?_ ?_ 0 (by omega)
  · exact key
  · refine ⟨0, ev_step ?_, ?_⟩
    · simp only [slices_Compare_int_int.l0]
      exact ev_neg (by omega) (ev_neg (by omega) (ev_some _))
    · rw [List.drop_length]; rfl
  · intro i hi ⟨n, hn, hd⟩
    have hit : i < t.length := by omega
    rw [drop_cons hi, drop_cons hit]
    simp only [lx]
    by_cases c : s[i] = t[i]
    · refine ⟨n, ev_step ?_, by rw [if_pos c]; exact hd⟩
      simp only [slices_Compare_int_int.l0]
      rw [rd_get hi, rd_get hit, compare_int_eq, w64_succ (by omega)]
      simp only [Option.bind_some]
      exact ev_pos (by omega) (ev_pos (by omega) (ev_pos (by omega) (ev_neg (by omega) (ev_pos (by omega) (ev_pos (by rw [if_neg (by omega), if_neg (by omega)]) hn)))))
    · rcases Int.lt_or_gt_of_ne c with d | d
      · refine ⟨-1, ev_step ?_, by rw [if_neg c, decide_eq_true d]; rfl⟩
        simp only [slices_Compare_int_int.l0]
        rw [rd_get hi, rd_get hit, compare_int_eq, if_pos d]
        simp only [Option.bind_some]
        exact ev_pos (by omega) (ev_pos (by omega) (ev_pos (by omega) (ev_neg (by omega) (ev_pos (by omega) (ev_neg (by decide) (ev_some _))))))
      · refine ⟨1, ev_step ?_, by rw [if_neg c, decide_eq_false (p := s[i] < t[i]) (by omega)]; rfl⟩
        simp only [slices_Compare_int_int.l0]
        rw [rd_get hi, rd_get hit, compare_int_eq, if_neg (by omega), if_pos d]
        simp only [Option.bind_some]
        exact ev_pos (by omega) (ev_pos (by omega) (ev_pos (by omega) (ev_neg (by omega) (ev_pos (by omega) (ev_neg (by decide) (ev_some _))))))
theorem quad_eq {i : Nat} (h : i < 256) : [wrap64 (Int.tdiv (i : Int) 64), Int.tmod (wrap64 (Int.tdiv (i : Int) 16)) 4, Int.tmod (wrap64 (Int.tdiv (i : Int) 4)) 4, Int.tmod (i : Int) 4] = quad i := by
  have e1 : Int.tdiv (i : Int) 64 = ((i / 64 : Nat) : Int) := (Int.ofNat_tdiv i 64).symm
  have e2 : Int.tdiv (i : Int) 16 = ((i / 16 : Nat) : Int) := (Int.ofNat_tdiv i 16).symm
  have e3 : Int.tdiv (i : Int) 4 = ((i / 4 : Nat) : Int) := (Int.ofNat_tdiv i 4).symm
  have m : ∀ x : Nat, Int.tmod (x : Int) 4 = ((x % 4 : Nat) : Int) := fun x => (Int.ofNat_tmod x 4).symm
  rw [e1, e2, e3, w64 (x := ((i / 64 : Nat) : Int)) (by omega), w64 (x := ((i / 16 : Nat) : Int)) (by omega), w64 (x := ((i / 4 : Nat) : Int)) (by omega), m, m, m]
  rfl
theorem six_of {l : List Int} (h : l.length = 6) : ∃ a b c d e f, l = [a, b, c, d, e, f] := by
  match l, h with
  | [a, b, c, d, e, f], _ => exact ⟨a, b, c, d, e, f, rfl⟩
theorem impl_first_ev {l : List Int} (h : l.length = 6) : Ev (fun k => impl_firstNamed.f k l) (firstOf l) := by
  unfold impl_firstNamed.f firstOf
  rw [← from256_zero]
  have key := down (fun i => ∀ b : List Int, b.length = 6 → Ev (fun k => impl_firstNamed.l0 k l b (i : Int)) ((from256 i).foldl (upd l) b)) 256 ?_ ?_ 0 (by omega)
  · exact key l h
  · intro b hb
    refine ev_step ?_
    simp only [impl_firstNamed.l0]
    refine ev_neg (by omega) ?_
    unfold slices_Clone_int_int.f
    simp only [Option.bind_some, List.nil_append]
    rw [from256_end]
    simp only [hb]
    exact ev_some _
  · intro i hi ih b hb
    refine ev_step ?_
    simp only [impl_firstNamed.l0]
    refine ev_pos (by omega) ?_
    rw [quad_eq hi, w64_succ (by omega), from256_step hi]
    simp only [Option.bind_some]
    refine Ev.bind (impl_isOrder_ev (quad i) (by show 4 ≤ 1048576; decide)) ?_
    by_cases c : perms.contains (quad i) = true
    · have hp : quad i ∈ perms := List.contains_iff_mem.1 c
      rw [if_pos c, List.foldl_cons]
      obtain ⟨a1, a2, a3, a4, a5, a6, rfl⟩ := six_of h
      obtain ⟨n, hn, hd⟩ := compare_ev (named [a1, a2, a3, a4, a5, a6] (quad i)) b (by rw [hb]; rfl) (by show 6 ≤ 1048576; decide)
      refine ev_pos ((ordB_iff _).2 hp) (Ev.bind (impl_named_ev _ _ _ _ _ _ _ hp) (Ev.bind hn ?_))
      have ih' := ih (upd [a1, a2, a3, a4, a5, a6] b (quad i)) (upd_length hb)
      unfold upd at ih'
      unfold upd
      by_cases z : lx (named [a1, a2, a3, a4, a5, a6] (quad i)) b = true
      · rw [if_pos z] at ih' ⊢
        rw [z] at hd
        exact ev_pos (of_decide_eq_true hd) ih'
      · rw [if_neg z] at ih' ⊢
        rw [Bool.eq_false_iff.2 z] at hd
        exact ev_neg (of_decide_eq_false hd) ih'
    · rw [if_neg c]
      refine ev_neg (fun hc => c (List.contains_iff_mem.2 ((ordB_iff _).1 hc))) ?_
      exact ih b hb
def firstA (l : List Int) : List Int × Bool := if solB l = true then (firstOf l, true) else ([], false)
theorem sol_len {l : List Int} (h : solB l = true) : l.length = 6 := by
  obtain ⟨a, b, c, d, e, f, rfl, _⟩ := sol_six h
  rfl
theorem firstA_len (l : List Int) : (firstA l).1.length ≤ 6 := by
  unfold firstA
  by_cases c : solB l = true
  · rw [if_pos c]; dsimp only; rw [first_length (sol_len c)]; decide
  · rw [if_neg c]; exact Nat.zero_le _

theorem impl_SolidFirst_ev (l : List Int) (h : l.length ≤ 1048576) : Ev (fun k => impl_SolidFirst.f k l) (firstA l) := by
  unfold impl_SolidFirst.f firstA
  refine Ev.bind (impl_SolidIn_ev l h) ?_
  by_cases c : solB l = true
  · rw [if_pos c]
    exact ev_pos c (Ev.bind (impl_first_ev (sol_len c)) (ev_some _))
  · rw [if_neg c]
    exact ev_neg c (ev_some _)

theorem FnFaces : laws_FnFaces.Pure := by
  intro l _ _ hw
  refine Ev.rounds ?_
  unfold laws_FnFaces.f
  by_cases h : (l.length : Int) > 1048576
  · exact ev_pos h (ev_some _)
  · refine ev_neg h ?_
    obtain ⟨s, hs, hl⟩ := l92Edges_ev l hw
    refine Ev.bind (a := s) (by unfold spec_DrawSolidFaces.f; exact Ev.bind hs (ev_some _)) ?_
    refine Ev.bind (impl_SolidFaces_ev s (by omega)) (Ev.bind (spec_SolidFaces_ev s (by omega)) (ev_pos ⟨rfl, rfl⟩ ?_))
    by_cases c : solB s = true
    · obtain ⟨a, b, c', d, e, f, rfl, ha, hb, hc, hd, he, hf⟩ := sol_six c
      have h6 : ([a, b, c', d, e, f] : List Int).length = 6 := rfl
      obtain ⟨x, hx, ex⟩ := first_named h6
      have c1 : solB (firstOf [a, b, c', d, e, f]) = true := by rw [ex]; exact named_sol c hx
      have fn : facesN (firstOf [a, b, c', d, e, f]) = facesN [a, b, c', d, e, f] := by rw [ex, faces_named h6 hx]
      have hfl := first_length h6
      have e0 : facesA [a, b, c', d, e, f] = (faces6 a b c' d e f, true) := by unfold facesA; rw [if_pos c]; rfl
      have e1 : firstA [a, b, c', d, e, f] = (firstOf [a, b, c', d, e, f], true) := by unfold firstA; rw [if_pos c]
      have i1 := impl_SolidFirst_ev [a, b, c', d, e, f] (by rw [h6]; decide)
      rw [e1] at i1
      clear e1 ex hx
      generalize firstOf [a, b, c', d, e, f] = g at c1 fn hfl i1
      have e2 : facesA g = (faces6 a b c' d e f, true) := by
        unfold facesA; rw [if_pos c1, fn]; rfl
      have i2 := impl_SolidFaces_ev g (by rw [hfl]; decide)
      rw [e2] at i2
      rw [e0]
      have bd := faces_bound a b c' d e f
      have f4 := faces_four a b c' d e f
      refine ev_pos rfl (Ev.bind i1 (Ev.bind i2 ?_))
      refine Ev.bind (stick_ev ha hb hd) (Ev.bind (stick_ev ha hc he) (Ev.bind (stick_ev hb hc hf) (Ev.bind (stick_ev hd he hf) (ev_pos ⟨by rw [h6]; decide, rfl, rfl, rfl, ?_, bd.1, bd.2⟩ (ev_some _)))))
      show decide (faces6 a b c' d e f = 4) = _
      rw [Bool.eq_iff_iff, decide_eq_true_eq, f4]
      simp only [Bool.and_eq_true]
      constructor
      · rintro ⟨h1, h2, h3, h4⟩; exact ⟨⟨⟨h4, h3⟩, h2⟩, h1⟩
      · rintro ⟨⟨⟨h4, h3⟩, h2⟩, h1⟩; exact ⟨h1, h2, h3, h4⟩
    · have e0 : facesA s = (0, false) := by unfold facesA; rw [if_neg c]
      rw [e0]
      exact ev_neg (by simp) (ev_some _)

end Go.Proofs.Ytgmmlnjklhjefaa.Pure
