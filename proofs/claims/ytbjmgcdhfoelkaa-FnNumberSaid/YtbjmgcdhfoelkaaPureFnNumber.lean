/- Promise 71 of the given program: the number of a solid is the same with its corners called 1 2 3 0 and 0 2 1 3 (for every code that draws it). -/
import Derived.Test.YtbjmgcdhfoelkaaPFnNumberx3
import Derived.Test.YtbjmgcdhfoelkaaBase
import Derived.Test.YtbjmgcdhfoelkaaSol
namespace Go.Proofs.Ytbjmgcdhfoelkaa.Pure
open Go.RowKit Go.Proofs.Ytbjmgcdhfoelkaa.PFnNumber Go.Proofs.YtbjmgcdhfoelkaaW.PrintWords Go.Proofs.YtbjmgcdhfoelkaaW.PrintLast Go.Proofs.YtbjmgcdhfoelkaaW.PrintMore Go.Proofs.Ytbjmgcdhfoelkaa.Base Go.Proofs.Ytbjmgcdhfoelkaa.Sol
theorem open_eq (l : List Int) : ∃ b, spec_l6Open.f l = some (b, 0) ∧ b.length ≤ 2000 ∧ ∀ x ∈ b, x ∈ l := by
  unfold spec_l6Open.f
  by_cases h : (l.length : Int) > 2000
  · refine ⟨l.take 2000, by rw [if_pos h, if_pos (by omega)], by simp; omega, fun x hx => List.mem_of_mem_take hx⟩
  · exact ⟨l, by rw [if_neg h], by omega, fun x hx => hx⟩
theorem u8_range {l : List Int} (h : ∀ x ∈ l, (Lit.int .u8 x).wf = true) : ∀ x ∈ l, 0 ≤ x ∧ x ≤ 255 := by
  intro x hx
  have := h x hx
  have h0 : IntKind.u8.min = 0 := rfl
  have h1 : IntKind.u8.max = 255 := rfl
  simp [Lit.wf, h0, h1] at this
  omega

/-- A draw: a number from 0 to n-1 (0 where n is less than 1), the place goes on by one. -/
theorem pick_ev (b : List Int) (p n : Int) (hp : 0 ≤ p ∧ p ≤ 1000000000) (hb : b.length ≤ 2000) (hx : ∀ x ∈ b, 0 ≤ x ∧ x ≤ 255) (hn : -1000000 ≤ n ∧ n ≤ 1000000) :
    ∃ r, Ev (fun k => spec_l6Rd_pick.f k b p n) (r, p + 1) ∧ 0 ≤ r ∧ (1 ≤ n → r < n) ∧ (n < 1 → r = 0) := by
  have e1 : wrap64 (p + 1) = p + 1 := w64 (by omega)
  have e2 : wrap64 (p + 1 - 1) = p := by rw [show p + 1 - 1 = p from by omega]; exact w64 (by omega)
  have hrd : ∀ i : Int, 0 ≤ i → i < b.length → 0 ≤ rd b i ∧ rd b i ≤ 255 := by
    intro i h0 h1
    obtain ⟨j, rfl⟩ := Int.eq_ofNat_of_zero_le h0
    rw [rd_get (by omega)]
    exact hx _ (List.getElem_mem _)
  unfold spec_l6Rd_pick.f
  rw [e1]
  by_cases h1 : n < 1
  · refine ⟨0, ev_pos h1 ?_, by omega, by omega, fun _ => rfl⟩
    refine ev_step ?_
    simp only [spec_l6Rd_pick.j0]
    exact ev_pos (by trivial) (ev_some _)
  · by_cases h2 : b.length = 0
    · refine ⟨0, ev_neg h1 ?_, by omega, by omega, fun _ => rfl⟩
      refine ev_step ?_
      simp only [spec_l6Rd_pick.j0]
      refine ev_pos ?_ (ev_some _)
      rw [h2]; rfl
    · by_cases h3 : p < b.length
      · have hr := hrd p hp.1 h3
        refine ⟨Int.tmod (wrap64 (rd b p)) n, ev_neg h1 ?_, ?_, ?_, by omega⟩
        · refine ev_step ?_
          simp only [spec_l6Rd_pick.j0, e2]
          refine ev_neg ?_ (ev_pos h3 (ev_pos hp.1 (ev_neg (by omega) (ev_some _))))
          simpa using h2
        · rw [w64 (by omega)]; exact Int.tmod_nonneg _ hr.1
        · intro _; rw [w64 (by omega)]; exact Int.tmod_lt_of_pos _ (by omega)
      · have hL : (0 : Int) < b.length := by omega
        have q0 : 0 ≤ Int.tmod p b.length := Int.tmod_nonneg _ hp.1
        have q1 : Int.tmod p b.length < b.length := Int.tmod_lt_of_pos _ hL
        have e3 : wrap64 (p * 7) = p * 7 := w64 (by omega)
        have e4 : wrap64 (p * 7 + 3) = p * 7 + 3 := w64 (by omega)
        have s0 : 0 ≤ Int.tmod (p * 7 + 3) b.length := Int.tmod_nonneg _ (by omega)
        have s1 : Int.tmod (p * 7 + 3) b.length < b.length := Int.tmod_lt_of_pos _ hL
        have hu := hrd _ q0 q1
        have hv := hrd _ s0 s1
        have hd0 : 0 ≤ Int.tdiv p b.length := Int.tdiv_nonneg hp.1 (by omega)
        have hd1 : Int.tdiv p b.length ≤ p := by
          rw [Int.tdiv_eq_ediv_of_nonneg hp.1]
          exact Int.ediv_le_self _ hp.1
        generalize hu' : rd b (Int.tmod p b.length) = u at hu
        generalize hv' : rd b (Int.tmod (p * 7 + 3) b.length) = v at hv
        generalize hd' : Int.tdiv p b.length = d at hd0 hd1
        obtain ⟨X, hX, hX0, hX1⟩ : ∃ X : Int, wrap64 (wrap64 (wrap64 (wrap64 (wrap64 u * 131) + wrap64 (wrap64 v * 1117)) + wrap64 (p * 29)) + wrap64 (wrap64 d * 53)) = X ∧ 0 ≤ X ∧ X < 4611686018427387904 := by
          refine ⟨u * 131 + v * 1117 + p * 29 + d * 53, ?_, by omega, by omega⟩
          rw [w64 (x := u) (by omega), w64 (x := u * 131) (by omega), w64 (x := v) (by omega), w64 (x := v * 1117) (by omega), w64 (x := d) (by omega), w64 (x := d * 53) (by omega), w64 (x := p * 29) (by omega),
            w64 (x := u * 131 + v * 1117) (by omega), w64 (x := u * 131 + v * 1117 + p * 29) (by omega), w64 (by omega)]
        have hY0 : 0 ≤ Int.tdiv X 64 := Int.tdiv_nonneg hX0 (by omega)
        have hY1 : Int.tdiv X 64 < 4611686018427387904 := by
          rw [Int.tdiv_eq_ediv_of_nonneg hX0]; omega
        have eY : wrap64 (Int.tdiv X 64) = Int.tdiv X 64 := w64 (by omega)
        have hz : 0 ≤ Go.bits .xor .i64 X (Int.tdiv X 64) := xor_nonneg hX0 (by omega) hY0 (by omega)
        refine ⟨Int.tmod (Go.bits .xor .i64 X (Int.tdiv X 64)) n, ev_neg h1 ?_, ?_, ?_, by omega⟩
        · refine ev_step ?_
          simp only [spec_l6Rd_pick.j0, e2, e3, e4, hu', hv', hd', hX, eY]
          refine ev_neg ?_ (ev_neg h3 (ev_neg (by omega) (ev_pos q0 (ev_pos q1 (ev_pos s0 (ev_pos s1 (ev_neg (by omega) (ev_some _))))))))
          simpa using h2
        · exact Int.tmod_nonneg _ hz
        · intro _; exact Int.tmod_lt_of_pos _ (by omega)

theorem l92Solid_loop (b : List Int) (hb : b.length ≤ 2000) (hx : ∀ x ∈ b, 0 ≤ x ∧ x ≤ 255) (x4 : Int) (d : Nat) : ∀ (i : Nat) (x3 : List Int) (p : Int), i + d = 6 → x3.length = i → 0 ≤ p → p ≤ 100 - 10 * d →
    ∃ s q, Ev (fun k => spec_l92Solid.l0 k x3 x4 (i : Int) b p) (s, q) ∧ s.length ≤ 6 ∧ 0 ≤ q ∧ q ≤ 1000 := by
  induction d with
  | zero =>
    intro i x3 p hi hl h0 h1
    obtain ⟨r, hr, hr0, hr1, _⟩ := pick_ev b p 40 (by omega) hb hx (by omega)
    by_cases c0 : r = 0
    · obtain ⟨r', hr', hr0', hr1', _⟩ := pick_ev b (p + 1) 6 (by omega) hb hx (by omega)
      refine ⟨x3.set r'.toNat 13, p + 1 + 1, ev_step ?_, by simp; omega, by omega, by omega⟩
      simp only [spec_l92Solid.l0]
      refine ev_neg (by omega) (Ev.bind hr (ev_pos c0 (Ev.bind hr' ?_)))
      exact ev_pos hr0' (ev_pos (by have := hr1' (by omega); simp only [hl]; omega) (ev_some _))
    · by_cases c1 : r = 1
      · refine ⟨x3.take 5, p + 1, ev_step ?_, by simp; omega, by omega, by omega⟩
        simp only [spec_l92Solid.l0]
        refine ev_neg (by omega) (Ev.bind hr (ev_neg c0 (ev_pos c1 (ev_pos (by omega) ?_))))
        exact ev_some _
      · refine ⟨x3, p + 1, ev_step ?_, by omega, by omega, by omega⟩
        simp only [spec_l92Solid.l0]
        exact ev_neg (by omega) (Ev.bind hr (ev_neg c0 (ev_neg c1 (ev_some _))))
  | succ d ih =>
    intro i x3 p hi hl h0 h1
    obtain ⟨r, hr, _, _, _⟩ := pick_ev b p 4 (by omega) hb hx (by omega)
    obtain ⟨r', hr', _, _, _⟩ := pick_ev b (p + 1) 4 (by omega) hb hx (by omega)
    obtain ⟨s, q, hs, hsl, hq⟩ := ih (i + 1) (x3 ++ [mn 12 (mx 1 (wrap64 (wrap64 (x4 + r) - r')))]) (p + 1 + 1) (by omega) (by simp; omega) (by omega) (by omega)
    refine ⟨s, q, ev_step ?_, hsl, hq⟩
    simp only [spec_l92Solid.l0]
    refine ev_pos (by omega) (Ev.bind hr (Ev.bind hr' (ev_pos (by omega) ?_)))
    rw [w64_succ (by omega)]
    exact hs
theorem l92Solid_ev (b : List Int) (hb : b.length ≤ 2000) (hx : ∀ x ∈ b, 0 ≤ x ∧ x ≤ 255) : ∃ s q, Ev (fun k => spec_l92Solid.f k b 0) (s, q) ∧ s.length ≤ 6 ∧ 0 ≤ q ∧ q ≤ 1000 := by
  obtain ⟨r, hr, _, _, _⟩ := pick_ev b 0 9 (by omega) hb hx (by omega)
  obtain ⟨s, q, hs, hsl, hq⟩ := l92Solid_loop b hb hx (wrap64 (2 + r)) 6 0 [] (0 + 1) rfl rfl (by omega) (by omega)
  refine ⟨s, q, ?_, hsl, hq⟩
  unfold spec_l92Solid.f
  exact Ev.bind hr hs

theorem l92Edges_ev (l : List Int) (h : ∀ x ∈ l, (Lit.int .u8 x).wf = true) : ∃ s, Ev (fun k => spec_l92Edges.f k l) s ∧ s.length ≤ 6 := by
  obtain ⟨b, hb, hbl, hbm⟩ := open_eq l
  obtain ⟨s, q, hs, hsl, _⟩ := l92Solid_ev b hbl (fun x hx => u8_range h x (hbm x hx))
  refine ⟨s, ?_, hsl⟩
  unfold spec_l92Edges.f
  rw [hb]
  simp only [Option.bind_some]
  exact Ev.bind hs (ev_some _)

theorem impl_SolidIn_ev (l : List Int) (h : l.length ≤ 1048576) : Ev (fun k => impl_SolidIn.f k l) (solB l) := by
  unfold impl_SolidIn.f
  have := ev_count (fun k i => impl_SolidIn.l0 k l l (l.length : Int) (i : Int)) (fun i => (l.drop i).all inB && l.length == 6) l.length ?_ ?_ 0 (by omega)
  · simpa [solB] using this
  · refine ev_step ?_
    simp only [impl_SolidIn.l0]
    refine ev_neg (by omega) ?_
    have e : ((l.length : Int) == 6) = (l.length == 6) := by rw [Bool.eq_iff_iff]; simp; omega
    simpa [e] using ev_some _
  · intro i hi ih
    refine ev_step ?_
    simp only [impl_SolidIn.l0]
    refine ev_pos (by omega) (ev_pos (by omega) (ev_pos (by omega) ?_))
    rw [rd_get hi, drop_cons hi, List.all_cons]
    by_cases h1 : l[i] < 1
    · refine ev_pos h1 ?_
      have : inB l[i] = false := by unfold inB; simp; omega
      rw [this]; exact ev_some _
    · refine ev_neg h1 ?_
      by_cases h2 : l[i] > 12
      · refine ev_pos h2 ?_
        have : inB l[i] = false := by unfold inB; simp; omega
        rw [this]; exact ev_some _
      · refine ev_neg h2 ?_
        have : inB l[i] = true := by unfold inB; simp; omega
        rw [this, Bool.true_and, w64_succ (by omega)]
        exact ih

theorem spec_l6In_eq (a b c : Int) : spec_l6In.f a b c = some (decide (b ≤ a ∧ a ≤ c)) := by
  unfold spec_l6In.f
  by_cases h : a ≥ b
  · rw [if_pos h]; simp; intro _; exact h
  · rw [if_neg h]; simp; omega
theorem spec_l8Solid_ev (l : List Int) (h : l.length ≤ 1048576) : Ev (fun k => spec_l8Solid.f k l) (solB l) := by
  unfold spec_l8Solid.f
  have := ev_count (fun k i => spec_l8Solid.l0 k l (i : Int)) (fun i => (l.drop i).all inB && l.length == 6) l.length ?_ ?_ 0 (by omega)
  · simpa [solB] using this
  · refine ev_step ?_
    simp only [spec_l8Solid.l0]
    refine ev_neg (by omega) ?_
    have e : ((l.length : Int) == 6) = (l.length == 6) := by rw [Bool.eq_iff_iff]; simp; omega
    simpa [e] using ev_some _
  · intro i hi ih
    refine ev_step ?_
    simp only [spec_l8Solid.l0]
    refine ev_pos (by omega) (ev_pos (by omega) ?_)
    rw [rd_get hi, drop_cons hi, List.all_cons, spec_l6In_eq]
    simp only [Option.bind_some]
    by_cases h1 : 1 ≤ l[i] ∧ l[i] ≤ 12
    · refine ev_pos (by simpa using h1) ?_
      have : inB l[i] = true := by unfold inB; simp; omega
      rw [this, Bool.true_and, w64_succ (by omega)]
      exact ih
    · refine ev_neg (by simpa using h1) ?_
      have : inB l[i] = false := by unfold inB; simp; omega
      rw [this]; exact ev_some _

theorem spec_number_eq (a b c d e f : Int) : spec_l8Number.f [a, b, c, d, e, f] = some (wrap64 (number a b c d e f)) := by
  unfold spec_l8Number.f number
  have r0 : rd [a, b, c, d, e, f] 0 = a := rfl
  have r1 : rd [a, b, c, d, e, f] 1 = b := rfl
  have r2 : rd [a, b, c, d, e, f] 2 = c := rfl
  have r3 : rd [a, b, c, d, e, f] 3 = d := rfl
  have r4 : rd [a, b, c, d, e, f] 4 = e := rfl
  have r5 : rd [a, b, c, d, e, f] 5 = f := rfl
  have hl : ([a, b, c, d, e, f].length : Int) = 6 := rfl
  rw [r0, r1, r2, r3, r4, r5, hl, if_pos (by decide), if_pos (by decide), if_pos (by decide), if_pos (by decide), if_pos (by decide), if_pos (by decide)]
  simp only [w_add_l, w_add_r, w_sub_l, w_sub_r, w_mul_l, w_mul_r]
theorem impl_number_eq (a b c d e f : Int) : impl_numberOf.f [a, b, c, d, e, f] = some (wrap64 (number a b c d e f)) := by
  unfold impl_numberOf.f number
  have r0 : rd [a, b, c, d, e, f] 0 = a := rfl
  have r1 : rd [a, b, c, d, e, f] 1 = b := rfl
  have r2 : rd [a, b, c, d, e, f] 2 = c := rfl
  have r3 : rd [a, b, c, d, e, f] 3 = d := rfl
  have r4 : rd [a, b, c, d, e, f] 4 = e := rfl
  have r5 : rd [a, b, c, d, e, f] 5 = f := rfl
  have hl : ([a, b, c, d, e, f].length : Int) = 6 := rfl
  rw [r0, r1, r2, r3, r4, r5, hl, if_pos (by decide), if_pos (by decide), if_pos (by decide), if_pos (by decide), if_pos (by decide), if_pos (by decide)]
  simp only [w_add_l, w_add_r, w_sub_l, w_sub_r, w_mul_l, w_mul_r]
/-- The number as both texts answer it. -/
def numA (l : List Int) : Int × Bool := if solB l then (wrap64 (num l), true) else (0, false)
theorem numA_six {a b c d e f : Int} (h : solB [a, b, c, d, e, f] = true) : numA [a, b, c, d, e, f] = (wrap64 (number a b c d e f), true) := by
  unfold numA; rw [if_pos h]; rfl

theorem spec_SolidNumber_ev (l : List Int) (h : l.length ≤ 1048576) : Ev (fun k => spec_SolidNumber.f k l) (numA l) := by
  unfold spec_SolidNumber.f numA
  refine Ev.bind (spec_l8Solid_ev l h) ?_
  by_cases c : solB l = true
  · refine ev_pos c ?_
    rw [if_pos c]
    obtain ⟨a, b, c, d, e, f, rfl, _⟩ := sol_six c
    rw [spec_number_eq]
    exact ev_some _
  · refine ev_neg c ?_
    rw [if_neg c]; exact ev_some _
theorem impl_SolidNumber_ev (l : List Int) (h : l.length ≤ 1048576) : Ev (fun k => impl_SolidNumber.f k l) (numA l) := by
  unfold impl_SolidNumber.f numA
  refine Ev.bind (impl_SolidIn_ev l h) ?_
  by_cases c : solB l = true
  · refine ev_pos c ?_
    rw [if_pos c]
    obtain ⟨a, b, c, d, e, f, rfl, _⟩ := sol_six c
    rw [impl_number_eq]
    exact ev_some _
  · refine ev_neg c ?_
    rw [if_neg c]; exact ev_some _

/-- Which lists have each corner once: those of 'perms'. -/
theorem index_ev (l : List Int) (x : Int) (h : l.length ≤ 1048576) : ∃ r, Ev (fun k => slices_Index_int_int.f k l x) r ∧ (decide (r ≥ 0) = l.contains x) := by
  unfold slices_Index_int_int.f
  have := ev_count (fun k i => slices_Index_int_int.l0 k l x (l.length : Int) (i : Int)) (fun i => if (l.drop i).contains x then ((i + (l.drop i).idxOf x : Nat) : Int) else -1) l.length ?_ ?_ 0 (by omega)
  · refine ⟨_, this, ?_⟩
    simp only [List.drop_zero]
    by_cases c : l.contains x
    · rw [if_pos c, c]; simp
    · rw [if_neg c]; simp at c; simp [c]
  · refine ev_step ?_
    simp only [slices_Index_int_int.l0]
    refine ev_neg (by omega) ?_
    simpa using ev_some _
  · intro i hi ih
    refine ev_step ?_
    simp only [slices_Index_int_int.l0]
    refine ev_pos (by omega) (ev_pos (by omega) (ev_pos (by omega) ?_))
    rw [rd_get hi, drop_cons hi]
    by_cases c : x = l[i]
    · refine ev_pos c ?_
      have e1 : ∀ t : List Int, (l[i] :: t).contains x = true := fun t => by simp [c]
      have e2 : ∀ t : List Int, (l[i] :: t).idxOf x = 0 := fun t => by rw [List.idxOf_cons]; simp [c]
      rw [if_pos (e1 _), e2]
      exact ev_some _
    · refine ev_neg c ?_
      rw [w64_succ (by omega)]
      have e : ∀ t : List Int, (l[i] :: t).contains x = t.contains x := fun t => by simp [c]
      rw [e]
      by_cases c2 : (l.drop (i + 1)).contains x
      · rw [if_pos c2] at ih ⊢
        have e2 : ∀ t : List Int, (l[i] :: t).idxOf x = t.idxOf x + 1 := fun t => by
          rw [List.idxOf_cons, show (l[i] == x) = false from by simp; exact fun h => c h.symm]; rfl
        rw [e2, show i + ((l.drop (i + 1)).idxOf x + 1) = i + 1 + (l.drop (i + 1)).idxOf x from by omega]
        exact ih
      · rw [if_neg c2] at ih ⊢
        exact ih
theorem contains_ev (l : List Int) (x : Int) (h : l.length ≤ 1048576) : Ev (fun k => slices_Contains_int_int.f k l x) (l.contains x) := by
  obtain ⟨r, hr, hd⟩ := index_ev l x h
  unfold slices_Contains_int_int.f
  refine Ev.bind hr ?_
  rw [hd]
  exact ev_some _
theorem impl_isOrder_ev (l : List Int) (h : l.length ≤ 1048576) : Ev (fun k => impl_isOrder.f k l) (ordB l 0) := by
  unfold impl_isOrder.f
  refine ev_count (fun k i => impl_isOrder.l0 k l l (l.length : Int) (i : Int)) (fun i => ordB l i) l.length ?_ ?_ 0 (by omega)
  · refine ev_step ?_
    simp only [impl_isOrder.l0]
    refine ev_neg (by omega) ?_
    have e : ((l.length : Int) == 4) = (l.length == 4) := by rw [Bool.eq_iff_iff]; simp; omega
    rw [ordB_end, e]; exact ev_some _
  · intro i hi ih
    refine ev_step ?_
    simp only [impl_isOrder.l0]
    refine ev_pos (by omega) (ev_pos (by omega) (ev_pos (by omega) ?_))
    rw [rd_get hi, ordB_step hi, Int.toNat_natCast]
    by_cases h1 : l[i] < 0
    · refine ev_pos h1 ?_
      rw [if_pos (by omega)]; exact ev_some _
    · refine ev_neg h1 ?_
      by_cases h2 : l[i] > 3
      · refine ev_pos h2 ?_
        rw [if_pos (by omega)]; exact ev_some _
      · refine ev_neg h2 (ev_pos (by omega) (Ev.bind (contains_ev _ _ (by simp; omega)) ?_))
        by_cases h3 : (l.take i).contains l[i]
        · refine ev_pos h3 ?_
          rw [if_pos (Or.inr (Or.inr h3))]; exact ev_some _
        · refine ev_neg h3 ?_
          rw [if_neg (by simp only [not_or]; exact ⟨by omega, by omega, h3⟩), w64_succ (by omega)]
          exact ih

/-- Corners called otherwise, by each of the 24 orders: what both texts answer. -/
theorem impl_named_ev (a b c d e f : Int) (x : List Int) (hx : x ∈ perms) : Ev (fun k => impl_named.f k [a, b, c, d, e, f] x) (named [a, b, c, d, e, f] x) := by
  refine Ev.of (impl_named.mono _ _) (k := 30) ?_
  simp only [perms, List.mem_cons, List.not_mem_nil, or_false] at hx
  rcases hx with rfl | rfl | rfl | rfl | rfl | rfl | rfl | rfl | rfl | rfl | rfl | rfl | rfl | rfl | rfl | rfl | rfl | rfl | rfl | rfl | rfl | rfl | rfl | rfl <;> kernel_rfl

/-- The solid with its corners called otherwise, as both texts answer it. -/
def namedA (l x : List Int) : List Int × Bool := if solB l = true ∧ x ∈ perms then (named l x, true) else ([], false)
theorem impl_SolidNamed_ev (l x : List Int) (h : l.length ≤ 1048576) (hx : x.length ≤ 1048576) : Ev (fun k => impl_SolidNamed.f k l x) (namedA l x) := by
  unfold impl_SolidNamed.f namedA
  refine Ev.bind (impl_SolidIn_ev l h) ?_
  by_cases c : solB l = true
  · refine ev_pos c (Ev.bind (impl_isOrder_ev x hx) ?_)
    by_cases c2 : ordB x 0 = true
    · have c3 := (ordB_iff x).1 c2
      rw [if_pos ⟨c, c3⟩]
      obtain ⟨a, b, c, d, e, f, rfl, _⟩ := sol_six c
      exact ev_pos c2 (Ev.bind (impl_named_ev _ _ _ _ _ _ x c3) (ev_some _))
    · rw [if_neg (fun hc => c2 ((ordB_iff x).2 hc.2))]
      exact ev_neg c2 (ev_some _)
  · rw [if_neg (fun hc => c hc.1)]
    exact ev_neg c (ev_some _)

theorem FnNumber : laws_FnNumber.Pure := by
  intro l _ _ hw
  refine Ev.rounds ?_
  unfold laws_FnNumber.f
  by_cases h : (l.length : Int) > 1048576
  · exact ev_pos h (ev_some _)
  · refine ev_neg h ?_
    obtain ⟨s, hs, hl⟩ := l92Edges_ev l hw
    refine Ev.bind (a := s) (by unfold spec_DrawSolidNumber.f; exact Ev.bind hs (ev_some _)) ?_
    refine Ev.bind (impl_SolidNumber_ev s (by omega)) (Ev.bind (spec_SolidNumber_ev s (by omega)) ?_)
    refine ev_neg (by simp) (ev_pos (by trivial) (ev_step ?_))
    simp only [laws_FnNumber.j0]
    by_cases c : solB s = true
    · obtain ⟨a, b, c', d, e, f, rfl, ha, hb, hc, hd, he, hf⟩ := sol_six c
      rw [numA_six c]
      refine ev_neg (by simp) ?_
      have h1 : namedA [a, b, c', d, e, f] [1, 2, 3, 0] = ([d, e, a, f, b, c'], true) := by unfold namedA; rw [if_pos ⟨c, by decide⟩]; rfl
      have h2 : namedA [a, b, c', d, e, f] [0, 2, 1, 3] = ([b, a, c', d, f, e], true) := by unfold namedA; rw [if_pos ⟨c, by decide⟩]; rfl
      have s1 : solB [d, e, a, f, b, c'] = true := by simp [solB, inB, ha, hb, hc, hd, he, hf]
      have s2 : solB [b, a, c', d, f, e] = true := by simp [solB, inB, ha, hb, hc, hd, he, hf]
      have n1 : number d e a f b c' = number a b c' d e f := by unfold number; grind
      have n2 : number b a c' d f e = number a b c' d e f := by unfold number; grind
      refine Ev.bind (impl_SolidNamed_ev _ _ (show 6 ≤ 1048576 from by decide) (by decide)) (Ev.bind (impl_SolidNamed_ev _ _ (show 6 ≤ 1048576 from by decide) (by decide)) ?_)
      rw [h1, h2]
      refine Ev.bind (impl_SolidNumber_ev _ (show 6 ≤ 1048576 from by decide)) (Ev.bind (impl_SolidNumber_ev _ (show 6 ≤ 1048576 from by decide)) ?_)
      rw [numA_six s1, numA_six s2, n1, n2]
      refine ev_pos (by trivial) (ev_pos (by trivial) (ev_pos (by trivial) (ev_pos (by trivial) (ev_pos (by trivial) ?_))))
      simpa using ev_some _
    · unfold numA
      rw [if_neg c]
      exact ev_pos (by trivial) (ev_pos (by trivial) (by simpa using ev_some _))

end Go.Proofs.Ytbjmgcdhfoelkaa.Pure
