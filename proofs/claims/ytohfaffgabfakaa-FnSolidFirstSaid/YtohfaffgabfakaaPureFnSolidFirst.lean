/- A promise of the given program: the first name of a solid is its own first name, begins with the least length, and keeps the total (for every code that draws one). -/
import Derived.Test.YtohfaffgabfakaaPFnSolidFirstx6
import Derived.Test.YtohfaffgabfakaaBase
import Derived.Test.YtohfaffgabfakaaSol
import Derived.Test.YtohfaffgabfakaaFirst
namespace Go.Proofs.Ytohfaffgabfakaa.Pure
open Go.RowKit Go.Proofs.Ytohfaffgabfakaa.PFnSolidFirst Go.Proofs.YtohfaffgabfakaaW.PrintWords Go.Proofs.YtohfaffgabfakaaW.PrintLast Go.Proofs.YtohfaffgabfakaaW.PrintMore Go.Proofs.Ytohfaffgabfakaa.Base Go.Proofs.Ytohfaffgabfakaa.Sol Go.Proofs.Ytohfaffgabfakaa.First
set_option linter.unusedVariables false
set_option linter.unusedSimpArgs false
theorem open_eq (l : List Int) : ∃ b, spec_l6Open.f l = some (b, 0) ∧ b.length ≤ 2000 ∧ ∀ x ∈ b, x ∈ l := by
  unfold spec_l6Open.f
  by_cases h : (l.length : Int) > 2000
  · refine ⟨l.take 2000, by rw [if_pos h, if_pos (by omega)], by simp; omega, fun x hx => List.mem_of_mem_take hx⟩
  · exact ⟨l, by rw [if_neg h], by omega, fun x hx => hx⟩
theorem u8_range {l : List Int} (h : ∀ x ∈ l, (Lit.int .u8 x).wf = true) : ∀ x ∈ l, 0 ≤ x ∧ x ≤ 255 := by
  intro x hx
  have := h x hx
  have h0 : IntKind.u8.min = 0 := rfl
  have h1 : IntKind.u8.max = 255 := rfl
  simp [Lit.wf, h0, h1] at this
  omega

/-- A draw: a number from 0 to n-1 (0 where n is less than 1), the place goes on by one. -/
theorem pick_ev (b : List Int) (p n : Int) (hp : 0 ≤ p ∧ p ≤ 1000000000) (hb : b.length ≤ 2000) (hx : ∀ x ∈ b, 0 ≤ x ∧ x ≤ 255) (hn : -1000000 ≤ n ∧ n ≤ 1000000) :
    ∃ r, Ev (fun k => spec_l6Rd_pick.f k b p n) (r, p + 1) ∧ 0 ≤ r ∧ (1 ≤ n → r < n) ∧ (n < 1 → r = 0) := by
  have e1 : wrap64 (p + 1) = p + 1 := w64 (by omega)
  have e2 : wrap64 (p + 1 - 1) = p := by rw [show p + 1 - 1 = p from by omega]; exact w64 (by omega)
  have hrd : ∀ i : Int, 0 ≤ i → i < b.length → 0 ≤ rd b i ∧ rd b i ≤ 255 := by
    intro i h0 h1
    obtain ⟨j, rfl⟩ := Int.eq_ofNat_of_zero_le h0
    rw [rd_get (by omega)]
    exact hx _ (List.getElem_mem _)
  unfold spec_l6Rd_pick.f
  rw [e1]
  by_cases h1 : n < 1
  · refine ⟨0, ev_pos h1 ?_, by omega, by omega, fun _ => rfl⟩
    refine ev_step ?_
    simp only [spec_l6Rd_pick.j0]
    exact ev_pos (by trivial) (ev_some _)
  · by_cases h2 : b.length = 0
    · refine ⟨0, ev_neg h1 ?_, by omega, by omega, fun _ => rfl⟩
      refine ev_step ?_
      simp only [spec_l6Rd_pick.j0]
      refine ev_pos ?_ (ev_some _)
      rw [h2]; rfl
    · by_cases h3 : p < b.length
      · have hr := hrd p hp.1 h3
        refine ⟨Int.tmod (wrap64 (rd b p)) n, ev_neg h1 ?_, ?_, ?_, by omega⟩
        · refine ev_step ?_
          simp only [spec_l6Rd_pick.j0, e2]
          refine ev_neg ?_ (ev_pos h3 (ev_pos hp.1 (ev_neg (by omega) (ev_some _))))
          simpa using h2
        · rw [w64 (by omega)]; exact Int.tmod_nonneg _ hr.1
        · intro _; rw [w64 (by omega)]; exact Int.tmod_lt_of_pos _ (by omega)
      · have hL : (0 : Int) < b.length := by omega
        have q0 : 0 ≤ Int.tmod p b.length := Int.tmod_nonneg _ hp.1
        have q1 : Int.tmod p b.length < b.length := Int.tmod_lt_of_pos _ hL
        have e3 : wrap64 (p * 7) = p * 7 := w64 (by omega)
        have e4 : wrap64 (p * 7 + 3) = p * 7 + 3 := w64 (by omega)
        have s0 : 0 ≤ Int.tmod (p * 7 + 3) b.length := Int.tmod_nonneg _ (by omega)
        have s1 : Int.tmod (p * 7 + 3) b.length < b.length := Int.tmod_lt_of_pos _ hL
        have hu := hrd _ q0 q1
        have hv := hrd _ s0 s1
        have hd0 : 0 ≤ Int.tdiv p b.length := Int.tdiv_nonneg hp.1 (by omega)
        have hd1 : Int.tdiv p b.length ≤ p := by
          rw [Int.tdiv_eq_ediv_of_nonneg hp.1]
          exact Int.ediv_le_self _ hp.1
        generalize hu' : rd b (Int.tmod p b.length) = u at hu
        generalize hv' : rd b (Int.tmod (p * 7 + 3) b.length) = v at hv
        generalize hd' : Int.tdiv p b.length = d at hd0 hd1
        obtain ⟨X, hX, hX0, hX1⟩ : ∃ X : Int, wrap64 (wrap64 (wrap64 (wrap64 (wrap64 u * 131) + wrap64 (wrap64 v * 1117)) + wrap64 (p * 29)) + wrap64 (wrap64 d * 53)) = X ∧ 0 ≤ X ∧ X < 4611686018427387904 := by
          refine ⟨u * 131 + v * 1117 + p * 29 + d * 53, ?_, by omega, by omega⟩
          rw [w64 (x := u) (by omega), w64 (x := u * 131) (by omega), w64 (x := v) (by omega), w64 (x := v * 1117) (by omega), w64 (x := d) (by omega), w64 (x := d * 53) (by omega), w64 (x := p * 29) (by omega),
            w64 (x := u * 131 + v * 1117) (by omega), w64 (x := u * 131 + v * 1117 + p * 29) (by omega), w64 (by omega)]
        have hY0 : 0 ≤ Int.tdiv X 64 := Int.tdiv_nonneg hX0 (by omega)
        have hY1 : Int.tdiv X 64 < 4611686018427387904 := by
          rw [Int.tdiv_eq_ediv_of_nonneg hX0]; omega
        have eY : wrap64 (Int.tdiv X 64) = Int.tdiv X 64 := w64 (by omega)
        have hz : 0 ≤ Go.bits .xor .i64 X (Int.tdiv X 64) := xor_nonneg hX0 (by omega) hY0 (by omega)
        refine ⟨Int.tmod (Go.bits .xor .i64 X (Int.tdiv X 64)) n, ev_neg h1 ?_, ?_, ?_, by omega⟩
        · refine ev_step ?_
          simp only [spec_l6Rd_pick.j0, e2, e3, e4, hu', hv', hd', hX, eY]
          refine ev_neg ?_ (ev_neg h3 (ev_neg (by omega) (ev_pos q0 (ev_pos q1 (ev_pos s0 (ev_pos s1 (ev_neg (by omega) (ev_some _))))))))
          simpa using h2
        · exact Int.tmod_nonneg _ hz
        · intro _; exact Int.tmod_lt_of_pos _ (by omega)

theorem l92Solid_loop (b : List Int) (hb : b.length ≤ 2000) (hx : ∀ x ∈ b, 0 ≤ x ∧ x ≤ 255) (x4 : Int) (d : Nat) : ∀ (i : Nat) (x3 : List Int) (p : Int), i + d = 6 → x3.length = i → 0 ≤ p → p ≤ 100 - 10 * d →
    ∃ s q, Ev (fun k => spec_l92Solid.l0 k x3 x4 (i : Int) b p) (s, q) ∧ s.length ≤ 6 ∧ 0 ≤ q ∧ q ≤ 1000 := by
  induction d with
  | zero =>
    intro i x3 p hi hl h0 h1
    obtain ⟨r, hr, hr0, hr1, _⟩ := pick_ev b p 40 (by omega) hb hx (by omega)
    by_cases c0 : r = 0
    · obtain ⟨r', hr', hr0', hr1', _⟩ := pick_ev b (p + 1) 6 (by omega) hb hx (by omega)
      refine ⟨x3.set r'.toNat 13, p + 1 + 1, ev_step ?_, by simp; omega, by omega, by omega⟩
      simp only [spec_l92Solid.l0]
      refine ev_neg (by omega) (Ev.bind hr (ev_pos c0 (Ev.bind hr' ?_)))
      exact ev_pos hr0' (ev_pos (by have := hr1' (by omega); simp only [hl]; omega) (ev_some _))
    · by_cases c1 : r = 1
      · refine ⟨x3.take 5, p + 1, ev_step ?_, by simp; omega, by omega, by omega⟩
        simp only [spec_l92Solid.l0]
        refine ev_neg (by omega) (Ev.bind hr (ev_neg c0 (ev_pos c1 (ev_pos (by omega) ?_))))
        exact ev_some _
      · refine ⟨x3, p + 1, ev_step ?_, by omega, by omega, by omega⟩
        simp only [spec_l92Solid.l0]
        exact ev_neg (by omega) (Ev.bind hr (ev_neg c0 (ev_neg c1 (ev_some _))))
  | succ d ih =>
    intro i x3 p hi hl h0 h1
    obtain ⟨r, hr, _, _, _⟩ := pick_ev b p 4 (by omega) hb hx (by omega)
    obtain ⟨r', hr', _, _, _⟩ := pick_ev b (p + 1) 4 (by omega) hb hx (by omega)
    obtain ⟨s, q, hs, hsl, hq⟩ := ih (i + 1) (x3 ++ [mn 12 (mx 1 (wrap64 (wrap64 (x4 + r) - r')))]) (p + 1 + 1) (by omega) (by simp; omega) (by omega) (by omega)
    refine ⟨s, q, ev_step ?_, hsl, hq⟩
    simp only [spec_l92Solid.l0]
    refine ev_pos (by omega) (Ev.bind hr (Ev.bind hr' (ev_pos (by omega) ?_)))
    rw [w64_succ (by omega)]
    exact hs
theorem l92Solid_ev (b : List Int) (hb : b.length ≤ 2000) (hx : ∀ x ∈ b, 0 ≤ x ∧ x ≤ 255) : ∃ s q, Ev (fun k => spec_l92Solid.f k b 0) (s, q) ∧ s.length ≤ 6 ∧ 0 ≤ q ∧ q ≤ 1000 := by
  obtain ⟨r, hr, _, _, _⟩ := pick_ev b 0 9 (by omega) hb hx (by omega)
  obtain ⟨s, q, hs, hsl, hq⟩ := l92Solid_loop b hb hx (wrap64 (2 + r)) 6 0 [] (0 + 1) rfl rfl (by omega) (by omega)
  refine ⟨s, q, ?_, hsl, hq⟩
  unfold spec_l92Solid.f
  exact Ev.bind hr hs

theorem l92Edges_ev (l : List Int) (h : ∀ x ∈ l, (Lit.int .u8 x).wf = true) : ∃ s, Ev (fun k => spec_l92Edges.f k l) s ∧ s.length ≤ 6 := by
  obtain ⟨b, hb, hbl, hbm⟩ := open_eq l
  obtain ⟨s, q, hs, hsl, _⟩ := l92Solid_ev b hbl (fun x hx => u8_range h x (hbm x hx))
  refine ⟨s, ?_, hsl⟩
  unfold spec_l92Edges.f
  rw [hb]
  simp only [Option.bind_some]
  exact Ev.bind hs (ev_some _)

theorem impl_SolidIn_ev (l : List Int) (h : l.length ≤ 1048576) : Ev (fun k => impl_SolidIn.f k l) (solB l) := by
  unfold impl_SolidIn.f
  have := ev_count (fun k i => impl_SolidIn.l0 k l l (l.length : Int) (i : Int)) (fun i => (l.drop i).all inB && l.length == 6) l.length ?_ ?_ 0 (by omega)
  · simpa [solB] using this
  · refine ev_step ?_
    simp only [impl_SolidIn.l0]
    refine ev_neg (by omega) ?_
    have e : ((l.length : Int) == 6) = (l.length == 6) := by rw [Bool.eq_iff_iff]; simp; omega
    simpa [e] using ev_some _
  · intro i hi ih
    refine ev_step ?_
    simp only [impl_SolidIn.l0]
    refine ev_pos (by omega) (ev_pos (by omega) (ev_pos (by omega) ?_))
    rw [rd_get hi, drop_cons hi, List.all_cons]
    by_cases h1 : l[i] < 1
    · refine ev_pos h1 ?_
      have : inB l[i] = false := by unfold inB; simp; omega
      rw [this]; exact ev_some _
    · refine ev_neg h1 ?_
      by_cases h2 : l[i] > 12
      · refine ev_pos h2 ?_
        have : inB l[i] = false := by unfold inB; simp; omega
        rw [this]; exact ev_some _
      · refine ev_neg h2 ?_
        have : inB l[i] = true := by unfold inB; simp; omega
        rw [this, Bool.true_and, w64_succ (by omega)]
        exact ih

/-- Which lists have each corner once: those of 'perms'. -/
theorem index_ev (l : List Int) (x : Int) (h : l.length ≤ 1048576) : ∃ r, Ev (fun k => slices_Index_int_int.f k l x) r ∧ (decide (r ≥ 0) = l.contains x) := by
  unfold slices_Index_int_int.f
  have := ev_count (fun k i => slices_Index_int_int.l0 k l x (l.length : Int) (i : Int)) (fun i => if (l.drop i).contains x then ((i + (l.drop i).idxOf x : Nat) : Int) else -1) l.length ?_ ?_ 0 (by omega)
  · refine ⟨_, this, ?_⟩
    simp only [List.drop_zero]
    by_cases c : l.contains x
    · rw [if_pos c, c]; simp
    · rw [if_neg c]; simp at c; simp [c]
  · refine ev_step ?_
    simp only [slices_Index_int_int.l0]
    refine ev_neg (by omega) ?_
    simpa using ev_some _
  · intro i hi ih
    refine ev_step ?_
    simp only [slices_Index_int_int.l0]
    refine ev_pos (by omega) (ev_pos (by omega) (ev_pos (by omega) ?_))
    rw [rd_get hi, drop_cons hi]
    by_cases c : x = l[i]
    · refine ev_pos c ?_
      have e1 : ∀ t : List Int, (l[i] :: t).contains x = true := fun t => by simp [c]
      have e2 : ∀ t : List Int, (l[i] :: t).idxOf x = 0 := fun t => by rw [List.idxOf_cons]; simp [c]
      rw [if_pos (e1 _), e2]
      exact ev_some _
    · refine ev_neg c ?_
      rw [w64_succ (by omega)]
      have e : ∀ t : List Int, (l[i] :: t).contains x = t.contains x := fun t => by simp [c]
      rw [e]
      by_cases c2 : (l.drop (i + 1)).contains x
      · rw [if_pos c2] at ih ⊢
        have e2 : ∀ t : List Int, (l[i] :: t).idxOf x = t.idxOf x + 1 := fun t => by
          rw [List.idxOf_cons, show (l[i] == x) = false from by simp; exact fun h => c h.symm]; rfl
        rw [e2, show i + ((l.drop (i + 1)).idxOf x + 1) = i + 1 + (l.drop (i + 1)).idxOf x from by omega]
        exact ih
      · rw [if_neg c2] at ih ⊢
        exact ih
theorem contains_ev (l : List Int) (x : Int) (h : l.length ≤ 1048576) : Ev (fun k => slices_Contains_int_int.f k l x) (l.contains x) := by
  obtain ⟨r, hr, hd⟩ := index_ev l x h
  unfold slices_Contains_int_int.f
  refine Ev.bind hr ?_
  rw [hd]
  exact ev_some _
theorem impl_isOrder_ev (l : List Int) (h : l.length ≤ 1048576) : Ev (fun k => impl_isOrder.f k l) (ordB l 0) := by
  unfold impl_isOrder.f
  refine ev_count (fun k i => impl_isOrder.l0 k l l (l.length : Int) (i : Int)) (fun i => ordB l i) l.length ?_ ?_ 0 (by omega)
  · refine ev_step ?_
    simp only [impl_isOrder.l0]
    refine ev_neg (by omega) ?_
    have e : ((l.length : Int) == 4) = (l.length == 4) := by rw [Bool.eq_iff_iff]; simp; omega
    rw [ordB_end, e]; exact ev_some _
  · intro i hi ih
    refine ev_step ?_
    simp only [impl_isOrder.l0]
    refine ev_pos (by omega) (ev_pos (by omega) (ev_pos (by omega) ?_))
    rw [rd_get hi, ordB_step hi, Int.toNat_natCast]
    by_cases h1 : l[i] < 0
    · refine ev_pos h1 ?_
      rw [if_pos (by omega)]; exact ev_some _
    · refine ev_neg h1 ?_
      by_cases h2 : l[i] > 3
      · refine ev_pos h2 ?_
        rw [if_pos (by omega)]; exact ev_some _
      · refine ev_neg h2 (ev_pos (by omega) (Ev.bind (contains_ev _ _ (by simp; omega)) ?_))
        by_cases h3 : (l.take i).contains l[i]
        · refine ev_pos h3 ?_
          rw [if_pos (Or.inr (Or.inr h3))]; exact ev_some _
        · refine ev_neg h3 ?_
          rw [if_neg (by simp only [not_or]; exact ⟨by omega, by omega, h3⟩), w64_succ (by omega)]
          exact ih

/-- Corners called otherwise, by each of the 24 orders: what both texts answer. -/
theorem impl_named_ev (a b c d e f : Int) (x : List Int) (hx : x ∈ perms) : Ev (fun k => impl_named.f k [a, b, c, d, e, f] x) (named [a, b, c, d, e, f] x) := by
  refine Ev.of (impl_named.mono _ _) (k := 30) ?_
  simp only [perms, List.mem_cons, List.not_mem_nil, or_false] at hx
  rcases hx with rfl | rfl | rfl | rfl | rfl | rfl | rfl | rfl | rfl | rfl | rfl | rfl | rfl | rfl | rfl | rfl | rfl | rfl | rfl | rfl | rfl | rfl | rfl | rfl <;> kernel_rfl

theorem compare_int_eq (a b : Int) : cmp_Compare_int.f a b = some (if a < b then -1 else if a > b then 1 else 0) := by
  unfold cmp_Compare_int.f cmp_isNaN_int.f
  have : ∀ x : Int, (x != x) = false := fun x => by simp
  simp only [this, Option.bind_some]
  rw [if_neg (by decide), if_neg (by decide)]
  split
  · rfl
  · split <;> rfl
theorem compare_ev (s t : List Int) (hl : s.length = t.length) (h : s.length ≤ 1048576) : ∃ n : Int, Ev (fun k => slices_Compare_int_int.f k s t) n ∧ (decide (n < 0) = lx s t) := by
  unfold slices_Compare_int_int.f
  have key := down (fun i => ∃ n : Int, Ev (fun k => slices_Compare_int_int.l0 k s t s (s.length : Int) (i : Int)) n ∧ (decide (n < 0) = lx (s.drop i) (t.drop i))) s.length ?_ ?_ 0 (by omega)
  · exact key
  · refine ⟨0, ev_step ?_, ?_⟩
    · simp only [slices_Compare_int_int.l0]
      exact ev_neg (by omega) (ev_neg (by omega) (ev_some _))
    · rw [List.drop_length]; rfl
  · intro i hi ⟨n, hn, hd⟩
    have hit : i < t.length := by omega
    rw [drop_cons hi, drop_cons hit]
    simp only [lx]
    by_cases c : s[i] = t[i]
    · refine ⟨n, ev_step ?_, by rw [if_pos c]; exact hd⟩
      simp only [slices_Compare_int_int.l0]
      rw [rd_get hi, rd_get hit, compare_int_eq, w64_succ (by omega)]
      simp only [Option.bind_some]
      exact ev_pos (by omega) (ev_pos (by omega) (ev_pos (by omega) (ev_neg (by omega) (ev_pos (by omega) (ev_pos (by rw [if_neg (by omega), if_neg (by omega)]) hn)))))
    · rcases Int.lt_or_gt_of_ne c with d | d
      · refine ⟨-1, ev_step ?_, by rw [if_neg c, decide_eq_true d]; rfl⟩
        simp only [slices_Compare_int_int.l0]
        rw [rd_get hi, rd_get hit, compare_int_eq, if_pos d]
        simp only [Option.bind_some]
        exact ev_pos (by omega) (ev_pos (by omega) (ev_pos (by omega) (ev_neg (by omega) (ev_pos (by omega) (ev_neg (by decide) (ev_some _))))))
      · refine ⟨1, ev_step ?_, by rw [if_neg c, decide_eq_false (p := s[i] < t[i]) (by omega)]; rfl⟩
        simp only [slices_Compare_int_int.l0]
        rw [rd_get hi, rd_get hit, compare_int_eq, if_neg (by omega), if_pos d]
        simp only [Option.bind_some]
        exact ev_pos (by omega) (ev_pos (by omega) (ev_pos (by omega) (ev_neg (by omega) (ev_pos (by omega) (ev_neg (by decide) (ev_some _))))))
theorem quad_eq {i : Nat} (h : i < 256) : [wrap64 (Int.tdiv (i : Int) 64), Int.tmod (wrap64 (Int.tdiv (i : Int) 16)) 4, Int.tmod (wrap64 (Int.tdiv (i : Int) 4)) 4, Int.tmod (i : Int) 4] = quad i := by
  have e1 : Int.tdiv (i : Int) 64 = ((i / 64 : Nat) : Int) := (Int.ofNat_tdiv i 64).symm
  have e2 : Int.tdiv (i : Int) 16 = ((i / 16 : Nat) : Int) := (Int.ofNat_tdiv i 16).symm
  have e3 : Int.tdiv (i : Int) 4 = ((i / 4 : Nat) : Int) := (Int.ofNat_tdiv i 4).symm
  have m : ∀ x : Nat, Int.tmod (x : Int) 4 = ((x % 4 : Nat) : Int) := fun x => (Int.ofNat_tmod x 4).symm
  rw [e1, e2, e3, w64 (x := ((i / 64 : Nat) : Int)) (by omega), w64 (x := ((i / 16 : Nat) : Int)) (by omega), w64 (x := ((i / 4 : Nat) : Int)) (by omega), m, m, m]
  rfl
theorem six_of {l : List Int} (h : l.length = 6) : ∃ a b c d e f, l = [a, b, c, d, e, f] := by
  match l, h with
  | [a, b, c, d, e, f], _ => exact ⟨a, b, c, d, e, f, rfl⟩
theorem impl_first_ev {l : List Int} (h : l.length = 6) : Ev (fun k => impl_firstNamed.f k l) (firstOf l) := by
  unfold impl_firstNamed.f firstOf
  rw [← from256_zero]
  have key := down (fun i => ∀ b : List Int, b.length = 6 → Ev (fun k => impl_firstNamed.l0 k l b (i : Int)) ((from256 i).foldl (upd l) b)) 256 ?_ ?_ 0 (by omega)
  · exact key l h
  · intro b hb
    refine ev_step ?_
    simp only [impl_firstNamed.l0]
    refine ev_neg (by omega) ?_
    unfold slices_Clone_int_int.f
    simp only [Option.bind_some, List.nil_append]
    rw [from256_end]
    simp only [hb]
    exact ev_some _
  · intro i hi ih b hb
    refine ev_step ?_
    simp only [impl_firstNamed.l0]
    refine ev_pos (by omega) ?_
    rw [quad_eq hi, w64_succ (by omega), from256_step hi]
    simp only [Option.bind_some]
    refine Ev.bind (impl_isOrder_ev (quad i) (by show 4 ≤ 1048576; decide)) ?_
    by_cases c : perms.contains (quad i) = true
    · have hp : quad i ∈ perms := List.contains_iff_mem.1 c
      rw [if_pos c, List.foldl_cons]
      obtain ⟨a1, a2, a3, a4, a5, a6, rfl⟩ := six_of h
      obtain ⟨n, hn, hd⟩ := compare_ev (named [a1, a2, a3, a4, a5, a6] (quad i)) b (by rw [hb]; rfl) (by show 6 ≤ 1048576; decide)
      refine ev_pos ((ordB_iff _).2 hp) (Ev.bind (impl_named_ev _ _ _ _ _ _ _ hp) (Ev.bind hn ?_))
      have ih' := ih (upd [a1, a2, a3, a4, a5, a6] b (quad i)) (upd_length hb)
      unfold upd at ih'
      unfold upd
      by_cases z : lx (named [a1, a2, a3, a4, a5, a6] (quad i)) b = true
      · rw [if_pos z] at ih' ⊢
        rw [z] at hd
        exact ev_pos (of_decide_eq_true hd) ih'
      · rw [if_neg z] at ih' ⊢
        rw [Bool.eq_false_iff.2 z] at hd
        exact ev_neg (of_decide_eq_false hd) ih'
    · rw [if_neg c]
      refine ev_neg (fun hc => c (List.contains_iff_mem.2 ((ordB_iff _).1 hc))) ?_
      exact ih b hb
def firstA (l : List Int) : List Int × Bool := if solB l = true then (firstOf l, true) else ([], false)
theorem sol_len {l : List Int} (h : solB l = true) : l.length = 6 := by
  obtain ⟨a, b, c, d, e, f, rfl, _⟩ := sol_six h
  rfl
theorem firstA_len (l : List Int) : (firstA l).1.length ≤ 6 := by
  unfold firstA
  by_cases c : solB l = true
  · rw [if_pos c]; dsimp only; rw [first_length (sol_len c)]; decide
  · rw [if_neg c]; exact Nat.zero_le _

theorem impl_SolidFirst_ev (l : List Int) (h : l.length ≤ 1048576) : Ev (fun k => impl_SolidFirst.f k l) (firstA l) := by
  unfold impl_SolidFirst.f firstA
  refine Ev.bind (impl_SolidIn_ev l h) ?_
  by_cases c : solB l = true
  · rw [if_pos c]
    exact ev_pos c (Ev.bind (impl_first_ev (sol_len c)) (ev_some _))
  · rw [if_neg c]
    exact ev_neg c (ev_some _)

theorem spec_l6In_eq (a b c : Int) : spec_l6In.f a b c = some (decide (b ≤ a ∧ a ≤ c)) := by
  unfold spec_l6In.f
  by_cases h : a ≥ b
  · rw [if_pos h]; simp; intro _; exact h
  · rw [if_neg h]; simp; omega
theorem spec_l8Solid_ev (l : List Int) (h : l.length ≤ 1048576) : Ev (fun k => spec_l8Solid.f k l) (solB l) := by
  unfold spec_l8Solid.f
  have := ev_count (fun k i => spec_l8Solid.l0 k l (i : Int)) (fun i => (l.drop i).all inB && l.length == 6) l.length ?_ ?_ 0 (by omega)
  · simpa [solB] using this
  · refine ev_step ?_
    simp only [spec_l8Solid.l0]
    refine ev_neg (by omega) ?_
    have e : ((l.length : Int) == 6) = (l.length == 6) := by rw [Bool.eq_iff_iff]; simp; omega
    simpa [e] using ev_some _
  · intro i hi ih
    refine ev_step ?_
    simp only [spec_l8Solid.l0]
    refine ev_pos (by omega) (ev_pos (by omega) ?_)
    rw [rd_get hi, drop_cons hi, List.all_cons, spec_l6In_eq]
    simp only [Option.bind_some]
    by_cases h1 : 1 ≤ l[i] ∧ l[i] ≤ 12
    · refine ev_pos (by simpa using h1) ?_
      have : inB l[i] = true := by unfold inB; simp; omega
      rw [this, Bool.true_and, w64_succ (by omega)]
      exact ih
    · refine ev_neg (by simpa using h1) ?_
      have : inB l[i] = false := by unfold inB; simp; omega
      rw [this]; exact ev_some _

theorem spec_named_ev (a b c d e f : Int) (x : List Int) (hx : x ∈ perms) : Ev (fun k => spec_l8Named.f k [a, b, c, d, e, f] x) (named [a, b, c, d, e, f] x) := by
  refine Ev.of (spec_l8Named.mono _ _) (k := 30) ?_
  simp only [perms, List.mem_cons, List.not_mem_nil, or_false] at hx
  rcases hx with rfl | rfl | rfl | rfl | rfl | rfl | rfl | rfl | rfl | rfl | rfl | rfl | rfl | rfl | rfl | rfl | rfl | rfl | rfl | rfl | rfl | rfl | rfl | rfl <;> kernel_rfl

theorem less_ev (s t : List Int) (hl : s.length = t.length) (h : s.length ≤ 1048576) : Ev (fun k => spec_l8Less.f k s t) (lx s t) := by
  unfold spec_l8Less.f
  have key := ev_count (fun k i => spec_l8Less.l0 k s t (i : Int)) (fun i => lx (s.drop i) (t.drop i)) s.length ?_ ?_ 0 (by omega)
  · exact key
  · refine ev_step ?_
    simp only [spec_l8Less.l0]
    refine ev_neg (by omega) ?_
    rw [List.drop_length]
    exact ev_some _
  · intro i hi ih
    have hit : i < t.length := by omega
    refine ev_step ?_
    simp only [spec_l8Less.l0]
    rw [drop_cons hi, drop_cons hit, rd_get hi, rd_get hit, w64_succ (by omega)]
    simp only [lx]
    refine ev_pos (by omega) (ev_pos (by omega) (ev_pos (by omega) ?_))
    by_cases c : s[i] = t[i]
    · rw [if_pos c]
      exact ev_pos c ih
    · rw [if_neg c]
      exact ev_neg c (ev_some _)
theorem spec_first_ev {l : List Int} (h : l.length = 6) : Ev (fun k => spec_l8First.f k l) (firstOf l) := by
  unfold spec_l8First.f firstOf
  simp only [Option.bind_some, List.nil_append, List.length_nil, Nat.zero_add]
  refine ev_pos (by omega) ?_
  rw [← T0_zero]
  have loop2 : ∀ (a b : Nat) (r : List Int) (rest : List (List Int)), a < 4 → b < 4 →
      (∀ m : List Int, m.length = 6 → Ev (fun k => spec_l8First.l1 k l m (a : Int) ((b + 1 : Nat) : Int)) (rest.foldl (upd l) m)) →
      ∀ m : List Int, m.length = 6 → Ev (fun k => spec_l8First.l2 k l m (a : Int) (b : Int) 0) ((T2 a b 0 ++ rest).foldl (upd l) m) := by
    intro a b r rest ha hb hk
    have key := down (fun c => ∀ m : List Int, m.length = 6 → Ev (fun k => spec_l8First.l2 k l m (a : Int) (b : Int) (c : Int)) ((T2 a b c ++ rest).foldl (upd l) m)) 4 ?_ ?_ 0 (by omega)
    · exact key
    · intro m hm
      refine ev_step ?_
      simp only [spec_l8First.l2]
      refine ev_neg (by omega) ?_
      rw [T2_end, List.nil_append, w64_succ (by omega)]
      exact hk m hm
    · intro c hc ih m hm
      have e6 : wrap64 (wrap64 (wrap64 (6 - (a : Int)) - (b : Int)) - (c : Int)) = 6 - (a : Int) - (b : Int) - (c : Int) := by
        rw [w64 (x := 6 - (a : Int)) (by omega), w64 (x := 6 - (a : Int) - (b : Int)) (by omega), w64 (by omega)]
      have body : Ev (fun k => spec_l8First.j3 k l m (a : Int) (b : Int) (c : Int) (6 - (a : Int) - (b : Int) - (c : Int)) (skip a b c)) ((T2 a b c ++ rest).foldl (upd l) m) := by
        refine ev_step ?_
        simp only [spec_l8First.j3]
        rw [w64_succ (by omega), T2_step hc]
        by_cases z : skip a b c = true
        · rw [if_pos z]
          exact ev_pos z (ih m hm)
        · rw [if_neg z, List.cons_append, List.foldl_cons]
          have hp := tri_perm ha hb hc (Bool.eq_false_iff.2 z)
          have ih' := ih (upd l m (tri a b c)) (upd_length hm)
          obtain ⟨a1, a2, a3, a4, a5, a6, rfl⟩ := six_of h
          refine ev_neg z (Ev.bind (spec_named_ev _ _ _ _ _ _ _ hp) (Ev.bind (less_ev _ m (by rw [hm]; rfl) (by show 6 ≤ 1048576; decide)) ?_))
          unfold upd at ih'
          unfold upd
          by_cases y : lx (named [a1, a2, a3, a4, a5, a6] (tri a b c)) m = true
          · rw [if_pos y] at ih' ⊢
            exact ev_pos y ih'
          · rw [if_neg y] at ih' ⊢
            exact ev_neg y ih'
      refine ev_step ?_
      simp only [spec_l8First.l2]
      rw [e6]
      refine ev_pos (by omega) ?_
      by_cases c1 : (a : Int) = (b : Int)
      · have s : skip a b c = true := by obtain rfl : a = b := by omega
                                         simp [skip]
        rw [s] at body
        exact ev_pos c1 body
      · refine ev_neg c1 ?_
        by_cases c2 : (a : Int) = (c : Int)
        · have s : skip a b c = true := by obtain rfl : a = c := by omega
                                           simp [skip]
          rw [s] at body
          exact ev_pos c2 body
        · refine ev_neg c2 ?_
          have s : skip a b c = ((b : Int) == (c : Int)) := by
            have e1 : (a == b) = false := by simp; omega
            have e2 : (a == c) = false := by simp; omega
            unfold skip
            rw [e1, e2, Bool.false_or, Bool.false_or, Bool.eq_iff_iff]
            simp
            omega
          rw [s] at body
          exact body
  have loop1 : ∀ (a : Nat) (rest : List (List Int)), a < 4 →
      (∀ m : List Int, m.length = 6 → Ev (fun k => spec_l8First.l0 k l m ((a + 1 : Nat) : Int)) (rest.foldl (upd l) m)) →
      ∀ m : List Int, m.length = 6 → Ev (fun k => spec_l8First.l1 k l m (a : Int) 0) ((T1 a 0 ++ rest).foldl (upd l) m) := by
    intro a rest ha hk
    have key := down (fun b => ∀ m : List Int, m.length = 6 → Ev (fun k => spec_l8First.l1 k l m (a : Int) (b : Int)) ((T1 a b ++ rest).foldl (upd l) m)) 4 ?_ ?_ 0 (by omega)
    · exact key
    · intro m hm
      refine ev_step ?_
      simp only [spec_l8First.l1]
      refine ev_neg (by omega) ?_
      rw [T1_end, List.nil_append, w64_succ (by omega)]
      exact hk m hm
    · intro b hb ih m hm
      refine ev_step ?_
      simp only [spec_l8First.l1]
      refine ev_pos (by omega) ?_
      rw [T1_step hb, List.append_assoc]
      exact loop2 a b l (T1 a (b + 1) ++ rest) ha hb ih m hm
  have key := down (fun a => ∀ m : List Int, m.length = 6 → Ev (fun k => spec_l8First.l0 k l m (a : Int)) ((T0 a).foldl (upd l) m)) 4 ?_ ?_ 0 (by omega)
  · exact key l h
  · intro m hm
    refine ev_step ?_
    simp only [spec_l8First.l0]
    refine ev_neg (by omega) ?_
    rw [T0_end]
    exact ev_some _
  · intro a ha ih m hm
    refine ev_step ?_
    simp only [spec_l8First.l0]
    refine ev_pos (by omega) ?_
    rw [T0_step ha]
    exact loop1 a (T0 (a + 1)) ha ih m hm

theorem spec_SolidFirst_ev (l : List Int) (h : l.length ≤ 1048576) : Ev (fun k => spec_SolidFirst.f k l) (firstA l) := by
  unfold spec_SolidFirst.f firstA
  refine Ev.bind (spec_l8Solid_ev l h) ?_
  by_cases c : solB l = true
  · rw [if_pos c]
    exact ev_pos c (Ev.bind (spec_first_ev (sol_len c)) (ev_some _))
  · rw [if_neg c]
    exact ev_neg c (ev_some _)

theorem sameInts_self' (l : List Int) (h : l.length ≤ 1048576) : Ev (fun k => laws_sameInts.f k l l) true := by
  unfold laws_sameInts.f
  refine ev_pos rfl ?_
  refine ev_count (fun k i => laws_sameInts.l0 k l l (i : Int)) (fun _ => true) l.length ?_ ?_ 0 (by omega)
  · refine ev_step ?_
    simp only [laws_sameInts.l0]
    exact ev_neg (by omega) (ev_some _)
  · intro i hi ih
    refine ev_step ?_
    simp only [laws_sameInts.l0]
    refine ev_pos (by omega) (ev_pos (by omega) (ev_pos (by omega) (ev_pos (by trivial) ?_)))
    rw [w64_succ (by omega)]
    exact ih

theorem total_ev (l : List Int) (h : l.length ≤ 1000) (hb : ∀ x ∈ l, 0 ≤ x ∧ x ≤ 1000) : Ev (fun k => laws_total.f k l) l.sum := by
  have sb : ∀ i : Nat, i ≤ l.length → 0 ≤ (l.take i).sum ∧ (l.take i).sum ≤ 1000 * i := by
    intro i
    induction i with
    | zero => intro _; simp
    | succ i ih =>
      intro hi
      have := ih (by omega)
      have hx := hb l[i] (List.getElem_mem _)
      rw [List.take_succ_eq_append_getElem (by omega), List.sum_append]
      simp only [List.sum_cons, List.sum_nil]
      omega
  unfold laws_total.f
  have key := ev_count (fun k i => laws_total.l0 k l (l.take i).sum (i : Int)) (fun _ => l.sum) l.length ?_ ?_ 0 (by omega)
  · exact key
  · refine ev_step ?_
    simp only [laws_total.l0]
    refine ev_neg (by omega) ?_
    rw [List.take_length]
    exact ev_some _
  · intro i hi ih
    have h1 := sb (i + 1) (by omega)
    rw [List.take_succ_eq_append_getElem hi, List.sum_append] at ih h1
    simp only [List.sum_cons, List.sum_nil, Int.add_zero] at ih h1
    refine ev_step ?_
    simp only [laws_total.l0]
    rw [rd_get hi, w64_succ (by omega), w64 (by omega)]
    exact ev_pos (by omega) (ev_pos (by omega) ih)

theorem mins_end {l f : List Int} (hl : l.length = 6) (hf : f.length = 6) (hm : ∀ z ∈ f, z ∈ l) (hmin : ∀ i < 6, f.getD 0 0 ≤ l.getD i 0) (R : Nat → Int → Nat → Option Bool) (r : Bool)
    (step : ∀ (i : Nat) (m : Int), i < 6 → Ev (fun k => R k (min m (l.getD i 0)) (i + 1)) r → Ev (fun k => R k m i) r)
    (stop : Ev (fun k => R k (f.getD 0 0) 6) r) : Ev (fun k => R k (l.getD 0 0) 0) r := by
  have h0 : f.getD 0 0 ∈ l := by
    match f, hf with
    | a :: t, _ => exact hm _ (by simp)
  obtain ⟨j, hj, hjv⟩ := List.getElem_of_mem h0
  have key := down (fun i => ∀ m : Int, f.getD 0 0 ≤ m → ((∃ j, j < i ∧ l.getD j 0 = f.getD 0 0) → m = f.getD 0 0) → Ev (fun k => R k m i) r) 6 ?_ ?_ 0 (by omega)
  · exact key _ (hmin 0 (by omega)) (fun ⟨j, h, _⟩ => by omega)
  · intro m h1 h2
    rw [h2 ⟨j, by omega, by rw [List.getD_eq_getElem?_getD, List.getElem?_eq_getElem hj]; exact hjv⟩]
    exact stop
  · intro i hi ih m h1 h2
    have hi2 := hmin i hi
    refine step i m hi (ih _ (by omega) ?_)
    rintro ⟨j, h3, h4⟩
    by_cases c : j = i
    · rw [c] at h4; omega
    · have := h2 ⟨j, by omega, h4⟩
      omega
theorem FnSolidFirst : laws_FnSolidFirst.Pure := by
  intro l _ _ hw
  refine Ev.rounds ?_
  unfold laws_FnSolidFirst.f
  by_cases h : (l.length : Int) > 1048576
  · exact ev_pos h (ev_some _)
  · refine ev_neg h ?_
    obtain ⟨s, hs, hl⟩ := l92Edges_ev l hw
    have hn : (firstA s).1.length ≤ 1048576 := Nat.le_trans (firstA_len s) (by decide)
    refine Ev.bind (a := s) (by unfold spec_DrawSolidFirst.f; exact Ev.bind hs (ev_some _)) ?_
    refine Ev.bind (impl_SolidFirst_ev s (by omega)) (Ev.bind (spec_SolidFirst_ev s (by omega)) (ev_neg (by simp) (Ev.bind (sameInts_self' _ hn) (ev_pos (by trivial) (ev_step ?_)))))
    simp only [laws_FnSolidFirst.j0]
    by_cases c : solB s = true
    · have h6 := sol_len c
      have hf := first_length h6
      have e : firstA s = (firstOf s, true) := by unfold firstA; rw [if_pos c]
      rw [e]
      obtain ⟨x, hx, ex⟩ := first_named h6
      have hmem : ∀ z ∈ firstOf s, z ∈ s := by rw [ex]; exact named_mem h6 hx
      have hin : ∀ z ∈ s, 1 ≤ z ∧ z ≤ 12 := by
        intro z hz
        unfold solB at c
        rw [Bool.and_eq_true] at c
        have := List.all_eq_true.1 c.1 z hz
        simpa [inB] using this
      have c2 : solB (firstOf s) = true := by
        unfold solB
        rw [Bool.and_eq_true]
        refine ⟨List.all_eq_true.2 fun z hz => ?_, by rw [hf]; rfl⟩
        have := hin z (hmem z hz)
        unfold inB; simp [this]
      have e2 : firstA (firstOf s) = (firstOf s, true) := by unfold firstA; rw [if_pos c2, first_first h6]
      have hf1 : (firstOf s).length ≤ 1048576 := by rw [hf]; decide
      have hs0 : (0 : Int) < s.length := by rw [h6]; decide
      have r0 : rd s 0 = s.getD 0 0 := rd_nat s 0
      have i1 := impl_SolidFirst_ev (firstOf s) hf1
      rw [e2] at i1
      dsimp only
      refine ev_neg (by simp) (Ev.bind i1 (ev_pos hs0 ?_))
      dsimp only
      rw [r0]
      clear e2 e i1
      refine mins_end h6 hf hmem (fun i hi => first_min h6 i hi) (fun k m i => laws_FnSolidFirst.l0 k s (firstOf s) (firstOf s) true m (i : Int)) true ?_ ?_
      · intro i m hi ih
        refine ev_step ?_
        simp only [laws_FnSolidFirst.l0]
        rw [mn_eq, rd_nat, w64_succ (by omega)]
        exact ev_pos (by omega) (ev_pos (by omega) (ev_pos (by omega) ih))
      · refine ev_step ?_
        simp only [laws_FnSolidFirst.l0]
        have r1 : rd (firstOf s) 0 = (firstOf s).getD 0 0 := rd_nat _ 0
        have hs1 : (0 : Int) < (firstOf s).length := by rw [hf]; decide
        refine ev_neg (by omega) (ev_pos (by trivial) (Ev.bind (sameInts_self' _ hf1) (ev_pos (by trivial) (ev_pos hs1 (ev_pos r1 ?_)))))
        refine Ev.bind (total_ev _ (by rw [hf]; decide) (fun z hz => by have := hin z (hmem z hz); omega)) (Ev.bind (total_ev _ (by rw [h6]; decide) (fun z hz => by have := hin z hz; omega)) ?_)
        rw [first_sum h6]
        simpa using ev_some _
    · have e : firstA s = ([], false) := by unfold firstA; rw [if_neg c]
      rw [e]
      exact ev_pos (by trivial) (ev_pos (by trivial) (Ev.bind (sameInts_self' _ (by decide)) (ev_some _)))

end Go.Proofs.Ytohfaffgabfakaa.Pure
