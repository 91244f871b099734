/- A promise of the given program: solids that are the same have the same number, are the same the other way round, and stand both or neither (for every code that draws two solids). -/
import Derived.Test.YtohfaffgabfakaaPFnSolidSamex9
import Derived.Test.YtohfaffgabfakaaBase
import Derived.Test.YtohfaffgabfakaaSol
import Derived.Test.YtohfaffgabfakaaFace
import Derived.Test.YtohfaffgabfakaaStand
import Derived.Test.YtohfaffgabfakaaFirst
import Derived.Test.YtohfaffgabfakaaInv
import Derived.Test.YtohfaffgabfakaaOrb
namespace Go.Proofs.Ytohfaffgabfakaa.Pure
open Go.RowKit Go.Proofs.Ytohfaffgabfakaa.PFnSolidSame Go.Proofs.YtohfaffgabfakaaW.PrintWords Go.Proofs.YtohfaffgabfakaaW.PrintLast Go.Proofs.YtohfaffgabfakaaW.PrintMore Go.Proofs.Ytohfaffgabfakaa.Base Go.Proofs.Ytohfaffgabfakaa.Sol Go.Proofs.Ytohfaffgabfakaa.Face Go.Proofs.Ytohfaffgabfakaa.Stand Go.Proofs.Ytohfaffgabfakaa.First Go.Proofs.Ytohfaffgabfakaa.Inv Go.Proofs.Ytohfaffgabfakaa.Orb
set_option linter.unusedVariables false
set_option linter.unusedSimpArgs false
theorem open_eq (l : List Int) : ∃ b, spec_l6Open.f l = some (b, 0) ∧ b.length ≤ 2000 ∧ ∀ x ∈ b, x ∈ l := by
  unfold spec_l6Open.f
  by_cases h : (l.length : Int) > 2000
  · refine ⟨l.take 2000, by rw [if_pos h, if_pos (by omega)], by simp; omega, fun x hx => List.mem_of_mem_take hx⟩
  · exact ⟨l, by rw [if_neg h], by omega, fun x hx => hx⟩
theorem u8_range {l : List Int} (h : ∀ x ∈ l, (Lit.int .u8 x).wf = true) : ∀ x ∈ l, 0 ≤ x ∧ x ≤ 255 := by
  intro x hx
  have := h x hx
  have h0 : IntKind.u8.min = 0 := rfl
  have h1 : IntKind.u8.max = 255 := rfl
  simp [Lit.wf, h0, h1] at this
  omega

/-- A draw: a number from 0 to n-1 (0 where n is less than 1), the place goes on by one. -/
theorem pick_ev (b : List Int) (p n : Int) (hp : 0 ≤ p ∧ p ≤ 1000000000) (hb : b.length ≤ 2000) (hx : ∀ x ∈ b, 0 ≤ x ∧ x ≤ 255) (hn : -1000000 ≤ n ∧ n ≤ 1000000) :
    ∃ r, Ev (fun k => spec_l6Rd_pick.f k b p n) (r, p + 1) ∧ 0 ≤ r ∧ (1 ≤ n → r < n) ∧ (n < 1 → r = 0) := by
  have e1 : wrap64 (p + 1) = p + 1 := w64 (by omega)
  have e2 : wrap64 (p + 1 - 1) = p := by rw [show p + 1 - 1 = p from by omega]; exact w64 (by omega)
  have hrd : ∀ i : Int, 0 ≤ i → i < b.length → 0 ≤ rd b i ∧ rd b i ≤ 255 := by
    intro i h0 h1
    obtain ⟨j, rfl⟩ := Int.eq_ofNat_of_zero_le h0
    rw [rd_get (by omega)]
    exact hx _ (List.getElem_mem _)
  unfold spec_l6Rd_pick.f
  rw [e1]
  by_cases h1 : n < 1
  · refine ⟨0, ev_pos h1 ?_, by omega, by omega, fun _ => rfl⟩
    refine ev_step ?_
    simp only [spec_l6Rd_pick.j0]
    exact ev_pos (by trivial) (ev_some _)
  · by_cases h2 : b.length = 0
    · refine ⟨0, ev_neg h1 ?_, by omega, by omega, fun _ => rfl⟩
      refine ev_step ?_
      simp only [spec_l6Rd_pick.j0]
      refine ev_pos ?_ (ev_some _)
      rw [h2]; rfl
    · by_cases h3 : p < b.length
      · have hr := hrd p hp.1 h3
        refine ⟨Int.tmod (wrap64 (rd b p)) n, ev_neg h1 ?_, ?_, ?_, by omega⟩
        · refine ev_step ?_
          simp only [spec_l6Rd_pick.j0, e2]
          refine ev_neg ?_ (ev_pos h3 (ev_pos hp.1 (ev_neg (by omega) (ev_some _))))
          simpa using h2
        · rw [w64 (by omega)]; exact Int.tmod_nonneg _ hr.1
        · intro _; rw [w64 (by omega)]; exact Int.tmod_lt_of_pos _ (by omega)
      · have hL : (0 : Int) < b.length := by omega
        have q0 : 0 ≤ Int.tmod p b.length := Int.tmod_nonneg _ hp.1
        have q1 : Int.tmod p b.length < b.length := Int.tmod_lt_of_pos _ hL
        have e3 : wrap64 (p * 7) = p * 7 := w64 (by omega)
        have e4 : wrap64 (p * 7 + 3) = p * 7 + 3 := w64 (by omega)
        have s0 : 0 ≤ Int.tmod (p * 7 + 3) b.length := Int.tmod_nonneg _ (by omega)
        have s1 : Int.tmod (p * 7 + 3) b.length < b.length := Int.tmod_lt_of_pos _ hL
        have hu := hrd _ q0 q1
        have hv := hrd _ s0 s1
        have hd0 : 0 ≤ Int.tdiv p b.length := Int.tdiv_nonneg hp.1 (by omega)
        have hd1 : Int.tdiv p b.length ≤ p := by
          rw [Int.tdiv_eq_ediv_of_nonneg hp.1]
          exact Int.ediv_le_self _ hp.1
        generalize hu' : rd b (Int.tmod p b.length) = u at hu
        generalize hv' : rd b (Int.tmod (p * 7 + 3) b.length) = v at hv
        generalize hd' : Int.tdiv p b.length = d at hd0 hd1
        obtain ⟨X, hX, hX0, hX1⟩ : ∃ X : Int, wrap64 (wrap64 (wrap64 (wrap64 (wrap64 u * 131) + wrap64 (wrap64 v * 1117)) + wrap64 (p * 29)) + wrap64 (wrap64 d * 53)) = X ∧ 0 ≤ X ∧ X < 4611686018427387904 := by
          refine ⟨u * 131 + v * 1117 + p * 29 + d * 53, ?_, by omega, by omega⟩
          rw [w64 (x := u) (by omega), w64 (x := u * 131) (by omega), w64 (x := v) (by omega), w64 (x := v * 1117) (by omega), w64 (x := d) (by omega), w64 (x := d * 53) (by omega), w64 (x := p * 29) (by omega),
            w64 (x := u * 131 + v * 1117) (by omega), w64 (x := u * 131 + v * 1117 + p * 29) (by omega), w64 (by omega)]
        have hY0 : 0 ≤ Int.tdiv X 64 := Int.tdiv_nonneg hX0 (by omega)
        have hY1 : Int.tdiv X 64 < 4611686018427387904 := by
          rw [Int.tdiv_eq_ediv_of_nonneg hX0]; omega
        have eY : wrap64 (Int.tdiv X 64) = Int.tdiv X 64 := w64 (by omega)
        have hz : 0 ≤ Go.bits .xor .i64 X (Int.tdiv X 64) := xor_nonneg hX0 (by omega) hY0 (by omega)
        refine ⟨Int.tmod (Go.bits .xor .i64 X (Int.tdiv X 64)) n, ev_neg h1 ?_, ?_, ?_, by omega⟩
        · refine ev_step ?_
          simp only [spec_l6Rd_pick.j0, e2, e3, e4, hu', hv', hd', hX, eY]
          refine ev_neg ?_ (ev_neg h3 (ev_neg (by omega) (ev_pos q0 (ev_pos q1 (ev_pos s0 (ev_pos s1 (ev_neg (by omega) (ev_some _))))))))
          simpa using h2
        · exact Int.tmod_nonneg _ hz
        · intro _; exact Int.tmod_lt_of_pos _ (by omega)

theorem l92Solid_loop (P0 : Int) (hP0 : 0 ≤ P0 ∧ P0 ≤ 100000) (b : List Int) (hb : b.length ≤ 2000) (hx : ∀ x ∈ b, 0 ≤ x ∧ x ≤ 255) (x4 : Int) (d : Nat) : ∀ (i : Nat) (x3 : List Int) (p : Int), i + d = 6 → x3.length = i → 0 ≤ p → p ≤ P0 - 10 * d →
    ∃ s q, Ev (fun k => spec_l92Solid.l0 k x3 x4 (i : Int) b p) (s, q) ∧ s.length ≤ 6 ∧ 0 ≤ q ∧ q ≤ P0 + 2 := by
  induction d with
  | zero =>
    intro i x3 p hi hl h0 h1
    obtain ⟨r, hr, hr0, hr1, _⟩ := pick_ev b p 40 (by omega) hb hx (by omega)
    by_cases c0 : r = 0
    · obtain ⟨r', hr', hr0', hr1', _⟩ := pick_ev b (p + 1) 6 (by omega) hb hx (by omega)
      refine ⟨x3.set r'.toNat 13, p + 1 + 1, ev_step ?_, by simp; omega, by omega, by omega⟩
      simp only [spec_l92Solid.l0]
      refine ev_neg (by omega) (Ev.bind hr (ev_pos c0 (Ev.bind hr' ?_)))
      exact ev_pos hr0' (ev_pos (by have := hr1' (by omega); simp only [hl]; omega) (ev_some _))
    · by_cases c1 : r = 1
      · refine ⟨x3.take 5, p + 1, ev_step ?_, by simp; omega, by omega, by omega⟩
        simp only [spec_l92Solid.l0]
        refine ev_neg (by omega) (Ev.bind hr (ev_neg c0 (ev_pos c1 (ev_pos (by omega) ?_))))
        exact ev_some _
      · refine ⟨x3, p + 1, ev_step ?_, by omega, by omega, by omega⟩
        simp only [spec_l92Solid.l0]
        exact ev_neg (by omega) (Ev.bind hr (ev_neg c0 (ev_neg c1 (ev_some _))))
  | succ d ih =>
    intro i x3 p hi hl h0 h1
    obtain ⟨r, hr, _, _, _⟩ := pick_ev b p 4 (by omega) hb hx (by omega)
    obtain ⟨r', hr', _, _, _⟩ := pick_ev b (p + 1) 4 (by omega) hb hx (by omega)
    obtain ⟨s, q, hs, hsl, hq⟩ := ih (i + 1) (x3 ++ [mn 12 (mx 1 (wrap64 (wrap64 (x4 + r) - r')))]) (p + 1 + 1) (by omega) (by simp; omega) (by omega) (by omega)
    refine ⟨s, q, ev_step ?_, hsl, hq⟩
    simp only [spec_l92Solid.l0]
    refine ev_pos (by omega) (Ev.bind hr (Ev.bind hr' (ev_pos (by omega) ?_)))
    rw [w64_succ (by omega)]
    exact hs
theorem l92Solid_any (b : List Int) (hb : b.length ≤ 2000) (hx : ∀ x ∈ b, 0 ≤ x ∧ x ≤ 255) (p : Int) (hp : 0 ≤ p ∧ p ≤ 50000) : ∃ s q, Ev (fun k => spec_l92Solid.f k b p) (s, q) ∧ s.length ≤ 6 ∧ 0 ≤ q ∧ q ≤ p + 100 := by
  obtain ⟨r, hr, _, _, _⟩ := pick_ev b p 9 (by omega) hb hx (by omega)
  obtain ⟨s, q, hs, hsl, hq⟩ := l92Solid_loop (p + 90) (by omega) b hb hx (wrap64 (2 + r)) 6 0 [] (p + 1) rfl rfl (by omega) (by omega)
  refine ⟨s, q, ?_, hsl, by omega, by omega⟩
  unfold spec_l92Solid.f
  exact Ev.bind hr hs
theorem l92Solid_ev (b : List Int) (hb : b.length ≤ 2000) (hx : ∀ x ∈ b, 0 ≤ x ∧ x ≤ 255) : ∃ s q, Ev (fun k => spec_l92Solid.f k b 0) (s, q) ∧ s.length ≤ 6 ∧ 0 ≤ q ∧ q ≤ 1000 := by
  obtain ⟨s, q, hs, hsl, h0, h1⟩ := l92Solid_any b hb hx 0 (by omega)
  exact ⟨s, q, hs, hsl, h0, by omega⟩

theorem l92Corners_loop (b : List Int) (hb : b.length ≤ 2000) (hx : ∀ x ∈ b, 0 ≤ x ∧ x ≤ 255) (d : Nat) : ∀ (i : Nat) (q : List Int) (p : Int), i + d = 4 → q.length = i → 0 ≤ p ∧ p ≤ 2000 + i →
    ∃ (t : List Int) (c : Int), Ev (fun k => spec_l92Corners.l0 k q (i : Int) b p) (t, c) ∧ t.length = 4 ∧ 0 ≤ c ∧ c ≤ 2010 := by
  induction d with
  | zero =>
    intro i q p hi hl hp
    obtain ⟨r, hr, _⟩ := pick_ev b p 24 (by omega) hb hx (by omega)
    by_cases c : r = 0
    · obtain ⟨s, hs, _⟩ := pick_ev b (p + 1) 5 (by omega) hb hx (by omega)
      refine ⟨q.set 0 s, p + 1 + 1, ev_step ?_, by rw [List.length_set]; omega, by omega, by omega⟩
      simp only [spec_l92Corners.l0]
      exact ev_neg (by omega) (Ev.bind hr (ev_pos c (Ev.bind hs (ev_pos (by omega) (ev_some _)))))
    · refine ⟨q, p + 1, ev_step ?_, by omega, by omega, by omega⟩
      simp only [spec_l92Corners.l0]
      exact ev_neg (by omega) (Ev.bind hr (ev_neg c (ev_some _)))
  | succ d ih =>
    intro i q p hi hl hp
    obtain ⟨r, hr, r0, r1, _⟩ := pick_ev b p ((q.length : Int) + 1) (by omega) hb hx (by omega)
    have r1 := r1 (by omega)
    obtain ⟨n, rfl⟩ := Int.eq_ofNat_of_zero_le r0
    obtain ⟨t, c, ht, h1⟩ := ih (i + 1) (q.take n ++ [(i : Int)] ++ q.drop n) (p + 1) (by omega) (by simp; omega) (by omega)
    refine ⟨t, c, ev_step ?_, h1⟩
    simp only [spec_l92Corners.l0]
    rw [w64 (x := (q.length : Int) + 1) (by omega), w64_succ (by omega)]
    refine ev_pos (by omega) (Ev.bind hr ?_)
    simp only [Option.bind_some, List.nil_append, Int.toNat_natCast]
    exact ev_pos (by omega) (ev_pos (by omega) (ev_pos (by simp; omega) (ev_pos (by simp; omega) (ev_pos (by simp; omega) ht))))
theorem l92Corners_ev (b : List Int) (hb : b.length ≤ 2000) (hx : ∀ x ∈ b, 0 ≤ x ∧ x ≤ 255) (p : Int) (hp : 0 ≤ p ∧ p ≤ 2000) :
    ∃ (t : List Int) (c : Int), Ev (fun k => spec_l92Corners.f k b p) (t, c) ∧ t.length = 4 ∧ 0 ≤ c ∧ c ≤ 2010 := by
  unfold spec_l92Corners.f
  exact l92Corners_loop b hb hx 4 0 [] p (by omega) rfl (by omega)

theorem spec_l6In_eq (a b c : Int) : spec_l6In.f a b c = some (decide (b ≤ a ∧ a ≤ c)) := by
  unfold spec_l6In.f
  by_cases h : a ≥ b
  · rw [if_pos h]; simp; intro _; exact h
  · rw [if_neg h]; simp; omega
theorem spec_l8Solid_ev (l : List Int) (h : l.length ≤ 1048576) : Ev (fun k => spec_l8Solid.f k l) (solB l) := by
  unfold spec_l8Solid.f
  have := ev_count (fun k i => spec_l8Solid.l0 k l (i : Int)) (fun i => (l.drop i).all inB && l.length == 6) l.length ?_ ?_ 0 (by omega)
  · simpa [solB] using this
  · refine ev_step ?_
    simp only [spec_l8Solid.l0]
    refine ev_neg (by omega) ?_
    have e : ((l.length : Int) == 6) = (l.length == 6) := by rw [Bool.eq_iff_iff]; simp; omega
    simpa [e] using ev_some _
  · intro i hi ih
    refine ev_step ?_
    simp only [spec_l8Solid.l0]
    refine ev_pos (by omega) (ev_pos (by omega) ?_)
    rw [rd_get hi, drop_cons hi, List.all_cons, spec_l6In_eq]
    simp only [Option.bind_some]
    by_cases h1 : 1 ≤ l[i] ∧ l[i] ≤ 12
    · refine ev_pos (by simpa using h1) ?_
      have : inB l[i] = true := by unfold inB; simp; omega
      rw [this, Bool.true_and, w64_succ (by omega)]
      exact ih
    · refine ev_neg (by simpa using h1) ?_
      have : inB l[i] = false := by unfold inB; simp; omega
      rw [this]; exact ev_some _

/-- The solid with its corners called otherwise, as both texts answer it. -/
def namedA (l x : List Int) : List Int × Bool := if solB l = true ∧ x ∈ perms then (named l x, true) else ([], false)

theorem spec_named_ev (a b c d e f : Int) (x : List Int) (hx : x ∈ perms) : Ev (fun k => spec_l8Named.f k [a, b, c, d, e, f] x) (named [a, b, c, d, e, f] x) := by
  refine Ev.of (spec_l8Named.mono _ _) (k := 30) ?_
  simp only [perms, List.mem_cons, List.not_mem_nil, or_false] at hx
  rcases hx with rfl | rfl | rfl | rfl | rfl | rfl | rfl | rfl | rfl | rfl | rfl | rfl | rfl | rfl | rfl | rfl | rfl | rfl | rfl | rfl | rfl | rfl | rfl | rfl <;> kernel_rfl

/-- Which bits are seen: the loop of SolidNamed over four corners, as plain numbers. -/
def seenI : List Int → Int → Int
  | [], acc => acc
  | x :: t, acc => seenI t (Go.bits .or .i64 acc (shl .i64 1 x))
theorem all256s : ∀ a ∈ ([0, 1, 2, 3] : List Int), ∀ b ∈ ([0, 1, 2, 3] : List Int), ∀ c ∈ ([0, 1, 2, 3] : List Int), ∀ d ∈ ([0, 1, 2, 3] : List Int), decide (seenI [a, b, c, d] 0 = 15) = perms.contains [a, b, c, d] := by decide +kernel
theorem seen_bad (s x : List Int) (hx : x.length = 4) (d : Nat) : ∀ (i : Nat) (acc : Int), i + d = 4 → (∃ j, i ≤ j ∧ j < 4 ∧ (x.getD j 0 < 0 ∨ 3 < x.getD j 0)) → Ev (fun k => spec_SolidNamed.l0 k s x acc (i : Int)) ([], false) := by
  induction d with
  | zero => intro i acc hi ⟨j, h⟩; omega
  | succ d ih =>
    intro i acc hi ⟨j, h1, h2, h3⟩
    refine ev_step ?_
    simp only [spec_SolidNamed.l0]
    refine ev_pos (by omega) (ev_pos (by omega) (ev_pos (by omega) ?_))
    rw [spec_l6In_eq, rd_nat]
    simp only [Option.bind_some]
    by_cases c : 0 ≤ x.getD i 0 ∧ x.getD i 0 ≤ 3
    · refine ev_pos (by simpa using c) (ev_pos c.1 ?_)
      rw [w64_succ (by omega)]
      refine ih (i + 1) _ (by omega) ⟨j, ?_, h2, h3⟩
      rcases Nat.eq_or_lt_of_le h1 with rfl | h4
      · omega
      · exact h4
    · exact ev_neg (by simpa using c) (ev_some _)
theorem seen_good (s x : List Int) (hx : x.length = 4) (hr : ∀ j, j < 4 → 0 ≤ x.getD j 0 ∧ x.getD j 0 ≤ 3) (R : List Int × Bool)
    (hR : Ev (fun k => if seenI x 0 = 15 then ((spec_l8Named.f k s x).bind fun t => some (t, true)) else some ([], false)) R) : Ev (fun k => spec_SolidNamed.l0 k s x 0 0) R := by
  have key : ∀ (d i : Nat) (acc : Int), i + d = 4 → seenI (x.drop i) acc = seenI x 0 → Ev (fun k => spec_SolidNamed.l0 k s x acc (i : Int)) R := by
    intro d
    induction d with
    | zero =>
      intro i acc hi he
      refine ev_step ?_
      simp only [spec_SolidNamed.l0]
      refine ev_neg (by omega) ?_
      have : acc = seenI x 0 := by rw [← he, List.drop_of_length_le (by omega)]; rfl
      rw [this]
      exact hR
    | succ d ih =>
      intro i acc hi he
      have hri := hr i (by omega)
      refine ev_step ?_
      simp only [spec_SolidNamed.l0]
      refine ev_pos (by omega) (ev_pos (by omega) (ev_pos (by omega) ?_))
      rw [spec_l6In_eq, rd_nat]
      simp only [Option.bind_some]
      refine ev_pos (by simpa using hri) (ev_pos hri.1 ?_)
      rw [w64_succ (by omega)]
      refine ih (i + 1) _ (by omega) ?_
      rw [← he, drop_cons (by omega : i < x.length)]
      have : x.getD i 0 = x[i]'(by omega) := by simp [show i < x.length by omega]
      rw [this]; rfl
  exact key 4 0 0 rfl rfl
theorem spec_SolidNamed_ev (l x : List Int) (h : l.length ≤ 1048576) : Ev (fun k => spec_SolidNamed.f k l x) (namedA l x) := by
  unfold spec_SolidNamed.f namedA
  refine Ev.bind (spec_l8Solid_ev l h) ?_
  by_cases c : solB l = true
  · refine ev_pos c (ev_step ?_)
    simp only [spec_SolidNamed.j0]
    by_cases c4 : x.length = 4
    · refine ev_neg (by simp; omega) ?_
      by_cases hr : ∀ j, j < 4 → 0 ≤ x.getD j 0 ∧ x.getD j 0 ≤ 3
      · refine seen_good l x c4 hr _ ?_
        obtain ⟨p, q, r, s, rfl⟩ := four_of c4
        have k0 := hr 0 (by decide)
        have k1 := hr 1 (by decide)
        have k2 := hr 2 (by decide)
        have k3 := hr 3 (by decide)
        simp only [List.getD_cons_zero, List.getD_cons_succ] at k0 k1 k2 k3
        have e := all256s p (in4 k0.1 k0.2) q (in4 k1.1 k1.2) r (in4 k2.1 k2.2) s (in4 k3.1 k3.2)
        by_cases c5 : seenI [p, q, r, s] 0 = 15
        · rw [decide_eq_true c5] at e
          have hm : [p, q, r, s] ∈ perms := by simpa using e.symm
          rw [if_pos ⟨c, hm⟩]
          refine ev_pos c5 ?_
          obtain ⟨a, b, c, d, e, f, rfl, _⟩ := sol_six c
          exact Ev.bind (spec_named_ev _ _ _ _ _ _ _ hm) (ev_some _)
        · rw [decide_eq_false c5] at e
          have hm : ¬ [p, q, r, s] ∈ perms := by
            intro hm
            rw [List.contains_iff_mem.2 hm] at e
            cases e
          rw [if_neg (fun hh => hm hh.2)]
          exact ev_neg c5 (ev_some _)
      · have hm : ¬ x ∈ perms := by
          intro hm
          apply hr
          have : ∀ y ∈ perms, ∀ j, j < 4 → 0 ≤ y.getD j 0 ∧ y.getD j 0 ≤ 3 := by decide +kernel
          exact this x hm
        rw [if_neg (fun hh => hm hh.2)]
        refine seen_bad l x c4 4 0 0 rfl ?_
        have ⟨j, hj⟩ := Classical.not_forall.1 hr
        have ⟨hj4, hj2⟩ := Classical.not_imp.1 hj
        exact ⟨j, by omega, hj4, by omega⟩
    · have hm : ¬ x ∈ perms := by
        intro hm
        have : ∀ y ∈ perms, y.length = 4 := by decide
        exact c4 (this x hm)
      rw [if_neg (fun hh => hm hh.2)]
      exact ev_pos (by simp; omega) (ev_some _)
  · rw [if_neg (fun hc => c hc.1)]
    refine ev_neg c (ev_step ?_)
    simp only [spec_SolidNamed.j0]
    exact ev_pos (by trivial) (ev_some _)

theorem impl_SolidIn_ev (l : List Int) (h : l.length ≤ 1048576) : Ev (fun k => impl_SolidIn.f k l) (solB l) := by
  unfold impl_SolidIn.f
  have := ev_count (fun k i => impl_SolidIn.l0 k l l (l.length : Int) (i : Int)) (fun i => (l.drop i).all inB && l.length == 6) l.length ?_ ?_ 0 (by omega)
  · simpa [solB] using this
  · refine ev_step ?_
    simp only [impl_SolidIn.l0]
    refine ev_neg (by omega) ?_
    have e : ((l.length : Int) == 6) = (l.length == 6) := by rw [Bool.eq_iff_iff]; simp; omega
    simpa [e] using ev_some _
  · intro i hi ih
    refine ev_step ?_
    simp only [impl_SolidIn.l0]
    refine ev_pos (by omega) (ev_pos (by omega) (ev_pos (by omega) ?_))
    rw [rd_get hi, drop_cons hi, List.all_cons]
    by_cases h1 : l[i] < 1
    · refine ev_pos h1 ?_
      have : inB l[i] = false := by unfold inB; simp; omega
      rw [this]; exact ev_some _
    · refine ev_neg h1 ?_
      by_cases h2 : l[i] > 12
      · refine ev_pos h2 ?_
        have : inB l[i] = false := by unfold inB; simp; omega
        rw [this]; exact ev_some _
      · refine ev_neg h2 ?_
        have : inB l[i] = true := by unfold inB; simp; omega
        rw [this, Bool.true_and, w64_succ (by omega)]
        exact ih

/-- Which lists have each corner once: those of 'perms'. -/
theorem index_ev (l : List Int) (x : Int) (h : l.length ≤ 1048576) : ∃ r, Ev (fun k => slices_Index_int_int.f k l x) r ∧ (decide (r ≥ 0) = l.contains x) := by
  unfold slices_Index_int_int.f
  have := ev_count (fun k i => slices_Index_int_int.l0 k l x (l.length : Int) (i : Int)) (fun i => if (l.drop i).contains x then ((i + (l.drop i).idxOf x : Nat) : Int) else -1) l.length ?_ ?_ 0 (by omega)
  · refine ⟨_, this, ?_⟩
    simp only [List.drop_zero]
    by_cases c : l.contains x
    · rw [if_pos c, c]; simp
    · rw [if_neg c]; simp at c; simp [c]
  · refine ev_step ?_
    simp only [slices_Index_int_int.l0]
    refine ev_neg (by omega) ?_
    simpa using ev_some _
  · intro i hi ih
    refine ev_step ?_
    simp only [slices_Index_int_int.l0]
    refine ev_pos (by omega) (ev_pos (by omega) (ev_pos (by omega) ?_))
    rw [rd_get hi, drop_cons hi]
    by_cases c : x = l[i]
    · refine ev_pos c ?_
      have e1 : ∀ t : List Int, (l[i] :: t).contains x = true := fun t => by simp [c]
      have e2 : ∀ t : List Int, (l[i] :: t).idxOf x = 0 := fun t => by rw [List.idxOf_cons]; simp [c]
      rw [if_pos (e1 _), e2]
      exact ev_some _
    · refine ev_neg c ?_
      rw [w64_succ (by omega)]
      have e : ∀ t : List Int, (l[i] :: t).contains x = t.contains x := fun t => by simp [c]
      rw [e]
      by_cases c2 : (l.drop (i + 1)).contains x
      · rw [if_pos c2] at ih ⊢
        have e2 : ∀ t : List Int, (l[i] :: t).idxOf x = t.idxOf x + 1 := fun t => by
          rw [List.idxOf_cons, show (l[i] == x) = false from by simp; exact fun h => c h.symm]; rfl
        rw [e2, show i + ((l.drop (i + 1)).idxOf x + 1) = i + 1 + (l.drop (i + 1)).idxOf x from by omega]
        exact ih
      · rw [if_neg c2] at ih ⊢
        exact ih
theorem contains_ev (l : List Int) (x : Int) (h : l.length ≤ 1048576) : Ev (fun k => slices_Contains_int_int.f k l x) (l.contains x) := by
  obtain ⟨r, hr, hd⟩ := index_ev l x h
  unfold slices_Contains_int_int.f
  refine Ev.bind hr ?_
  rw [hd]
  exact ev_some _
theorem impl_isOrder_ev (l : List Int) (h : l.length ≤ 1048576) : Ev (fun k => impl_isOrder.f k l) (ordB l 0) := by
  unfold impl_isOrder.f
  refine ev_count (fun k i => impl_isOrder.l0 k l l (l.length : Int) (i : Int)) (fun i => ordB l i) l.length ?_ ?_ 0 (by omega)
  · refine ev_step ?_
    simp only [impl_isOrder.l0]
    refine ev_neg (by omega) ?_
    have e : ((l.length : Int) == 4) = (l.length == 4) := by rw [Bool.eq_iff_iff]; simp; omega
    rw [ordB_end, e]; exact ev_some _
  · intro i hi ih
    refine ev_step ?_
    simp only [impl_isOrder.l0]
    refine ev_pos (by omega) (ev_pos (by omega) (ev_pos (by omega) ?_))
    rw [rd_get hi, ordB_step hi, Int.toNat_natCast]
    by_cases h1 : l[i] < 0
    · refine ev_pos h1 ?_
      rw [if_pos (by omega)]; exact ev_some _
    · refine ev_neg h1 ?_
      by_cases h2 : l[i] > 3
      · refine ev_pos h2 ?_
        rw [if_pos (by omega)]; exact ev_some _
      · refine ev_neg h2 (ev_pos (by omega) (Ev.bind (contains_ev _ _ (by simp; omega)) ?_))
        by_cases h3 : (l.take i).contains l[i]
        · refine ev_pos h3 ?_
          rw [if_pos (Or.inr (Or.inr h3))]; exact ev_some _
        · refine ev_neg h3 ?_
          rw [if_neg (by simp only [not_or]; exact ⟨by omega, by omega, h3⟩), w64_succ (by omega)]
          exact ih

/-- Corners called otherwise, by each of the 24 orders: what both texts answer. -/
theorem impl_named_ev (a b c d e f : Int) (x : List Int) (hx : x ∈ perms) : Ev (fun k => impl_named.f k [a, b, c, d, e, f] x) (named [a, b, c, d, e, f] x) := by
  refine Ev.of (impl_named.mono _ _) (k := 30) ?_
  simp only [perms, List.mem_cons, List.not_mem_nil, or_false] at hx
  rcases hx with rfl | rfl | rfl | rfl | rfl | rfl | rfl | rfl | rfl | rfl | rfl | rfl | rfl | rfl | rfl | rfl | rfl | rfl | rfl | rfl | rfl | rfl | rfl | rfl <;> kernel_rfl

theorem compare_int_eq (a b : Int) : cmp_Compare_int.f a b = some (if a < b then -1 else if a > b then 1 else 0) := by
  unfold cmp_Compare_int.f cmp_isNaN_int.f
  have : ∀ x : Int, (x != x) = false := fun x => by simp
  simp only [this, Option.bind_some]
  rw [if_neg (by decide), if_neg (by decide)]
  split
  · rfl
  · split <;> rfl
theorem compare_ev (s t : List Int) (hl : s.length = t.length) (h : s.length ≤ 1048576) : ∃ n : Int, Ev (fun k => slices_Compare_int_int.f k s t) n ∧ (decide (n < 0) = lx s t) := by
  unfold slices_Compare_int_int.f
  have key := down (fun i => ∃ n : Int, Ev (fun k => slices_Compare_int_int.l0 k s t s (s.length : Int) (i : Int)) n ∧ (decide (n < 0) = lx (s.drop i) (t.drop i))) s.length ?_ ?_ 0 (by omega)
  · exact key
  · refine ⟨0, ev_step ?_, ?_⟩
    · simp only [slices_Compare_int_int.l0]
      exact ev_neg (by omega) (ev_neg (by omega) (ev_some _))
    · rw [List.drop_length]; rfl
  · intro i hi ⟨n, hn, hd⟩
    have hit : i < t.length := by omega
    rw [drop_cons hi, drop_cons hit]
    simp only [lx]
    by_cases c : s[i] = t[i]
    · refine ⟨n, ev_step ?_, by rw [if_pos c]; exact hd⟩
      simp only [slices_Compare_int_int.l0]
      rw [rd_get hi, rd_get hit, compare_int_eq, w64_succ (by omega)]
      simp only [Option.bind_some]
      exact ev_pos (by omega) (ev_pos (by omega) (ev_pos (by omega) (ev_neg (by omega) (ev_pos (by omega) (ev_pos (by rw [if_neg (by omega), if_neg (by omega)]) hn)))))
    · rcases Int.lt_or_gt_of_ne c with d | d
      · refine ⟨-1, ev_step ?_, by rw [if_neg c, decide_eq_true d]; rfl⟩
        simp only [slices_Compare_int_int.l0]
        rw [rd_get hi, rd_get hit, compare_int_eq, if_pos d]
        simp only [Option.bind_some]
        exact ev_pos (by omega) (ev_pos (by omega) (ev_pos (by omega) (ev_neg (by omega) (ev_pos (by omega) (ev_neg (by decide) (ev_some _))))))
      · refine ⟨1, ev_step ?_, by rw [if_neg c, decide_eq_false (p := s[i] < t[i]) (by omega)]; rfl⟩
        simp only [slices_Compare_int_int.l0]
        rw [rd_get hi, rd_get hit, compare_int_eq, if_neg (by omega), if_pos d]
        simp only [Option.bind_some]
        exact ev_pos (by omega) (ev_pos (by omega) (ev_pos (by omega) (ev_neg (by omega) (ev_pos (by omega) (ev_neg (by decide) (ev_some _))))))
theorem quad_eq {i : Nat} (h : i < 256) : [wrap64 (Int.tdiv (i : Int) 64), Int.tmod (wrap64 (Int.tdiv (i : Int) 16)) 4, Int.tmod (wrap64 (Int.tdiv (i : Int) 4)) 4, Int.tmod (i : Int) 4] = quad i := by
  have e1 : Int.tdiv (i : Int) 64 = ((i / 64 : Nat) : Int) := (Int.ofNat_tdiv i 64).symm
  have e2 : Int.tdiv (i : Int) 16 = ((i / 16 : Nat) : Int) := (Int.ofNat_tdiv i 16).symm
  have e3 : Int.tdiv (i : Int) 4 = ((i / 4 : Nat) : Int) := (Int.ofNat_tdiv i 4).symm
  have m : ∀ x : Nat, Int.tmod (x : Int) 4 = ((x % 4 : Nat) : Int) := fun x => (Int.ofNat_tmod x 4).symm
  rw [e1, e2, e3, w64 (x := ((i / 64 : Nat) : Int)) (by omega), w64 (x := ((i / 16 : Nat) : Int)) (by omega), w64 (x := ((i / 4 : Nat) : Int)) (by omega), m, m, m]
  rfl
theorem six_of {l : List Int} (h : l.length = 6) : ∃ a b c d e f, l = [a, b, c, d, e, f] := by
  match l, h with
  | [a, b, c, d, e, f], _ => exact ⟨a, b, c, d, e, f, rfl⟩
theorem impl_first_ev {l : List Int} (h : l.length = 6) : Ev (fun k => impl_firstNamed.f k l) (firstOf l) := by
  unfold impl_firstNamed.f firstOf
  rw [← from256_zero]
  have key := down (fun i => ∀ b : List Int, b.length = 6 → Ev (fun k => impl_firstNamed.l0 k l b (i : Int)) ((from256 i).foldl (upd l) b)) 256 ?_ ?_ 0 (by omega)
  · exact key l h
  · intro b hb
    refine ev_step ?_
    simp only [impl_firstNamed.l0]
    refine ev_neg (by omega) ?_
    unfold slices_Clone_int_int.f
    simp only [Option.bind_some, List.nil_append]
    rw [from256_end]
    simp only [hb]
    exact ev_some _
  · intro i hi ih b hb
    refine ev_step ?_
    simp only [impl_firstNamed.l0]
    refine ev_pos (by omega) ?_
    rw [quad_eq hi, w64_succ (by omega), from256_step hi]
    simp only [Option.bind_some]
    refine Ev.bind (impl_isOrder_ev (quad i) (by show 4 ≤ 1048576; decide)) ?_
    by_cases c : perms.contains (quad i) = true
    · have hp : quad i ∈ perms := List.contains_iff_mem.1 c
      rw [if_pos c, List.foldl_cons]
      obtain ⟨a1, a2, a3, a4, a5, a6, rfl⟩ := six_of h
      obtain ⟨n, hn, hd⟩ := compare_ev (named [a1, a2, a3, a4, a5, a6] (quad i)) b (by rw [hb]; rfl) (by show 6 ≤ 1048576; decide)
      refine ev_pos ((ordB_iff _).2 hp) (Ev.bind (impl_named_ev _ _ _ _ _ _ _ hp) (Ev.bind hn ?_))
      have ih' := ih (upd [a1, a2, a3, a4, a5, a6] b (quad i)) (upd_length hb)
      unfold upd at ih'
      unfold upd
      by_cases z : lx (named [a1, a2, a3, a4, a5, a6] (quad i)) b = true
      · rw [if_pos z] at ih' ⊢
        rw [z] at hd
        exact ev_pos (of_decide_eq_true hd) ih'
      · rw [if_neg z] at ih' ⊢
        rw [Bool.eq_false_iff.2 z] at hd
        exact ev_neg (of_decide_eq_false hd) ih'
    · rw [if_neg c]
      refine ev_neg (fun hc => c (List.contains_iff_mem.2 ((ordB_iff _).1 hc))) ?_
      exact ih b hb
def firstA (l : List Int) : List Int × Bool := if solB l = true then (firstOf l, true) else ([], false)
theorem sol_len {l : List Int} (h : solB l = true) : l.length = 6 := by
  obtain ⟨a, b, c, d, e, f, rfl, _⟩ := sol_six h
  rfl
theorem firstA_len (l : List Int) : (firstA l).1.length ≤ 6 := by
  unfold firstA
  by_cases c : solB l = true
  · rw [if_pos c]; dsimp only; rw [first_length (sol_len c)]; decide
  · rw [if_neg c]; exact Nat.zero_le _

def sameA (l x : List Int) : Bool := solB l && (solB x && firstOf l == firstOf x)
theorem slices_equal_ev (s t : List Int) (h : s.length ≤ 1048576) (hl : s.length = t.length) : Ev (fun k => slices_Equal_int_int.f k s t) (s == t) := by
  unfold slices_Equal_int_int.f
  refine ev_pos (by omega) ?_
  have key := ev_count (fun k i => slices_Equal_int_int.l0 k s t (s.length : Int) (i : Int)) (fun i => s.drop i == t.drop i) s.length ?_ ?_ 0 (by omega)
  · exact key
  · refine ev_step ?_
    simp only [slices_Equal_int_int.l0]
    refine ev_neg (by omega) ?_
    rw [List.drop_length, hl, List.drop_length]
    exact ev_some _
  · intro i hi ih
    have hit : i < t.length := by omega
    refine ev_step ?_
    simp only [slices_Equal_int_int.l0]
    rw [drop_cons hi, drop_cons hit, rd_get hi, rd_get hit, w64_succ (by omega)]
    refine ev_pos (by omega) (ev_pos (by omega) (ev_pos (by omega) (ev_pos (by omega) ?_)))
    have e : (s[i] :: s.drop (i + 1) == t[i] :: t.drop (i + 1)) = (s[i] == t[i] && s.drop (i + 1) == t.drop (i + 1)) := rfl
    rw [e]
    by_cases c : s[i] = t[i]
    · have : (s[i] == t[i]) = true := by simpa using c
      rw [this, Bool.true_and]
      exact ev_pos c ih
    · have : (s[i] == t[i]) = false := by simpa using c
      rw [this, Bool.false_and]
      exact ev_neg c (ev_some _)
theorem impl_SolidSame_ev (l x : List Int) (h : l.length ≤ 1048576) (hx : x.length ≤ 1048576) : Ev (fun k => impl_SolidSame.f k l x) (sameA l x) := by
  unfold impl_SolidSame.f sameA
  refine Ev.bind (impl_SolidIn_ev l h) ?_
  by_cases c : solB l = true
  · rw [c, Bool.true_and]
    refine ev_pos rfl (Ev.bind (impl_SolidIn_ev x hx) ?_)
    by_cases d : solB x = true
    · rw [d, Bool.true_and]
      have h1 := first_length (sol_len c)
      have h2 := first_length (sol_len d)
      exact ev_pos rfl (Ev.bind (impl_first_ev (sol_len c)) (Ev.bind (impl_first_ev (sol_len d)) (Ev.bind (slices_equal_ev _ _ (by omega) (by omega)) (ev_some _))))
    · rw [Bool.eq_false_iff.2 d, Bool.false_and]
      exact ev_neg (by decide) (ev_some _)
  · rw [Bool.eq_false_iff.2 c, Bool.false_and]
    exact ev_neg (by decide) (ev_some _)

theorem less_ev (s t : List Int) (hl : s.length = t.length) (h : s.length ≤ 1048576) : Ev (fun k => spec_l8Less.f k s t) (lx s t) := by
  unfold spec_l8Less.f
  have key := ev_count (fun k i => spec_l8Less.l0 k s t (i : Int)) (fun i => lx (s.drop i) (t.drop i)) s.length ?_ ?_ 0 (by omega)
  · exact key
  · refine ev_step ?_
    simp only [spec_l8Less.l0]
    refine ev_neg (by omega) ?_
    rw [List.drop_length]
    exact ev_some _
  · intro i hi ih
    have hit : i < t.length := by omega
    refine ev_step ?_
    simp only [spec_l8Less.l0]
    rw [drop_cons hi, drop_cons hit, rd_get hi, rd_get hit, w64_succ (by omega)]
    simp only [lx]
    refine ev_pos (by omega) (ev_pos (by omega) (ev_pos (by omega) ?_))
    by_cases c : s[i] = t[i]
    · rw [if_pos c]
      exact ev_pos c ih
    · rw [if_neg c]
      exact ev_neg c (ev_some _)
theorem spec_first_ev {l : List Int} (h : l.length = 6) : Ev (fun k => spec_l8First.f k l) (firstOf l) := by
  unfold spec_l8First.f firstOf
  simp only [Option.bind_some, List.nil_append, List.length_nil, Nat.zero_add]
  refine ev_pos (by omega) ?_
  rw [← T0_zero]
  have loop2 : ∀ (a b : Nat) (r : List Int) (rest : List (List Int)), a < 4 → b < 4 →
      (∀ m : List Int, m.length = 6 → Ev (fun k => spec_l8First.l1 k l m (a : Int) ((b + 1 : Nat) : Int)) (rest.foldl (upd l) m)) →
      ∀ m : List Int, m.length = 6 → Ev (fun k => spec_l8First.l2 k l m (a : Int) (b : Int) 0) ((T2 a b 0 ++ rest).foldl (upd l) m) := by
    intro a b r rest ha hb hk
    have key := down (fun c => ∀ m : List Int, m.length = 6 → Ev (fun k => spec_l8First.l2 k l m (a : Int) (b : Int) (c : Int)) ((T2 a b c ++ rest).foldl (upd l) m)) 4 ?_ ?_ 0 (by omega)
    · exact key
    · intro m hm
      refine ev_step ?_
      simp only [spec_l8First.l2]
      refine ev_neg (by omega) ?_
      rw [T2_end, List.nil_append, w64_succ (by omega)]
      exact hk m hm
    · intro c hc ih m hm
      have e6 : wrap64 (wrap64 (wrap64 (6 - (a : Int)) - (b : Int)) - (c : Int)) = 6 - (a : Int) - (b : Int) - (c : Int) := by
        rw [w64 (x := 6 - (a : Int)) (by omega), w64 (x := 6 - (a : Int) - (b : Int)) (by omega), w64 (by omega)]
      have body : Ev (fun k => spec_l8First.j3 k l m (a : Int) (b : Int) (c : Int) (6 - (a : Int) - (b : Int) - (c : Int)) (skip a b c)) ((T2 a b c ++ rest).foldl (upd l) m) := by
        refine ev_step ?_
        simp only [spec_l8First.j3]
        rw [w64_succ (by omega), T2_step hc]
        by_cases z : skip a b c = true
        · rw [if_pos z]
          exact ev_pos z (ih m hm)
        · rw [if_neg z, List.cons_append, List.foldl_cons]
          have hp := trio_perm ha hb hc (Bool.eq_false_iff.2 z)
          have ih' := ih (upd l m (trio a b c)) (upd_length hm)
          obtain ⟨a1, a2, a3, a4, a5, a6, rfl⟩ := six_of h
          refine ev_neg z (Ev.bind (spec_named_ev _ _ _ _ _ _ _ hp) (Ev.bind (less_ev _ m (by rw [hm]; rfl) (by show 6 ≤ 1048576; decide)) ?_))
          unfold upd at ih'
          unfold upd
          by_cases y : lx (named [a1, a2, a3, a4, a5, a6] (trio a b c)) m = true
          · rw [if_pos y] at ih' ⊢
            exact ev_pos y ih'
          · rw [if_neg y] at ih' ⊢
            exact ev_neg y ih'
      refine ev_step ?_
      simp only [spec_l8First.l2]
      rw [e6]
      refine ev_pos (by omega) ?_
      by_cases c1 : (a : Int) = (b : Int)
      · have s : skip a b c = true := by obtain rfl : a = b := by omega
                                         simp [skip]
        rw [s] at body
        exact ev_pos c1 body
      · refine ev_neg c1 ?_
        by_cases c2 : (a : Int) = (c : Int)
        · have s : skip a b c = true := by obtain rfl : a = c := by omega
                                           simp [skip]
          rw [s] at body
          exact ev_pos c2 body
        · refine ev_neg c2 ?_
          have s : skip a b c = ((b : Int) == (c : Int)) := by
            have e1 : (a == b) = false := by simp; omega
            have e2 : (a == c) = false := by simp; omega
            unfold skip
            rw [e1, e2, Bool.false_or, Bool.false_or, Bool.eq_iff_iff]
            simp
            omega
          rw [s] at body
          exact body
  have loop1 : ∀ (a : Nat) (rest : List (List Int)), a < 4 →
      (∀ m : List Int, m.length = 6 → Ev (fun k => spec_l8First.l0 k l m ((a + 1 : Nat) : Int)) (rest.foldl (upd l) m)) →
      ∀ m : List Int, m.length = 6 → Ev (fun k => spec_l8First.l1 k l m (a : Int) 0) ((T1 a 0 ++ rest).foldl (upd l) m) := by
    intro a rest ha hk
    have key := down (fun b => ∀ m : List Int, m.length = 6 → Ev (fun k => spec_l8First.l1 k l m (a : Int) (b : Int)) ((T1 a b ++ rest).foldl (upd l) m)) 4 ?_ ?_ 0 (by omega)
    · exact key
    · intro m hm
      refine ev_step ?_
      simp only [spec_l8First.l1]
      refine ev_neg (by omega) ?_
      rw [T1_end, List.nil_append, w64_succ (by omega)]
      exact hk m hm
    · intro b hb ih m hm
      refine ev_step ?_
      simp only [spec_l8First.l1]
      refine ev_pos (by omega) ?_
      rw [T1_step hb, List.append_assoc]
      exact loop2 a b l (T1 a (b + 1) ++ rest) ha hb ih m hm
  have key := down (fun a => ∀ m : List Int, m.length = 6 → Ev (fun k => spec_l8First.l0 k l m (a : Int)) ((T0 a).foldl (upd l) m)) 4 ?_ ?_ 0 (by omega)
  · exact key l h
  · intro m hm
    refine ev_step ?_
    simp only [spec_l8First.l0]
    refine ev_neg (by omega) ?_
    rw [T0_end]
    exact ev_some _
  · intro a ha ih m hm
    refine ev_step ?_
    simp only [spec_l8First.l0]
    refine ev_pos (by omega) ?_
    rw [T0_step ha]
    exact loop1 a (T0 (a + 1)) ha ih m hm

theorem spec_SolidSame_ev (l x : List Int) (h : l.length ≤ 1048576) (hx : x.length ≤ 1048576) : Ev (fun k => spec_SolidSame.f k l x) (sameA l x) := by
  unfold spec_SolidSame.f sameA
  refine Ev.bind (spec_l8Solid_ev l h) ?_
  by_cases c : solB l = true
  · rw [c, Bool.true_and]
    refine ev_pos rfl (Ev.bind (spec_l8Solid_ev x hx) ?_)
    by_cases d : solB x = true
    · rw [d, Bool.true_and]
      have h1 := first_length (sol_len c)
      have h2 := first_length (sol_len d)
      refine ev_step ?_
      simp only [spec_SolidSame.j0]
      refine ev_neg (by simp) (Ev.bind (spec_first_ev (sol_len c)) (Ev.bind (spec_first_ev (sol_len d)) (Ev.bind (less_ev _ _ (by omega) (by omega)) ?_)))
      by_cases z : lx (firstOf l) (firstOf x) = true
      · have : (firstOf l == firstOf x) = false := by
          rw [beq_eq_false_iff_ne]; intro e; rw [e, lx_irrefl] at z; cases z
        rw [this]
        exact ev_pos z (ev_some _)
      · refine ev_neg z (Ev.bind (less_ev _ _ (by omega) (by omega)) ?_)
        have : (firstOf l == firstOf x) = !lx (firstOf x) (firstOf l) := by
          cases y : lx (firstOf x) (firstOf l) with
          | true =>
            rw [Bool.not_true, beq_eq_false_iff_ne]; intro e; rw [e, lx_irrefl] at y; cases y
          | false =>
            rw [Bool.not_false, beq_iff_eq]
            exact lx_total _ _ (by omega) (Bool.eq_false_iff.2 z) y
        rw [this]
        exact ev_some _
    · rw [Bool.eq_false_iff.2 d, Bool.false_and]
      refine ev_step ?_
      simp only [spec_SolidSame.j0]
      exact ev_pos (by decide) (ev_some _)
  · rw [Bool.eq_false_iff.2 c, Bool.false_and]
    refine ev_neg (by decide) (ev_step ?_)
    simp only [spec_SolidSame.j0]
    exact ev_pos (by trivial) (ev_some _)

theorem impl_number_eq (a b c d e f : Int) : impl_numberOf.f [a, b, c, d, e, f] = some (wrap64 (number a b c d e f)) := by
  unfold impl_numberOf.f number
  have r0 : rd [a, b, c, d, e, f] 0 = a := rfl
  have r1 : rd [a, b, c, d, e, f] 1 = b := rfl
  have r2 : rd [a, b, c, d, e, f] 2 = c := rfl
  have r3 : rd [a, b, c, d, e, f] 3 = d := rfl
  have r4 : rd [a, b, c, d, e, f] 4 = e := rfl
  have r5 : rd [a, b, c, d, e, f] 5 = f := rfl
  have hl : ([a, b, c, d, e, f].length : Int) = 6 := rfl
  rw [r0, r1, r2, r3, r4, r5, hl, if_pos (by decide), if_pos (by decide), if_pos (by decide), if_pos (by decide), if_pos (by decide), if_pos (by decide)]
  simp only [w_add_l, w_add_r, w_sub_l, w_sub_r, w_mul_l, w_mul_r]

/-- The number as both texts answer it. -/
def numA (l : List Int) : Int × Bool := if solB l then (wrap64 (num l), true) else (0, false)
theorem numA_six {a b c d e f : Int} (h : solB [a, b, c, d, e, f] = true) : numA [a, b, c, d, e, f] = (wrap64 (number a b c d e f), true) := by
  unfold numA; rw [if_pos h]; rfl

theorem impl_SolidNumber_ev (l : List Int) (h : l.length ≤ 1048576) : Ev (fun k => impl_SolidNumber.f k l) (numA l) := by
  unfold impl_SolidNumber.f numA
  refine Ev.bind (impl_SolidIn_ev l h) ?_
  by_cases c : solB l = true
  · refine ev_pos c ?_
    rw [if_pos c]
    obtain ⟨a, b, c, d, e, f, rfl, _⟩ := sol_six c
    rw [impl_number_eq]
    exact ev_some _
  · refine ev_neg c ?_
    rw [if_neg c]; exact ev_some _

theorem isRuler_ev (l : List Int) (h : l.length ≤ 1048576) : ∃ b, Ev (fun k => impl_isRuler.f k l) b ∧ (b = true ↔ (∀ i (h : i < l.length), 1 ≤ l[i] ∧ l[i] ≤ 60) ∧ 1 ≤ l.length ∧ l.length ≤ 9) := by
  unfold impl_isRuler.f
  have key := down (fun i => (∀ j (hj : j < l.length), j < i → 1 ≤ l[j] ∧ l[j] ≤ 60) → ∃ b, Ev (fun k => impl_isRuler.l0 k l l (l.length : Int) (i : Int)) b ∧ (b = true ↔ (∀ i (h : i < l.length), 1 ≤ l[i] ∧ l[i] ≤ 60) ∧ 1 ≤ l.length ∧ l.length ≤ 9)) l.length ?_ ?_ 0 (by omega)
  · exact key (fun j _ hj => by omega)
  · intro ha
    by_cases c : (l.length : Int) ≥ 1
    · refine ⟨decide ((l.length : Int) ≤ 9), ev_step ?_, ?_⟩
      · simp only [impl_isRuler.l0]
        exact ev_neg (by omega) (ev_pos c (ev_some _))
      · rw [decide_eq_true_eq]
        exact ⟨fun _ => ⟨fun i hi => ha i hi hi, by omega, by omega⟩, fun hb => by have := hb.2; omega⟩
    · refine ⟨false, ev_step ?_, fun h => (by cases h), fun hb => by have := hb.2; omega⟩
      simp only [impl_isRuler.l0]
      exact ev_neg (by omega) (ev_neg c (ev_some _))
  · intro i hi ih ha
    by_cases c1 : l[i] < 1
    · refine ⟨false, ev_step ?_, fun h => (by cases h), fun hb => by have := hb.1 i hi; omega⟩
      simp only [impl_isRuler.l0]
      rw [rd_get hi]
      exact ev_pos (by omega) (ev_pos (by omega) (ev_pos (by omega) (ev_pos c1 (ev_some _))))
    · by_cases c2 : l[i] > 60
      · refine ⟨false, ev_step ?_, fun h => (by cases h), fun hb => by have := hb.1 i hi; omega⟩
        simp only [impl_isRuler.l0]
        rw [rd_get hi]
        exact ev_pos (by omega) (ev_pos (by omega) (ev_pos (by omega) (ev_neg c1 (ev_pos c2 (ev_some _)))))
      · obtain ⟨b, hb, hb2⟩ := ih (by
          intro j hj hji
          rcases Nat.lt_or_ge j i with h1 | h1
          · exact ha j hj h1
          · obtain rfl : j = i := by omega
            exact ⟨by omega, by omega⟩)
        refine ⟨b, ev_step ?_, hb2⟩
        simp only [impl_isRuler.l0]
        rw [rd_get hi, w64_succ (by omega)]
        exact ev_pos (by omega) (ev_pos (by omega) (ev_pos (by omega) (ev_neg c1 (ev_neg c2 hb))))

theorem stick_ev {a b c : Int} (ha : 1 ≤ a ∧ a ≤ 12) (hb : 1 ≤ b ∧ b ≤ 12) (hc : 1 ≤ c ∧ c ≤ 12) : Ev (fun k => impl_StickThree.f k a b c) (tri a b c) := by
  unfold impl_StickThree.f
  obtain ⟨r, hr, h2⟩ := isRuler_ev [a, b, c] (by show 3 ≤ 1048576; decide)
  have hrt : r = true := h2.2 ⟨fun i hi => by
    have : i = 0 ∨ i = 1 ∨ i = 2 := by simp at hi; omega
    rcases this with rfl | rfl | rfl
    · show 1 ≤ a ∧ a ≤ 60; omega
    · show 1 ≤ b ∧ b ≤ 60; omega
    · show 1 ≤ c ∧ c ≤ 60; omega, by show 1 ≤ 3; decide, by show 3 ≤ 9; decide⟩
  subst hrt
  refine Ev.bind hr (ev_pos rfl ?_)
  rw [w64 (x := b + c) (by omega), w64 (x := a + c) (by omega), w64 (x := a + b) (by omega)]
  unfold tri
  by_cases h1 : a < b + c
  · rw [decide_eq_true h1, Bool.true_and]
    refine ev_pos h1 ?_
    by_cases h2 : b < a + c
    · rw [decide_eq_true h2, Bool.true_and]
      exact ev_pos h2 (ev_some _)
    · rw [decide_eq_false h2, Bool.false_and]
      exact ev_neg h2 (ev_some _)
  · rw [decide_eq_false h1, Bool.false_and]
    exact ev_neg h1 (ev_some _)

theorem faces_step {a b c : Int} (ha : 1 ≤ a ∧ a ≤ 12) (hb : 1 ≤ b ∧ b ≤ 12) (hc : 1 ≤ c ∧ c ≤ 12) {n : Int} (hn : 0 ≤ n ∧ n ≤ 100) {G : Nat → Int → Option Int} {r : Int} (h : Ev (fun k => G k (n + one (tri a b c))) r) :
    Ev (fun k => (impl_StickThree.f k a b c).bind fun t => if t = true then G k (wrap64 (n + 1)) else G k n) r := by
  refine Ev.bind (stick_ev ha hb hc) ?_
  cases z : tri a b c with
  | true => rw [z, one_true] at h; rw [w64 (by omega)]; exact ev_pos rfl h
  | false => rw [z, one_false, Int.add_zero] at h; exact ev_neg (by decide) h
theorem impl_facesOf_ev {a b c d e f : Int} (ha : 1 ≤ a ∧ a ≤ 12) (hb : 1 ≤ b ∧ b ≤ 12) (hc : 1 ≤ c ∧ c ≤ 12) (hd : 1 ≤ d ∧ d ≤ 12) (he : 1 ≤ e ∧ e ≤ 12) (hf : 1 ≤ f ∧ f ≤ 12) :
    Ev (fun k => impl_facesOf.f k [a, b, c, d, e, f]) (faces6 a b c d e f) := by
  have b1 := one_bound (tri d e f); have b2 := one_bound (tri b c f); have b3 := one_bound (tri a c e); have b4 := one_bound (tri a b d)
  unfold impl_facesOf.f
  refine ev_pos (by decide : 5 < 6) ?_
  show Ev (fun k => (impl_StickThree.f k d e f).bind fun t => if t = true then impl_facesOf.l0 k 3 [a, b, c, d, e, f] (wrap64 (0 + 1)) else impl_facesOf.l0 k 3 [a, b, c, d, e, f] 0) _
  refine faces_step (G := fun k n => impl_facesOf.l0 k 3 [a, b, c, d, e, f] n) hd he hf (by omega) ?_
  refine faces_step (G := fun k n => impl_facesOf.l0 k 2 [a, b, c, d, e, f] n) hb hc hf (by omega) ?_
  refine faces_step (G := fun k n => impl_facesOf.l0 k 1 [a, b, c, d, e, f] n) ha hc he (by omega) ?_
  refine faces_step (G := fun k n => impl_facesOf.l0 k 0 [a, b, c, d, e, f] n) ha hb hd (by omega) ?_
  have e0 : (0 : Int) + one (tri d e f) + one (tri b c f) + one (tri a c e) + one (tri a b d) = faces6 a b c d e f := by unfold faces6; omega
  rw [e0]
  exact ev_some _

theorem impl_stands_ev {l : List Int} (h : solB l = true) : Ev (fun k => impl_stands.f k l) (standsB l) := by
  unfold impl_stands.f standsB
  obtain ⟨a, b, c, d, e, f, rfl, ha, hb, hc, hd, he, hf⟩ := sol_six h
  refine Ev.bind (impl_facesOf_ev ha hb hc hd he hf) ?_
  have e1 : facesN [a, b, c, d, e, f] = faces6 a b c d e f := rfl
  have e2 : num [a, b, c, d, e, f] = number a b c d e f := rfl
  rw [e1, e2, impl_number_eq]
  simp only [Option.bind_some]
  by_cases z : faces6 a b c d e f = 4
  · rw [decide_eq_true z, Bool.true_and]
    exact ev_pos z (ev_some _)
  · rw [decide_eq_false z, Bool.false_and]
    exact ev_neg z (ev_some _)

theorem impl_SolidStands_ev (l : List Int) (h : l.length ≤ 1048576) : Ev (fun k => impl_SolidStands.f k l) (solB l && standsB l) := by
  unfold impl_SolidStands.f
  refine Ev.bind (impl_SolidIn_ev l h) ?_
  by_cases c : solB l = true
  · rw [c, Bool.true_and]
    exact ev_pos rfl (Ev.bind (impl_stands_ev c) (ev_some _))
  · rw [Bool.eq_false_iff.2 c, Bool.false_and]
    exact ev_neg (by decide) (ev_some _)

theorem same_num {s t : List Int} (h : sameA s t = true) : solB s = true ∧ solB t = true ∧ num s = num t ∧ standsB s = standsB t ∧ sameA t s = true := by
  unfold sameA at h
  rw [Bool.and_eq_true, Bool.and_eq_true, beq_iff_eq] at h
  obtain ⟨h1, h2, h3⟩ := h
  have l1 := sol_len h1
  have l2 := sol_len h2
  obtain ⟨x, hx, ex⟩ := first_named l1
  obtain ⟨y, hy, ey⟩ := first_named l2
  refine ⟨h1, h2, ?_, ?_, ?_⟩
  · rw [← num_named l1 hx, ← ex, h3, ey, num_named l2 hy]
  · rw [← stands_named l1 hx, ← ex, h3, ey, stands_named l2 hy]
  · unfold sameA; rw [h1, h2, h3]; simp
theorem drawSame_ev (l : List Int) (hw : ∀ x ∈ l, (Lit.int .u8 x).wf = true) : ∃ s t : List Int, Ev (fun k => spec_DrawSolidSame.f k l) (s, t) ∧ s.length ≤ 6 ∧ t.length ≤ 6 := by
  obtain ⟨b, hb, hbl, hbm⟩ := open_eq l
  have hx : ∀ x ∈ b, 0 ≤ x ∧ x ≤ 255 := fun x hx => u8_range hw x (hbm x hx)
  obtain ⟨s, q, hs, hsl, hq0, hq1⟩ := l92Solid_ev b hbl hx
  obtain ⟨c, p, hc, hcl, hp0, hp1⟩ := l92Corners_ev b hbl hx q (by omega)
  have hn := spec_SolidNamed_ev s c (by omega)
  have hlen : (namedA s c).1.length ≤ 6 := by
    unfold namedA; split
    · exact (by decide : 6 ≤ 6)
    · exact Nat.zero_le _
  obtain ⟨t2, q2, ht2, htl2, _⟩ := l92Solid_any b hbl hx p (by omega)
  obtain ⟨r, hr, _⟩ := pick_ev b p 3 (by omega) hbl hx (by omega)
  obtain ⟨t3, q3, ht3, htl3, _⟩ := l92Solid_any b hbl hx (p + 1) (by omega)
  unfold spec_DrawSolidSame.f
  rw [hb]
  simp only [Option.bind_some]
  by_cases g : (namedA s c).2 = true
  · by_cases z : r > 0
    · exact ⟨s, (namedA s c).1, Ev.bind hs (Ev.bind hc (Ev.bind hn (ev_pos g (Ev.bind hr (ev_pos z (ev_some _)))))), hsl, hlen⟩
    · exact ⟨s, t3, Ev.bind hs (Ev.bind hc (Ev.bind hn (ev_pos g (Ev.bind hr (ev_neg z (Ev.bind ht3 (ev_some _))))))), hsl, htl3⟩
  · exact ⟨s, t2, Ev.bind hs (Ev.bind hc (Ev.bind hn (ev_neg g (Ev.bind ht2 (ev_some _))))), hsl, htl2⟩
theorem FnSolidSame : laws_FnSolidSame.Pure := by
  intro l _ _ hw
  refine Ev.rounds ?_
  unfold laws_FnSolidSame.f
  by_cases h : (l.length : Int) > 1048576
  · exact ev_pos h (ev_some _)
  · refine ev_neg h ?_
    obtain ⟨s, t, hd, hsl, htl⟩ := drawSame_ev l hw
    have hs1 : s.length ≤ 1048576 := by omega
    have ht1 : t.length ≤ 1048576 := by omega
    refine Ev.bind hd (Ev.bind (impl_SolidSame_ev s t hs1 ht1) (Ev.bind (spec_SolidSame_ev s t hs1 ht1) (ev_neg (by simp) (ev_step ?_))))
    simp only [laws_FnSolidSame.j0]
    by_cases g : sameA s t = true
    · rw [g]
      obtain ⟨g1, g2, g3, g4, g5⟩ := same_num g
      have eN : numA s = (wrap64 (num s), true) := by unfold numA; rw [if_pos g1]
      have eM : numA t = (wrap64 (num t), true) := by unfold numA; rw [if_pos g2]
      have i1 := impl_SolidNumber_ev s hs1
      have i2 := impl_SolidNumber_ev t ht1
      have i3 := impl_SolidSame_ev t s ht1 hs1
      have i4 := impl_SolidStands_ev s hs1
      have i5 := impl_SolidStands_ev t ht1
      rw [eN] at i1
      rw [eM, ← g3] at i2
      rw [g5] at i3
      rw [g1, Bool.true_and] at i4
      rw [g2, ← g4, Bool.true_and] at i5
      exact ev_neg (by decide) (Ev.bind i1 (Ev.bind i2 (ev_pos rfl (ev_pos rfl (ev_pos rfl (Ev.bind i3 (ev_pos rfl (Ev.bind i4 (Ev.bind i5 (by simpa using ev_some _))))))))))
    · rw [Bool.eq_false_iff.2 g]
      exact ev_pos (by decide) (ev_some _)

end Go.Proofs.Ytohfaffgabfakaa.Pure
