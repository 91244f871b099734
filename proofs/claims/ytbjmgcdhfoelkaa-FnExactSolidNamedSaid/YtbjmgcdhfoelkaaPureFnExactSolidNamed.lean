/- The given program's SolidNamed answers as the reference's does, for all lists (no condition beyond the row's own). -/
import Derived.Test.YtbjmgcdhfoelkaaPFnExactSolidNamedx4
import Derived.Test.YtbjmgcdhfoelkaaBase
import Derived.Test.YtbjmgcdhfoelkaaSol
namespace Go.Proofs.Ytbjmgcdhfoelkaa.Pure
open Go.RowKit Go.Proofs.Ytbjmgcdhfoelkaa.PFnExactSolidNamed Go.Proofs.YtbjmgcdhfoelkaaW.PrintWords Go.Proofs.YtbjmgcdhfoelkaaW.PrintLast Go.Proofs.YtbjmgcdhfoelkaaW.PrintMore Go.Proofs.Ytbjmgcdhfoelkaa.Base Go.Proofs.Ytbjmgcdhfoelkaa.Sol
theorem toIntS_ev (l : List Int) (h : l.length ≤ 1048576) : Ev (fun k => laws_toIntS.f k l) l := by
  unfold laws_toIntS.f
  refine ev_pos (by omega) (ev_pos (by omega) ?_)
  have key := ev_count (fun k i => laws_toIntS.l0 k l (l.take i ++ List.replicate (l.length - i) 0) (i : Int)) (fun _ => l) l.length
    (by
      refine ev_step ?_
      simp only [laws_toIntS.l0]
      refine ev_neg (by omega) ?_
      simpa using ev_some l)
    (by
      intro i hi ih
      refine ev_step ?_
      simp only [laws_toIntS.l0]
      refine ev_pos (by omega) (ev_pos (by omega) (ev_pos (by simp; omega) ?_))
      rw [w64_succ (by omega), Int.toNat_natCast, rd_get hi, set_copy hi]
      exact ih)
  have := key 0 (by omega)
  simpa using this

theorem eqIntS_self (l : List Int) (h : l.length ≤ 1048576) : Ev (fun k => laws_eqIntS.f k l l) true := by
  unfold laws_eqIntS.f
  refine ev_pos (by trivial) ?_
  refine ev_count (fun k i => laws_eqIntS.l0 k l l (i : Int)) (fun _ => true) l.length ?_ ?_ 0 (by omega)
  · refine ev_step ?_
    simp only [laws_eqIntS.l0]
    exact ev_neg (by omega) (ev_some _)
  · intro i hi ih
    refine ev_step ?_
    simp only [laws_eqIntS.l0]
    refine ev_pos (by omega) (ev_pos (by omega) (ev_pos (by omega) (ev_pos (by trivial) ?_)))
    rw [w64_succ (by omega)]
    exact ih

def marks (n : Nat) (a : Int) : List Int := (List.range n).map fun (i : Nat) => a + (i : Int)
theorem marks_length (n : Nat) (a : Int) : (marks n a).length = n := by simp [marks]
theorem marks_get {n i : Nat} (a : Int) (h : i < n) : rd (marks n a) (i : Int) = a + i := by
  rw [rd_nat]; simp [marks, h]
theorem marks_set (l : List Int) (a : Int) {i : Nat} (h : i < l.length) : (marks i a ++ l.drop i).set i (a + i) = marks (i + 1) a ++ l.drop (i + 1) := by
  rw [List.set_append_right _ _ (by simp [marks]), marks_length, Nat.sub_self, drop_cons h, List.set_cons_zero]
  unfold marks
  rw [List.range_succ, List.map_append, List.append_assoc]; rfl
theorem markIntS_ev (l : List Int) (a : Int) (h : l.length ≤ 1048576) (ha : 0 ≤ a ∧ a ≤ 4611686018427387904) : Ev (fun k => laws_markIntS.f k l a) (a + l.length, marks l.length a) := by
  unfold laws_markIntS.f
  have := ev_count (fun k i => laws_markIntS.l0 k (marks i a ++ l.drop i) (a + i) (i : Int)) (fun _ => (a + l.length, marks l.length a)) l.length ?_ ?_ 0 (by omega)
  · simpa [marks] using this
  · refine ev_step ?_
    simp only [laws_markIntS.l0]
    refine ev_neg (by simp [marks_length]) ?_
    simpa using ev_some _
  · intro i hi ih
    refine ev_step ?_
    simp only [laws_markIntS.l0]
    refine ev_pos (by simp [marks_length]; omega) (ev_pos (by omega) ?_)
    rw [w64_succ (by omega), Int.toNat_natCast, marks_set l a hi, w64 (by omega), show a + (i : Int) + 1 = a + ((i + 1 : Nat) : Int) from by omega]
    exact ih
theorem heldIntS_ev (n : Nat) (a : Int) (h : n ≤ 1048576) (ha : 0 ≤ a ∧ a ≤ 4611686018427387904) : Ev (fun k => laws_heldIntS.f k (marks n a) a) (a + n) := by
  unfold laws_heldIntS.f
  have := ev_count (fun k i => laws_heldIntS.l0 k (marks n a) (a + i) (i : Int)) (fun _ => a + (n : Int)) n ?_ ?_ 0 (by omega)
  · simpa using this
  · refine ev_step ?_
    simp only [laws_heldIntS.l0]
    exact ev_neg (by simp [marks_length]) (ev_some _)
  · intro i hi ih
    refine ev_step ?_
    simp only [laws_heldIntS.l0]
    refine ev_pos (by simp [marks_length]; omega) (ev_pos (by omega) (ev_pos (marks_get a hi) ?_))
    rw [w64_succ (by omega), w64 (by omega), show a + (i : Int) + 1 = a + ((i + 1 : Nat) : Int) from by omega]
    exact ih

theorem spec_l6In_eq (a b c : Int) : spec_l6In.f a b c = some (decide (b ≤ a ∧ a ≤ c)) := by
  unfold spec_l6In.f
  by_cases h : a ≥ b
  · rw [if_pos h]; simp; intro _; exact h
  · rw [if_neg h]; simp; omega
theorem spec_l8Solid_ev (l : List Int) (h : l.length ≤ 1048576) : Ev (fun k => spec_l8Solid.f k l) (solB l) := by
  unfold spec_l8Solid.f
  have := ev_count (fun k i => spec_l8Solid.l0 k l (i : Int)) (fun i => (l.drop i).all inB && l.length == 6) l.length ?_ ?_ 0 (by omega)
  · simpa [solB] using this
  · refine ev_step ?_
    simp only [spec_l8Solid.l0]
    refine ev_neg (by omega) ?_
    have e : ((l.length : Int) == 6) = (l.length == 6) := by rw [Bool.eq_iff_iff]; simp; omega
    simpa [e] using ev_some _
  · intro i hi ih
    refine ev_step ?_
    simp only [spec_l8Solid.l0]
    refine ev_pos (by omega) (ev_pos (by omega) ?_)
    rw [rd_get hi, drop_cons hi, List.all_cons, spec_l6In_eq]
    simp only [Option.bind_some]
    by_cases h1 : 1 ≤ l[i] ∧ l[i] ≤ 12
    · refine ev_pos (by simpa using h1) ?_
      have : inB l[i] = true := by unfold inB; simp; omega
      rw [this, Bool.true_and, w64_succ (by omega)]
      exact ih
    · refine ev_neg (by simpa using h1) ?_
      have : inB l[i] = false := by unfold inB; simp; omega
      rw [this]; exact ev_some _

theorem impl_SolidIn_ev (l : List Int) (h : l.length ≤ 1048576) : Ev (fun k => impl_SolidIn.f k l) (solB l) := by
  unfold impl_SolidIn.f
  have := ev_count (fun k i => impl_SolidIn.l0 k l l (l.length : Int) (i : Int)) (fun i => (l.drop i).all inB && l.length == 6) l.length ?_ ?_ 0 (by omega)
  · simpa [solB] using this
  · refine ev_step ?_
    simp only [impl_SolidIn.l0]
    refine ev_neg (by omega) ?_
    have e : ((l.length : Int) == 6) = (l.length == 6) := by rw [Bool.eq_iff_iff]; simp; omega
    simpa [e] using ev_some _
  · intro i hi ih
    refine ev_step ?_
    simp only [impl_SolidIn.l0]
    refine ev_pos (by omega) (ev_pos (by omega) (ev_pos (by omega) ?_))
    rw [rd_get hi, drop_cons hi, List.all_cons]
    by_cases h1 : l[i] < 1
    · refine ev_pos h1 ?_
      have : inB l[i] = false := by unfold inB; simp; omega
      rw [this]; exact ev_some _
    · refine ev_neg h1 ?_
      by_cases h2 : l[i] > 12
      · refine ev_pos h2 ?_
        have : inB l[i] = false := by unfold inB; simp; omega
        rw [this]; exact ev_some _
      · refine ev_neg h2 ?_
        have : inB l[i] = true := by unfold inB; simp; omega
        rw [this, Bool.true_and, w64_succ (by omega)]
        exact ih

/-- Which lists have each corner once: those of 'perms'. -/
theorem index_ev (l : List Int) (x : Int) (h : l.length ≤ 1048576) : ∃ r, Ev (fun k => slices_Index_int_int.f k l x) r ∧ (decide (r ≥ 0) = l.contains x) := by
  unfold slices_Index_int_int.f
  have := ev_count (fun k i => slices_Index_int_int.l0 k l x (l.length : Int) (i : Int)) (fun i => if (l.drop i).contains x then ((i + (l.drop i).idxOf x : Nat) : Int) else -1) l.length ?_ ?_ 0 (by omega)
  · refine ⟨_, this, ?_⟩
    simp only [List.drop_zero]
    by_cases c : l.contains x
    · rw [if_pos c, c]; simp
    · rw [if_neg c]; simp at c; simp [c]
  · refine ev_step ?_
    simp only [slices_Index_int_int.l0]
    refine ev_neg (by omega) ?_
    simpa using ev_some _
  · intro i hi ih
    refine ev_step ?_
    simp only [slices_Index_int_int.l0]
    refine ev_pos (by omega) (ev_pos (by omega) (ev_pos (by omega) ?_))
    rw [rd_get hi, drop_cons hi]
    by_cases c : x = l[i]
    · refine ev_pos c ?_
      have e1 : ∀ t : List Int, (l[i] :: t).contains x = true := fun t => by simp [c]
      have e2 : ∀ t : List Int, (l[i] :: t).idxOf x = 0 := fun t => by rw [List.idxOf_cons]; simp [c]
      rw [if_pos (e1 _), e2]
      exact ev_some _
    · refine ev_neg c ?_
      rw [w64_succ (by omega)]
      have e : ∀ t : List Int, (l[i] :: t).contains x = t.contains x := fun t => by simp [c]
      rw [e]
      by_cases c2 : (l.drop (i + 1)).contains x
      · rw [if_pos c2] at ih ⊢
        have e2 : ∀ t : List Int, (l[i] :: t).idxOf x = t.idxOf x + 1 := fun t => by
          rw [List.idxOf_cons, show (l[i] == x) = false from by simp; exact fun h => c h.symm]; rfl
        rw [e2, show i + ((l.drop (i + 1)).idxOf x + 1) = i + 1 + (l.drop (i + 1)).idxOf x from by omega]
        exact ih
      · rw [if_neg c2] at ih ⊢
        exact ih
theorem contains_ev (l : List Int) (x : Int) (h : l.length ≤ 1048576) : Ev (fun k => slices_Contains_int_int.f k l x) (l.contains x) := by
  obtain ⟨r, hr, hd⟩ := index_ev l x h
  unfold slices_Contains_int_int.f
  refine Ev.bind hr ?_
  rw [hd]
  exact ev_some _
theorem impl_isOrder_ev (l : List Int) (h : l.length ≤ 1048576) : Ev (fun k => impl_isOrder.f k l) (ordB l 0) := by
  unfold impl_isOrder.f
  refine ev_count (fun k i => impl_isOrder.l0 k l l (l.length : Int) (i : Int)) (fun i => ordB l i) l.length ?_ ?_ 0 (by omega)
  · refine ev_step ?_
    simp only [impl_isOrder.l0]
    refine ev_neg (by omega) ?_
    have e : ((l.length : Int) == 4) = (l.length == 4) := by rw [Bool.eq_iff_iff]; simp; omega
    rw [ordB_end, e]; exact ev_some _
  · intro i hi ih
    refine ev_step ?_
    simp only [impl_isOrder.l0]
    refine ev_pos (by omega) (ev_pos (by omega) (ev_pos (by omega) ?_))
    rw [rd_get hi, ordB_step hi, Int.toNat_natCast]
    by_cases h1 : l[i] < 0
    · refine ev_pos h1 ?_
      rw [if_pos (by omega)]; exact ev_some _
    · refine ev_neg h1 ?_
      by_cases h2 : l[i] > 3
      · refine ev_pos h2 ?_
        rw [if_pos (by omega)]; exact ev_some _
      · refine ev_neg h2 (ev_pos (by omega) (Ev.bind (contains_ev _ _ (by simp; omega)) ?_))
        by_cases h3 : (l.take i).contains l[i]
        · refine ev_pos h3 ?_
          rw [if_pos (Or.inr (Or.inr h3))]; exact ev_some _
        · refine ev_neg h3 ?_
          rw [if_neg (by simp only [not_or]; exact ⟨by omega, by omega, h3⟩), w64_succ (by omega)]
          exact ih

/-- Corners called otherwise, by each of the 24 orders: what both texts answer. -/
theorem impl_named_ev (a b c d e f : Int) (x : List Int) (hx : x ∈ perms) : Ev (fun k => impl_named.f k [a, b, c, d, e, f] x) (named [a, b, c, d, e, f] x) := by
  refine Ev.of (impl_named.mono _ _) (k := 30) ?_
  simp only [perms, List.mem_cons, List.not_mem_nil, or_false] at hx
  rcases hx with rfl | rfl | rfl | rfl | rfl | rfl | rfl | rfl | rfl | rfl | rfl | rfl | rfl | rfl | rfl | rfl | rfl | rfl | rfl | rfl | rfl | rfl | rfl | rfl <;> kernel_rfl

/-- The solid with its corners called otherwise, as both texts answer it. -/
def namedA (l x : List Int) : List Int × Bool := if solB l = true ∧ x ∈ perms then (named l x, true) else ([], false)
theorem impl_SolidNamed_ev (l x : List Int) (h : l.length ≤ 1048576) (hx : x.length ≤ 1048576) : Ev (fun k => impl_SolidNamed.f k l x) (namedA l x) := by
  unfold impl_SolidNamed.f namedA
  refine Ev.bind (impl_SolidIn_ev l h) ?_
  by_cases c : solB l = true
  · refine ev_pos c (Ev.bind (impl_isOrder_ev x hx) ?_)
    by_cases c2 : ordB x 0 = true
    · have c3 := (ordB_iff x).1 c2
      rw [if_pos ⟨c, c3⟩]
      obtain ⟨a, b, c, d, e, f, rfl, _⟩ := sol_six c
      exact ev_pos c2 (Ev.bind (impl_named_ev _ _ _ _ _ _ x c3) (ev_some _))
    · rw [if_neg (fun hc => c2 ((ordB_iff x).2 hc.2))]
      exact ev_neg c2 (ev_some _)
  · rw [if_neg (fun hc => c hc.1)]
    exact ev_neg c (ev_some _)

theorem spec_named_ev (a b c d e f : Int) (x : List Int) (hx : x ∈ perms) : Ev (fun k => spec_l8Named.f k [a, b, c, d, e, f] x) (named [a, b, c, d, e, f] x) := by
  refine Ev.of (spec_l8Named.mono _ _) (k := 30) ?_
  simp only [perms, List.mem_cons, List.not_mem_nil, or_false] at hx
  rcases hx with rfl | rfl | rfl | rfl | rfl | rfl | rfl | rfl | rfl | rfl | rfl | rfl | rfl | rfl | rfl | rfl | rfl | rfl | rfl | rfl | rfl | rfl | rfl | rfl <;> kernel_rfl
/-- Which bits are seen: the loop of SolidNamed over four corners, as plain numbers. -/
def seenI : List Int → Int → Int
  | [], acc => acc
  | x :: t, acc => seenI t (Go.bits .or .i64 acc (shl .i64 1 x))
theorem all256s : ∀ a ∈ ([0, 1, 2, 3] : List Int), ∀ b ∈ ([0, 1, 2, 3] : List Int), ∀ c ∈ ([0, 1, 2, 3] : List Int), ∀ d ∈ ([0, 1, 2, 3] : List Int), decide (seenI [a, b, c, d] 0 = 15) = perms.contains [a, b, c, d] := by decide +kernel
theorem seen_bad (s x : List Int) (hx : x.length = 4) (d : Nat) : ∀ (i : Nat) (acc : Int), i + d = 4 → (∃ j, i ≤ j ∧ j < 4 ∧ (x.getD j 0 < 0 ∨ 3 < x.getD j 0)) → Ev (fun k => spec_SolidNamed.l0 k s x acc (i : Int)) ([], false) := by
  induction d with
  | zero => intro i acc hi ⟨j, h⟩; omega
  | succ d ih =>
    intro i acc hi ⟨j, h1, h2, h3⟩
    refine ev_step ?_
    simp only [spec_SolidNamed.l0]
    refine ev_pos (by omega) (ev_pos (by omega) (ev_pos (by omega) ?_))
    rw [spec_l6In_eq, rd_nat]
    simp only [Option.bind_some]
    by_cases c : 0 ≤ x.getD i 0 ∧ x.getD i 0 ≤ 3
    · refine ev_pos (by simpa using c) (ev_pos c.1 ?_)
      rw [w64_succ (by omega)]
      refine ih (i + 1) _ (by omega) ⟨j, ?_, h2, h3⟩
      rcases Nat.eq_or_lt_of_le h1 with rfl | h4
      · omega
      · exact h4
    · exact ev_neg (by simpa using c) (ev_some _)
theorem seen_good (s x : List Int) (hx : x.length = 4) (hr : ∀ j, j < 4 → 0 ≤ x.getD j 0 ∧ x.getD j 0 ≤ 3) (R : List Int × Bool)
    (hR : Ev (fun k => if seenI x 0 = 15 then ((spec_l8Named.f k s x).bind fun t => some (t, true)) else some ([], false)) R) : Ev (fun k => spec_SolidNamed.l0 k s x 0 0) R := by
  have key : ∀ (d i : Nat) (acc : Int), i + d = 4 → seenI (x.drop i) acc = seenI x 0 → Ev (fun k => spec_SolidNamed.l0 k s x acc (i : Int)) R := by
    intro d
    induction d with
    | zero =>
      intro i acc hi he
      refine ev_step ?_
      simp only [spec_SolidNamed.l0]
      refine ev_neg (by omega) ?_
      have : acc = seenI x 0 := by rw [← he, List.drop_of_length_le (by omega)]; rfl
      rw [this]
      exact hR
    | succ d ih =>
      intro i acc hi he
      have hri := hr i (by omega)
      refine ev_step ?_
      simp only [spec_SolidNamed.l0]
      refine ev_pos (by omega) (ev_pos (by omega) (ev_pos (by omega) ?_))
      rw [spec_l6In_eq, rd_nat]
      simp only [Option.bind_some]
      refine ev_pos (by simpa using hri) (ev_pos hri.1 ?_)
      rw [w64_succ (by omega)]
      refine ih (i + 1) _ (by omega) ?_
      rw [← he, drop_cons (by omega : i < x.length)]
      have : x.getD i 0 = x[i]'(by omega) := by simp [show i < x.length by omega]
      rw [this]; rfl
  exact key 4 0 0 rfl rfl
theorem spec_SolidNamed_ev (l x : List Int) (h : l.length ≤ 1048576) : Ev (fun k => spec_SolidNamed.f k l x) (namedA l x) := by
  unfold spec_SolidNamed.f namedA
  refine Ev.bind (spec_l8Solid_ev l h) ?_
  by_cases c : solB l = true
  · refine ev_pos c (ev_step ?_)
    simp only [spec_SolidNamed.j0]
    by_cases c4 : x.length = 4
    · refine ev_neg (by simp; omega) ?_
      by_cases hr : ∀ j, j < 4 → 0 ≤ x.getD j 0 ∧ x.getD j 0 ≤ 3
      · refine seen_good l x c4 hr _ ?_
        obtain ⟨p, q, r, s, rfl⟩ := four_of c4
        have k0 := hr 0 (by decide)
        have k1 := hr 1 (by decide)
        have k2 := hr 2 (by decide)
        have k3 := hr 3 (by decide)
        simp only [List.getD_cons_zero, List.getD_cons_succ] at k0 k1 k2 k3
        have e := all256s p (in4 k0.1 k0.2) q (in4 k1.1 k1.2) r (in4 k2.1 k2.2) s (in4 k3.1 k3.2)
        by_cases c5 : seenI [p, q, r, s] 0 = 15
        · rw [decide_eq_true c5] at e
          have hm : [p, q, r, s] ∈ perms := by simpa using e.symm
          rw [if_pos ⟨c, hm⟩]
          refine ev_pos c5 ?_
          obtain ⟨a, b, c, d, e, f, rfl, _⟩ := sol_six c
          exact Ev.bind (spec_named_ev _ _ _ _ _ _ _ hm) (ev_some _)
        · rw [decide_eq_false c5] at e
          have hm : ¬ [p, q, r, s] ∈ perms := by
            intro hm
            rw [List.contains_iff_mem.2 hm] at e
            cases e
          rw [if_neg (fun hh => hm hh.2)]
          exact ev_neg c5 (ev_some _)
      · have hm : ¬ x ∈ perms := by
          intro hm
          apply hr
          have : ∀ y ∈ perms, ∀ j, j < 4 → 0 ≤ y.getD j 0 ∧ y.getD j 0 ≤ 3 := by decide +kernel
          exact this x hm
        rw [if_neg (fun hh => hm hh.2)]
        refine seen_bad l x c4 4 0 0 rfl ?_
        have ⟨j, hj⟩ := Classical.not_forall.1 hr
        have ⟨hj4, hj2⟩ := Classical.not_imp.1 hj
        exact ⟨j, by omega, hj4, by omega⟩
    · have hm : ¬ x ∈ perms := by
        intro hm
        have : ∀ y ∈ perms, y.length = 4 := by decide
        exact c4 (this x hm)
      rw [if_neg (fun hh => hm hh.2)]
      exact ev_pos (by simp; omega) (ev_some _)
  · rw [if_neg (fun hc => c hc.1)]
    refine ev_neg c (ev_step ?_)
    simp only [spec_SolidNamed.j0]
    exact ev_pos (by trivial) (ev_some _)

theorem FnExactSolidNamed : laws_FnExactSolidNamed.Pure := by
  intro l x _ _ _ _ _ _
  refine Ev.rounds ?_
  unfold laws_FnExactSolidNamed.f
  by_cases h : (l.length : Int) > 1048576
  · exact ev_pos h (ev_some _)
  · refine ev_neg h ?_
    by_cases h2 : (x.length : Int) > 1048576
    · exact ev_pos h2 (ev_some _)
    · refine ev_neg h2 ?_
      have hl : l.length ≤ 1048576 := by omega
      have hx : x.length ≤ 1048576 := by omega
      have hn : (namedA l x).1.length ≤ 1048576 := by
        unfold namedA; split
        · exact (by decide : 6 ≤ 1048576)
        · exact Nat.zero_le _
      refine Ev.bind (toIntS_ev l hl) (Ev.bind (toIntS_ev x hx) (Ev.bind (spec_SolidNamed_ev l x hl) (Ev.bind (toIntS_ev l hl) (Ev.bind (toIntS_ev x hx) (Ev.bind (impl_SolidNamed_ev l x hl hx) (Ev.bind (eqIntS_self _ hn) ?_))))))
      refine ev_pos (by trivial) (ev_step ?_)
      simp only [laws_FnExactSolidNamed.j0]
      refine ev_neg (by simp) (Ev.bind (toIntS_ev l hl) (Ev.bind (eqIntS_self l hl) (ev_pos (by trivial) (Ev.bind (toIntS_ev x hx) (Ev.bind (eqIntS_self x hx) (ev_pos (by trivial) ?_))))))
      refine Ev.bind (markIntS_ev l 1 hl (by omega)) (Ev.bind (markIntS_ev x _ hx (by omega)) (ev_neg (by first | omega | (dsimp only; omega)) (Ev.bind (eqIntS_self _ hn) (ev_pos (by trivial) (ev_step ?_)))))
      simp only [laws_FnExactSolidNamed.j1]
      refine ev_neg (by simp) (Ev.bind (markIntS_ev _ 1 hn (by omega)) (Ev.bind (heldIntS_ev _ 1 hn (by omega)) (ev_neg (by first | omega | (dsimp only; omega)) (ev_pos (by trivial) ?_))))
      refine Ev.bind (toIntS_ev l hl) (Ev.bind (toIntS_ev x hx) (Ev.bind (impl_SolidNamed_ev l x hl hx) (Ev.bind (eqIntS_self _ hn) (ev_pos (by trivial) (ev_step ?_)))))
      simp only [laws_FnExactSolidNamed.j2]
      exact ev_neg (by simp) (Ev.bind (heldIntS_ev _ 1 hn (by omega)) (ev_neg (by first | omega | (dsimp only; omega)) (ev_pos (by trivial) (ev_some _))))

end Go.Proofs.Ytbjmgcdhfoelkaa.Pure
