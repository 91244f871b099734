/- An exact promise of the given program: PartWays answers as the reference's does, for every slice of numbers. -/
import Derived.Test.YtnpaaaponjcmkaaPFnExactPartWaysx5
import Derived.Test.YtnpaaaponjcmkaaBase
import Derived.Test.YtnpaaaponjcmkaaHPrt
import Derived.Test.YtnpaaaponjcmkaaThr
namespace Go.Proofs.Ytnpaaaponjcmkaa.Pure
open Go.RowKit Go.Proofs.Ytnpaaaponjcmkaa.PFnExactPartWays Go.Proofs.YtnpaaaponjcmkaaW.PrintWords Go.Proofs.YtnpaaaponjcmkaaW.PrintLast Go.Proofs.YtnpaaaponjcmkaaW.PrintMore Go.Proofs.Ytnpaaaponjcmkaa.Base Go.Proofs.Ytnpaaaponjcmkaa.HPrt Go.Proofs.Ytnpaaaponjcmkaa.Thr
set_option linter.unusedVariables false
set_option linter.unusedSimpArgs false
theorem toIntS_ev (l : List Int) (h : l.length ≤ 1048576) : Ev (fun k => laws_toIntS.f k l) l := by
  unfold laws_toIntS.f
  refine ev_pos (by omega) (ev_pos (by omega) ?_)
  have key := ev_count (fun k i => laws_toIntS.l0 k l (l.take i ++ List.replicate (l.length - i) 0) (i : Int)) (fun _ => l) l.length
    (by
      refine ev_step ?_
      simp only [laws_toIntS.l0]
      refine ev_neg (by omega) ?_
      simpa using ev_some l)
    (by
      intro i hi ih
      refine ev_step ?_
      simp only [laws_toIntS.l0]
      refine ev_pos (by omega) (ev_pos (by omega) (ev_pos (by simp; omega) ?_))
      rw [w64_succ (by omega), Int.toNat_natCast, rd_get hi, set_copy hi]
      exact ih)
  have := key 0 (by omega)
  simpa using this

theorem eqIntS_self (l : List Int) (h : l.length ≤ 1048576) : Ev (fun k => laws_eqIntS.f k l l) true := by
  unfold laws_eqIntS.f
  refine ev_pos (by trivial) ?_
  refine ev_count (fun k i => laws_eqIntS.l0 k l l (i : Int)) (fun _ => true) l.length ?_ ?_ 0 (by omega)
  · refine ev_step ?_
    simp only [laws_eqIntS.l0]
    exact ev_neg (by omega) (ev_some _)
  · intro i hi ih
    refine ev_step ?_
    simp only [laws_eqIntS.l0]
    refine ev_pos (by omega) (ev_pos (by omega) (ev_pos (by omega) (ev_pos (by trivial) ?_)))
    rw [w64_succ (by omega)]
    exact ih

theorem isRuler_ev (l : List Int) (h : l.length ≤ 1048576) : ∃ b, Ev (fun k => impl_isRuler.f k l) b ∧ (b = true ↔ (∀ i (h : i < l.length), 1 ≤ l[i] ∧ l[i] ≤ 60) ∧ 1 ≤ l.length ∧ l.length ≤ 9) := by
  unfold impl_isRuler.f
  have key := down (fun i => (∀ j (hj : j < l.length), j < i → 1 ≤ l[j] ∧ l[j] ≤ 60) → ∃ b, Ev (fun k => impl_isRuler.l0 k l l (l.length : Int) (i : Int)) b ∧ (b = true ↔ (∀ i (h : i < l.length), 1 ≤ l[i] ∧ l[i] ≤ 60) ∧ 1 ≤ l.length ∧ l.length ≤ 9)) l.length ?_ ?_ 0 (by omega)
  · exact key (fun j _ hj => by omega)
  · intro ha
    by_cases c : (l.length : Int) ≥ 1
    · refine ⟨decide ((l.length : Int) ≤ 9), ev_step ?_, ?_⟩
      · simp only [impl_isRuler.l0]
        exact ev_neg (by omega) (ev_pos c (ev_some _))
      · rw [decide_eq_true_eq]
        exact ⟨fun _ => ⟨fun i hi => ha i hi hi, by omega, by omega⟩, fun hb => by have := hb.2; omega⟩
    · refine ⟨false, ev_step ?_, fun h => (by cases h), fun hb => by have := hb.2; omega⟩
      simp only [impl_isRuler.l0]
      exact ev_neg (by omega) (ev_neg c (ev_some _))
  · intro i hi ih ha
    by_cases c1 : l[i] < 1
    · refine ⟨false, ev_step ?_, fun h => (by cases h), fun hb => by have := hb.1 i hi; omega⟩
      simp only [impl_isRuler.l0]
      rw [rd_get hi]
      exact ev_pos (by omega) (ev_pos (by omega) (ev_pos (by omega) (ev_pos c1 (ev_some _))))
    · by_cases c2 : l[i] > 60
      · refine ⟨false, ev_step ?_, fun h => (by cases h), fun hb => by have := hb.1 i hi; omega⟩
        simp only [impl_isRuler.l0]
        rw [rd_get hi]
        exact ev_pos (by omega) (ev_pos (by omega) (ev_pos (by omega) (ev_neg c1 (ev_pos c2 (ev_some _)))))
      · obtain ⟨b, hb, hb2⟩ := ih (by
          intro j hj hji
          rcases Nat.lt_or_ge j i with h1 | h1
          · exact ha j hj h1
          · obtain rfl : j = i := by omega
            exact ⟨by omega, by omega⟩)
        refine ⟨b, ev_step ?_, hb2⟩
        simp only [impl_isRuler.l0]
        rw [rd_get hi, w64_succ (by omega)]
        exact ev_pos (by omega) (ev_pos (by omega) (ev_pos (by omega) (ev_neg c1 (ev_neg c2 hb))))

def Bun (l : List Int) : Prop := (∀ i (h : i < l.length), 1 ≤ l[i] ∧ l[i] ≤ 60 ∧ (∀ _ : 0 < i, l[i - 1] ≤ l[i])) ∧ 1 ≤ l.length ∧ l.length ≤ 9
theorem i64_and1 (n : Int) : Go.bits .and .i64 n 1 = n % 2 := by
  have h1 : (BitVec.ofInt 64 1).toNat = 2 ^ 1 - 1 := by decide
  have key : (BitVec.ofInt 64 n &&& BitVec.ofInt 64 1).toNat = (n % ((2 ^ 64 : Nat) : Int)).toNat % 2 ^ 1 := by
    rw [BitVec.toNat_and, BitVec.toNat_ofInt, h1, Nat.and_two_pow_sub_one_eq_mod]
  show IntKind.i64.wrap ((BitVec.ofInt 64 n &&& BitVec.ofInt 64 1).toNat : Nat) = n % 2
  rw [key, IntKind.wrap_i64]
  omega
theorem spec_l6In_eqP (a b c : Int) : spec_l6In.f a b c = some (decide (b ≤ a ∧ a ≤ c)) := by
  unfold spec_l6In.f
  by_cases h : a ≥ b
  · rw [if_pos h]; simp; intro _; exact h
  · rw [if_neg h]; simp; omega
theorem spec_Bundle_ev (l : List Int) (h : l.length ≤ 1048576) : ∃ b, Ev (fun k => spec_l1Bundle.f k l) b ∧ (b = true ↔ Bun l) := by
  unfold spec_l1Bundle.f
  have key := down (fun i => (∀ j (hj : j < l.length), j < i → 1 ≤ l[j] ∧ l[j] ≤ 60 ∧ (∀ _ : 0 < j, l[j - 1] ≤ l[j])) → ∃ b, Ev (fun k => spec_l1Bundle.l0 k l (i : Int)) b ∧ (b = true ↔ Bun l)) l.length ?_ ?_ 0 (by omega)
  · exact key (fun j _ hj => by omega)
  · intro ha
    refine ⟨decide ((1 : Int) ≤ (l.length : Int) ∧ (l.length : Int) ≤ 9), ev_step ?_, ?_⟩
    · simp only [spec_l1Bundle.l0]
      refine ev_neg (by omega) ?_
      rw [spec_l6In_eqP]
      exact ev_some _
    · rw [decide_eq_true_eq]
      exact ⟨fun hb => ⟨fun i hi => ha i hi hi, by omega, by omega⟩, fun hb => by have := hb.2; omega⟩
  · intro i hi ih ha
    by_cases c : (1 : Int) ≤ l[i] ∧ l[i] ≤ 60
    · by_cases c0 : 0 < i
      · by_cases d : l[i] < l[i - 1]
        · refine ⟨false, ev_step ?_, ?_⟩
          · simp only [spec_l1Bundle.l0]
            rw [rd_get hi, spec_l6In_eqP, w64 (x := (i : Int) - 1) (by omega), show (i : Int) - 1 = ((i - 1 : Nat) : Int) from by omega, rd_get (show i - 1 < l.length by omega)]
            simp only [Option.bind_some]
            exact ev_pos (by omega) (ev_pos (by omega) (ev_pos (by simpa using c) (ev_pos (by omega) (ev_pos (by omega) (ev_pos (by omega) (ev_pos d (ev_some _)))))))
          · refine ⟨fun h => (by cases h), fun hb => ?_⟩
            have := (hb.1 i hi).2.2 c0
            omega
        · obtain ⟨b, hb, hb2⟩ := ih (by
            intro j hj hji
            rcases Nat.lt_or_ge j i with h1 | h1
            · exact ha j hj h1
            · obtain rfl : j = i := by omega
              exact ⟨c.1, c.2, fun _ => by omega⟩)
          refine ⟨b, ev_step ?_, hb2⟩
          simp only [spec_l1Bundle.l0]
          rw [rd_get hi, spec_l6In_eqP, w64 (x := (i : Int) - 1) (by omega), show (i : Int) - 1 = ((i - 1 : Nat) : Int) from by omega, rd_get (show i - 1 < l.length by omega), w64_succ (by omega)]
          simp only [Option.bind_some]
          exact ev_pos (by omega) (ev_pos (by omega) (ev_pos (by simpa using c) (ev_pos (by omega) (ev_pos (by omega) (ev_pos (by omega) (ev_neg d hb))))))
      · obtain ⟨b, hb, hb2⟩ := ih (by
          intro j hj hji
          obtain rfl : j = i := by omega
          exact ⟨c.1, c.2, fun h0 => by omega⟩)
        refine ⟨b, ev_step ?_, hb2⟩
        simp only [spec_l1Bundle.l0]
        rw [rd_get hi, spec_l6In_eqP, w64_succ (by omega)]
        simp only [Option.bind_some]
        exact ev_pos (by omega) (ev_pos (by omega) (ev_pos (by simpa using c) (ev_neg (by omega) hb)))
    · refine ⟨false, ev_step ?_, ?_⟩
      · simp only [spec_l1Bundle.l0]
        rw [rd_get hi, spec_l6In_eqP]
        simp only [Option.bind_some]
        exact ev_pos (by omega) (ev_pos (by omega) (ev_neg (by simpa using c) (ev_some _)))
      · refine ⟨fun h => (by cases h), fun hb => ?_⟩
        have := hb.1 i hi
        omega
theorem less_eq (a b : Int) : cmp_Less_int.f a b = some (decide (a < b)) := by
  unfold cmp_Less_int.f cmp_isNaN_int.f
  have : ∀ x : Int, (x != x) = false := fun x => by simp
  rw [this]
  rfl
theorem isSorted_ev (l : List Int) (h : l.length ≤ 1048576) : ∃ b, Ev (fun k => slices_IsSorted_int_int.f k l) b ∧ (b = true ↔ ∀ i (h : i < l.length), ∀ _ : 0 < i, l[i - 1] ≤ l[i]) := by
  unfold slices_IsSorted_int_int.f
  have key : ∀ n : Nat, n < l.length ∨ n = 0 → (∀ i (hi : i < l.length), n < i → l[i - 1] ≤ l[i]) → ∃ b, Ev (fun k => slices_IsSorted_int_int.l0 k l (n : Int)) b ∧ (b = true ↔ ∀ i (h : i < l.length), ∀ _ : 0 < i, l[i - 1] ≤ l[i]) := by
    intro n
    induction n with
    | zero =>
      intro _ ha
      refine ⟨true, ev_step ?_, fun _ i hi h0 => ha i hi h0, fun _ => rfl⟩
      simp only [slices_IsSorted_int_int.l0]
      exact ev_neg (by omega) (ev_some _)
    | succ n ih =>
      intro hn ha
      have hn1 : n + 1 < l.length := by omega
      have e1 : wrap64 (((n + 1 : Nat) : Int) - 1) = (n : Int) := by rw [w64 (by omega)]; omega
      by_cases d : l[n + 1] < l[n]
      · refine ⟨false, ev_step ?_, fun h => (by cases h), fun hb => ?_⟩
        · simp only [slices_IsSorted_int_int.l0]
          rw [e1, rd_get hn1, rd_get (show n < l.length by omega), less_eq]
          simp only [Option.bind_some]
          exact ev_pos (by omega) (ev_pos (by omega) (ev_pos (by omega) (ev_pos (by omega) (ev_pos (by omega) (ev_pos (by simpa using d) (ev_some _))))))
        · have := hb (n + 1) hn1 (by omega)
          simp only [Nat.add_sub_cancel] at this
          omega
      · obtain ⟨b, hb, hb2⟩ := ih (by omega) (by
          intro i hi hni
          rcases Nat.lt_or_ge (n + 1) i with h1 | h1
          · exact ha i hi h1
          · obtain rfl : i = n + 1 := by omega
            simp only [Nat.add_sub_cancel]
            omega)
        refine ⟨b, ev_step ?_, hb2⟩
        simp only [slices_IsSorted_int_int.l0]
        rw [e1, rd_get hn1, rd_get (show n < l.length by omega), less_eq]
        simp only [Option.bind_some]
        exact ev_pos (by omega) (ev_pos (by omega) (ev_pos (by omega) (ev_pos (by omega) (ev_pos (by omega) (ev_neg (by simpa using d) hb)))))
  rcases Nat.eq_zero_or_pos l.length with h0 | h0
  · refine ⟨true, ev_step ?_, fun _ i hi => by omega, fun _ => rfl⟩
    simp only [slices_IsSorted_int_int.l0]
    rw [h0]
    exact ev_neg (by decide +kernel) (ev_some _)
  · obtain ⟨b, hb, hb2⟩ := key (l.length - 1) (by omega) (fun i hi h1 => by omega)
    refine ⟨b, ?_, hb2⟩
    rw [w64 (by omega), show (l.length : Int) - 1 = ((l.length - 1 : Nat) : Int) from by omega]
    exact hb
theorem stickIn_ev (l : List Int) (h : l.length ≤ 1048576) : ∃ b, Ev (fun k => impl_StickIn.f k l) b ∧ (b = true ↔ Bun l) := by
  unfold impl_StickIn.f
  obtain ⟨b, hb, hb2⟩ := isRuler_ev l h
  obtain ⟨c, hc, hc2⟩ := isSorted_ev l h
  by_cases d : b = true
  · refine ⟨c, Ev.bind hb (ev_pos d (Ev.bind hc (ev_some _))), ?_⟩
    have h1 := hb2.1 d
    rw [hc2]
    exact ⟨fun hs => ⟨fun i hi => ⟨(h1.1 i hi).1, (h1.1 i hi).2, hs i hi⟩, h1.2⟩, fun hs i hi => (hs.1 i hi).2.2⟩
  · refine ⟨false, Ev.bind hb (ev_neg d (ev_some _)), fun h => (by cases h), fun hs => ?_⟩
    exact absurd (hb2.2 ⟨fun i hi => ⟨(hs.1 i hi).1, (hs.1 i hi).2.1⟩, hs.2⟩) d

theorem ev_ite' {ρ : Type} {c : Prop} [Decidable c] {a b : Nat → Option ρ} {r : ρ} (k : Ev a r) (l : Ev b r) : Ev (fun n => if c then a n else b n) r := by
  by_cases h : c
  · exact ev_pos h k
  · exact ev_neg h l
def tri (a b c : Int) : Bool := decide (a < b + c) && (decide (b < a + c) && decide (c < a + b))
def TA (a : List Int) (i j k : Nat) : Bool := tri (a.getD i 0) (a.getD j 0) (a.getD k 0)
theorem three_ev {a b c : Int} (ha : 1 ≤ a ∧ a ≤ 60) (hb : 1 ≤ b ∧ b ≤ 60) (hc : 1 ≤ c ∧ c ≤ 60) : spec_l1Three.f a b c = some (tri a b c) := by
  unfold spec_l1Three.f tri
  rw [w64 (x := b + c) (by omega), w64 (x := a + c) (by omega), w64 (x := a + b) (by omega)]
  by_cases h1 : a < b + c
  · rw [if_pos h1, decide_eq_true h1, Bool.true_and]
    by_cases h2 : b < a + c
    · rw [if_pos h2, decide_eq_true h2, Bool.true_and]
    · rw [if_neg h2, decide_eq_false h2, Bool.false_and]
  · rw [if_neg h1, decide_eq_false h1, Bool.false_and]
theorem stick60_ev {a b c : Int} (ha : 1 ≤ a ∧ a ≤ 60) (hb : 1 ≤ b ∧ b ≤ 60) (hc : 1 ≤ c ∧ c ≤ 60) : Ev (fun k => impl_StickThree.f k a b c) (tri a b c) := by
  unfold impl_StickThree.f
  obtain ⟨r, hr, h2⟩ := isRuler_ev [a, b, c] (by show 3 ≤ 1048576; decide)
  have hrt : r = true := h2.2 ⟨fun i hi => by
    have : i = 0 ∨ i = 1 ∨ i = 2 := by simp at hi; omega
    rcases this with rfl | rfl | rfl
    · show 1 ≤ a ∧ a ≤ 60; omega
    · show 1 ≤ b ∧ b ≤ 60; omega
    · show 1 ≤ c ∧ c ≤ 60; omega, by show 1 ≤ 3; decide, by show 3 ≤ 9; decide⟩
  subst hrt
  refine Ev.bind hr (ev_pos rfl ?_)
  rw [w64 (x := b + c) (by omega), w64 (x := a + c) (by omega), w64 (x := a + b) (by omega)]
  unfold tri
  by_cases h1 : a < b + c
  · rw [decide_eq_true h1, Bool.true_and]
    refine ev_pos h1 ?_
    by_cases h2 : b < a + c
    · rw [decide_eq_true h2, Bool.true_and]
      exact ev_pos h2 (ev_some _)
    · rw [decide_eq_false h2, Bool.false_and]
      exact ev_neg h2 (ev_some _)
  · rw [decide_eq_false h1, Bool.false_and]
    exact ev_neg h1 (ev_some _)
theorem bun_getD {a : List Int} (h : Bun a) {i : Nat} (hi : i < a.length) : 1 ≤ a.getD i 0 ∧ a.getD i 0 ≤ 60 := by
  have := h.1 i hi
  rw [show a.getD i 0 = a[i] by simp [hi]]
  omega
/-! ### the callees of parts -/
theorem countOf_ev {l : List Int} (hl : l.length ≤ 9) (x : Int) : Ev (fun k => impl_countOf.f k l x) ((l.count x : Nat) : Int) := by
  unfold impl_countOf.f
  have key := down (fun i => Ev (fun k => impl_countOf.l0 k x (((l.take i).count x : Nat) : Int) l (l.length : Int) (i : Int)) ((l.count x : Nat) : Int)) l.length ?_ ?_ 0 (by omega)
  · simpa using key
  · rw [List.take_length]
    refine ev_step ?_
    simp only [impl_countOf.l0]
    exact ev_neg (by omega) (ev_some _)
  · intro i hi ih
    have hc : (l.take i).count x ≤ l.length := Nat.le_trans List.count_le_length (by rw [List.length_take]; omega)
    rw [List.take_succ_eq_append_getElem hi, List.count_append] at ih
    refine ev_step ?_
    simp only [impl_countOf.l0]
    rw [rd_get hi, w64_succ (by omega), w64_succ (by omega)]
    refine ev_pos (by omega) (ev_pos (by omega) (ev_pos (by omega) ?_))
    by_cases c : l[i] = x
    · refine ev_pos c ?_
      rw [c, show [x].count x = 1 by simp] at ih
      exact ih
    · refine ev_neg c ?_
      rw [show [l[i]].count x = 0 by simp [c]] at ih
      exact ih
theorem contains_ev {l : List Int} (hl : l.length ≤ 9) (x : Int) : Ev (fun k => slices_Contains_int_int.f k l x) (decide (x ∈ l)) := by
  have key := down (fun i => (∀ j (hj : j < l.length), j < i → x ≠ l[j]) → ∃ r, Ev (fun k => slices_Index_int_int.l0 k l x (l.length : Int) (i : Int)) r ∧ decide (r ≥ 0) = decide (x ∈ l)) l.length ?_ ?_ 0 (by omega)
  · obtain ⟨r, h1, h2⟩ := key (fun j _ hj => by omega)
    unfold slices_Contains_int_int.f slices_Index_int_int.f
    rw [← h2]
    exact Ev.bind h1 (ev_some _)
  · intro ha
    refine ⟨-1, ev_step ?_, ?_⟩
    · simp only [slices_Index_int_int.l0]
      exact ev_neg (by omega) (ev_some _)
    · rw [decide_eq_false (by omega), decide_eq_false]
      intro hx
      obtain ⟨j, hj, e⟩ := List.getElem_of_mem hx
      exact ha j hj hj e.symm
  · intro i hi ih ha
    by_cases c : x = l[i]
    · refine ⟨(i : Int), ev_step ?_, ?_⟩
      · simp only [slices_Index_int_int.l0]
        rw [rd_get hi]
        exact ev_pos (by omega) (ev_pos (by omega) (ev_pos (by omega) (ev_pos c (ev_some _))))
      · rw [decide_eq_true (by omega), decide_eq_true]
        rw [c]; exact List.getElem_mem hi
    · obtain ⟨r, h1, h2⟩ := ih (fun j hj hji => by
        rcases Nat.lt_or_ge j i with h1 | h1
        · exact ha j hj h1
        · obtain rfl : j = i := by omega
          exact c)
      refine ⟨r, ev_step ?_, h2⟩
      simp only [slices_Index_int_int.l0]
      rw [rd_get hi, w64_succ (by omega)]
      exact ev_pos (by omega) (ev_pos (by omega) (ev_pos (by omega) (ev_neg c h1)))
def idxI (l : List Int) (κ : Int) : List Nat := (List.range l.length).filter (fun i => l.getD i 0 == κ)
def fitB (a l : List Int) (m : Nat) : Bool := (List.range' 0 m).all fun κ => okT (TA a) (idxI l (κ : Int))
theorem fit_ev {a l : List Int} (h : Bun a) (hl : l.length = a.length) (m : Nat) (hm : m ≤ 100) : Ev (fun k => impl_partsFit.f k a l (m : Int)) (fitB a l m) := by
  have h9 := h.2.2
  have key := down (fun κ => Ev (fun k => impl_partsFit.l0 k a l (m : Int) (κ : Int)) ((List.range' κ (m - κ)).all fun κ => okT (TA a) (idxI l (κ : Int)))) m ?_ ?_ 0 (by omega)
  · exact key
  · rw [Nat.sub_self]
    refine ev_step ?_
    simp only [impl_partsFit.l0]
    exact ev_neg (by omega) (ev_some _)
  · intro κ hκ ih
    rw [show m - κ = (m - (κ + 1)) + 1 by omega, List.range'_succ, List.all_cons]
    refine ev_step ?_
    simp only [impl_partsFit.l0]
    refine ev_pos (by omega) ?_
    have inner := down (fun i => Ev (fun k => impl_partsFit.l1 k a l (κ : Int) (((List.range i).filter (fun i => l.getD i 0 == (κ : Int))).map (fun i => a.getD i 0)) (m : Int) (κ : Int) l (l.length : Int) (i : Int)) (okT (TA a) (idxI l (κ : Int)) && (List.range' (κ + 1) (m - (κ + 1))).all fun κ => okT (TA a) (idxI l (κ : Int)))) l.length ?_ ?_ 0 (by omega)
    · exact inner
    · refine ev_step ?_
      simp only [impl_partsFit.l1]
      refine ev_neg (by omega) ?_
      have hmem : ∀ i ∈ idxI l (κ : Int), i < a.length := fun i hi => by
        unfold idxI at hi
        rw [List.mem_filter, List.mem_range] at hi
        omega
      change Ev (fun k => if (((idxI l (κ : Int)).map (fun i => a.getD i 0)).length : Int) = 3 then _ else _) _
      change ∀ i ∈ idxI l (κ : Int), i < a.length at hmem
      show Ev (fun k => if (((idxI l (κ : Int)).map (fun i => a.getD i 0)).length : Int) = 3 then (if 0 < (((idxI l (κ : Int)).map (fun i => a.getD i 0)).length : Int) then (if 1 < (((idxI l (κ : Int)).map (fun i => a.getD i 0)).length : Int) then (if 2 < (((idxI l (κ : Int)).map (fun i => a.getD i 0)).length : Int) then ((impl_StickThree.f k (rd ((idxI l (κ : Int)).map (fun i => a.getD i 0)) 0) (rd ((idxI l (κ : Int)).map (fun i => a.getD i 0)) 1) (rd ((idxI l (κ : Int)).map (fun i => a.getD i 0)) 2)).bind fun t145 => (if t145 = true then (impl_partsFit.l0 k a l (m : Int) (wrap64 ((κ : Int) + 1))) else (some false))) else (none)) else (none)) else (none)) else (some false)) _
      generalize idxI l (κ : Int) = t at hmem ⊢
      by_cases h3 : t.length = 3
      · match t, h3 with
        | [i, j, k], _ =>
          refine ev_pos (by simp) (ev_pos (by simp) (ev_pos (by simp) (ev_pos (by simp) ?_)))
          have b1 := bun_getD h (hmem i (by simp))
          have b2 := bun_getD h (hmem j (by simp))
          have b3 := bun_getD h (hmem k (by simp))
          have hs : Ev (fun k_ => impl_StickThree.f k_ (rd (([i, j, k] : List Nat).map (fun i => a.getD i 0)) 0) (rd (([i, j, k] : List Nat).map (fun i => a.getD i 0)) 1) (rd (([i, j, k] : List Nat).map (fun i => a.getD i 0)) 2)) (tri (a.getD i 0) (a.getD j 0) (a.getD k 0)) := stick60_ev b1 b2 b3
          refine Ev.bind hs ?_
          show Ev _ (tri (a.getD i 0) (a.getD j 0) (a.getD k 0) && _)
          rw [w64_succ (by omega)]
          cases tri (a.getD i 0) (a.getD j 0) (a.getD k 0) with
          | true => rw [Bool.true_and]; exact ev_pos rfl ih
          | false => rw [Bool.false_and]; exact ev_neg (by decide) (ev_some _)
      · have hf : okT (TA a) t = false := by
          cases hc : okT (TA a) t with
          | false => rfl
          | true => exact absurd (okT_three hc) h3
        rw [hf, Bool.false_and]
        exact ev_neg (by rw [List.length_map]; omega) (ev_some _)
    · intro i hi ih2
      refine ev_step ?_
      simp only [impl_partsFit.l1]
      have hlen : (((List.range i).filter (fun i => l.getD i 0 == (κ : Int))).map (fun i => a.getD i 0)).length ≤ 9 := by
        rw [List.length_map]
        exact Nat.le_trans (List.length_filter_le _ _) (by rw [List.length_range]; omega)
      have eg : l.getD i 0 = l[i] := by simp [hi]
      have eg2 : rd a (i : Int) = a.getD i 0 := rd_nat a i
      rw [List.range_succ, List.filter_append, List.map_append] at ih2
      rw [rd_get hi, w64_succ (by omega), eg2]
      refine ev_pos (by omega) (ev_pos (by omega) (ev_pos (by omega) ?_))
      by_cases c : l[i] = (κ : Int)
      · refine ev_pos c (ev_pos (by omega) (ev_pos (by omega) ?_))
        rw [show ([i] : List Nat).filter (fun i => l.getD i 0 == (κ : Int)) = [i] by simp [hi, c]] at ih2
        exact ih2
      · refine ev_neg c ?_
        rw [show ([i] : List Nat).filter (fun i => l.getD i 0 == (κ : Int)) = [] by simp [hi, c], List.map_nil, List.append_nil] at ih2
        exact ih2
theorem fit_false {a l : List Int} {m : Nat} (h : l.length < 3 * m) : fitB a l m = false := by
  cases hc : fitB a l m with
  | false => rfl
  | true =>
    exfalso
    unfold fitB at hc
    rw [List.all_eq_true] at hc
    have := too_many (l := l) (m := m) (fun κ hk => okT_three (hc κ (by rw [List.mem_range'_1]; omega)))
    omega
theorem cnt_ev {l : List Int} (hl : l.length ≤ 9) (x : Int) : Ev (fun k => impl_parts.cnt k l x) ((l.count x : Nat) : Int) := countOf_ev hl x
/-! ### all part lists -/
theorem row_same {F : Nat → Int → Int → Option Int} {s : Int} (hF : ∀ i, Ev (fun k => F k i s) s) : ∀ (r : Nat) (i : Int), Ev (fun k => row (F k) r i s) s
  | 0, _ => ev_some _
  | r + 1, i => Ev.bind (hF i) (row_same hF r (i + 1))
theorem vis_dead {a : List Int} (h : Bun a) : ∀ (d : Nat) (l : List Int) (m : Nat) (s : Int), l.length + d = a.length → m ≤ l.length → (-1 ∈ l ∨ a.length < 3 * m) → Ev (fun k => vis (impl_parts.fit k a) (impl_parts.cnt k) (impl_PartWays.step k) d l m s) s
  | 0, l, m, s, hl, hm, hd => by
    have h9 := h.2.2
    unfold vis
    refine Ev.bind (fit_ev h (by omega) m (by omega)) ?_
    rcases hd with hd | hd
    · refine ev_ite' ?_ (ev_some _)
      unfold impl_PartWays.step
      refine Ev.bind (contains_ev (by omega) (-1)) ?_
      exact ev_pos (by simpa using hd) (ev_some _)
    · rw [fit_false (by omega)]
      exact ev_neg (by decide) (ev_some _)
  | d + 1, l, m, s, hl, hm, hd => by
    have h9 := h.2.2
    unfold vis
    have hin : ∀ κ : Int, Ev (fun k => vis (impl_parts.fit k a) (impl_parts.cnt k) (impl_PartWays.step k) d (l ++ [κ]) (if κ = (m : Int) then m + 1 else m) s) s := fun κ => by
      refine vis_dead h d (l ++ [κ]) _ s (by simp; omega) (by simp; split <;> omega) ?_
      rcases hd with hd | hd
      · exact .inl (List.mem_append_left _ hd)
      · exact .inr (by split <;> omega)
    refine row_same (F := fun k κ s => if 0 ≤ κ then ((impl_parts.cnt k l κ).bind fun c => if c = 3 then some s else vis (impl_parts.fit k a) (impl_parts.cnt k) (impl_PartWays.step k) d (l ++ [κ]) (if κ = (m : Int) then m + 1 else m) s) else vis (impl_parts.fit k a) (impl_parts.cnt k) (impl_PartWays.step k) d (l ++ [κ]) (if κ = (m : Int) then m + 1 else m) s) (fun κ => ?_) (m + 2) (-1)
    refine ev_ite' (Ev.bind (cnt_ev (by omega) κ) (ev_ite' (ev_some _) (hin κ))) (hin κ)
/-- Live lists: numbers that are no -1. -/
def enc (L : List Nat) : List Int := L.map fun x : Nat => (x : Int)
theorem enc_count (L : List Nat) (κ : Nat) : (enc L).count (κ : Int) = L.count κ := by
  unfold enc
  induction L with
  | nil => rfl
  | cons x L ih =>
    rw [List.map_cons, List.count_cons, List.count_cons, ih]
    by_cases c : x = κ
    · subst c; simp
    · rw [if_neg (by simp; omega), if_neg (by simp; omega)]
theorem enc_idx (L : List Nat) (κ : Nat) : idxI (enc L) (κ : Int) = idx L κ := by
  unfold idxI idx
  rw [show (enc L).length = L.length by simp [enc]]
  refine List.filter_congr (fun i hi => ?_)
  have hi2 := List.mem_range.1 hi
  rw [show (enc L).getD i 0 = ((L.getD i 0 : Nat) : Int) by simp [enc, hi2]]
  rw [Bool.eq_iff_iff]
  constructor
  · intro e
    have : L.getD i 0 = κ := by have := beq_iff_eq.1 e; omega
    rw [this]; exact Nat.beq_refl _
  · intro e
    rw [Nat.eq_of_beq_eq_true e]; simp
theorem enc_not (L : List Nat) : ¬ (-1 : Int) ∈ enc L := by
  unfold enc
  intro h
  obtain ⟨x, _, hx⟩ := List.mem_map.1 h
  omega
theorem enc_fit (a : List Int) (L : List Nat) (m : Nat) : fitB a (enc L) m = fB (TA a) (blocks (L, m)) := by
  unfold fitB fB blocks
  rw [List.all_map]
  congr 1
  funext κ
  rw [enc_idx]
  rfl
theorem row_sum {F : Nat → Int → Int → Option Int} {G : Nat → List (List Nat × Nat)} {P : List Nat × Nat → Bool} {N : Nat} (hF : ∀ i, i < N → ∀ s, wrap64 s = s → Ev (fun k => F k (i : Int) s) (wrap64 (s + ((G i).countP P : Nat)))) :
    ∀ (r i : Nat), i + r ≤ N → ∀ s, wrap64 s = s → Ev (fun k => row (F k) r (i : Int) s) (wrap64 (s + (((List.range' i r).flatMap G).countP P : Nat)))
  | 0, i, _, s, hs => by
    have : wrap64 (s + (((List.range' i 0).flatMap G).countP P : Nat)) = s := by simp [hs]
    rw [this]
    exact ev_some _
  | r + 1, i, hN, s, hs => by
    have h2 := row_sum hF r (i + 1) (by omega) (wrap64 (s + ((G i).countP P : Nat))) (by unfold wrap64; omega)
    rw [w_add_l] at h2
    have e : wrap64 (s + (((List.range' i (r + 1)).flatMap G).countP P : Nat)) = wrap64 (s + ((G i).countP P : Nat) + (((List.range' (i + 1) r).flatMap G).countP P : Nat)) := by
      rw [List.range'_succ, List.flatMap_cons, List.countP_append]
      congr 1
      omega
    rw [e]
    exact Ev.bind (hF i (by omega) s hs) h2
theorem row_first {F : Nat → Int → Int → Option Int} {s v : Int} {r : Nat} (h : Ev (fun k => F k (-1) s) s) (h2 : Ev (fun k => row (F k) r ((0 : Nat) : Int) s) v) : Ev (fun k => row (F k) (r + 1) (-1) s) v := Ev.bind h h2
theorem vis_ev {a : List Int} (h : Bun a) : ∀ (d : Nat) (L : List Nat) (m : Nat) (s : Int), L.length + d = a.length → m ≤ L.length → 3 * m ≤ a.length → wrap64 s = s →
    Ev (fun k => vis (impl_parts.fit k a) (impl_parts.cnt k) (impl_PartWays.step k) d (enc L) m s) (wrap64 (s + ((leaves a.length d L m).countP (fun p => fB (TA a) (blocks p)) : Nat)))
  | 0, L, m, s, hl, hm, h3, hs => by
    have h9 := h.2.2
    have hL : (enc L).length = L.length := by simp [enc]
    unfold vis leaves
    refine Ev.bind (fit_ev h (by omega) m (by omega)) ?_
    rw [enc_fit]
    by_cases c : fB (TA a) (blocks (L, m)) = true
    · rw [c]
      refine ev_pos rfl ?_
      unfold impl_PartWays.step
      refine Ev.bind (contains_ev (by omega) (-1)) ?_
      refine ev_neg (by simpa using enc_not L) ?_
      rw [show ([(L, m)] : List (List Nat × Nat)).countP (fun p => fB (TA a) (blocks p)) = 1 by simp [c]]
      exact ev_some _
    · refine ev_neg c ?_
      rw [show ([(L, m)] : List (List Nat × Nat)).countP (fun p => fB (TA a) (blocks p)) = 0 by simp [c]]
      rw [show s + ((0 : Nat) : Int) = s by omega, hs]
      exact ev_some _
  | d + 1, L, m, s, hl, hm, h3, hs => by
    have h9 := h.2.2
    have hL : (enc L).length = L.length := by simp [enc]
    unfold vis leaves
    have h1 : ∀ κ : Int, (κ = -1 ∨ a.length < 3 * (if κ = (m : Int) then m + 1 else m)) → ∀ s, Ev (fun k => vis (impl_parts.fit k a) (impl_parts.cnt k) (impl_PartWays.step k) d (enc L ++ [κ]) (if κ = (m : Int) then m + 1 else m) s) s := fun κ hκ s => by
      refine vis_dead h d (enc L ++ [κ]) _ s (by simp [hL]; omega) (by simp [hL]; split <;> omega) ?_
      rcases hκ with rfl | hκ
      · exact .inl (by simp)
      · exact .inr hκ
    refine row_first (F := fun k κ s => if 0 ≤ κ then ((impl_parts.cnt k (enc L) κ).bind fun c => if c = 3 then some s else vis (impl_parts.fit k a) (impl_parts.cnt k) (impl_PartWays.step k) d (enc L ++ [κ]) (if κ = (m : Int) then m + 1 else m) s) else vis (impl_parts.fit k a) (impl_parts.cnt k) (impl_PartWays.step k) d (enc L ++ [κ]) (if κ = (m : Int) then m + 1 else m) s) (ev_neg (c := (0 : Int) ≤ -1) (by decide) (h1 (-1) (.inl rfl) s)) ?_
    refine row_sum (F := fun k κ s => if 0 ≤ κ then ((impl_parts.cnt k (enc L) κ).bind fun c => if c = 3 then some s else vis (impl_parts.fit k a) (impl_parts.cnt k) (impl_PartWays.step k) d (enc L ++ [κ]) (if κ = (m : Int) then m + 1 else m) s) else vis (impl_parts.fit k a) (impl_parts.cnt k) (impl_PartWays.step k) d (enc L ++ [κ]) (if κ = (m : Int) then m + 1 else m) s) (N := m + 1) ?_ (m + 1) 0 (by omega) s hs
    intro κ hκ s hs
    refine ev_pos (by omega) (Ev.bind (cnt_ev (by omega) (κ : Int)) ?_)
    rw [enc_count]
    have hzero : wrap64 (s + ((([] : List (List Nat × Nat)).countP (fun p => fB (TA a) (blocks p)) : Nat) : Int)) = s := by simp [hs]
    by_cases c3 : L.count κ = 3
    · rw [show Nat.beq (L.count κ) 3 = true by rw [c3]; rfl, cond_true, hzero]
      exact ev_pos (by omega) (ev_some _)
    · rw [show Nat.beq (L.count κ) 3 = false from by
        cases e : Nat.beq (L.count κ) 3 with
        | false => rfl
        | true => exact absurd (Nat.eq_of_beq_eq_true e) c3, cond_false]
      refine ev_neg (by omega) ?_
      have em : (bif Nat.beq κ m then m + 1 else m) = (if (κ : Int) = (m : Int) then m + 1 else m) := by
        by_cases e : κ = m
        · subst e; simp [Nat.beq_refl]
        · rw [if_neg (by omega)]
          cases e2 : Nat.beq κ m with
          | false => rfl
          | true => exact absurd (Nat.eq_of_beq_eq_true e2) e
      rw [em]
      by_cases c9 : 3 * (if (κ : Int) = (m : Int) then m + 1 else m) ≤ a.length
      · rw [Nat.ble_eq_true_of_le c9, cond_true]
        have := vis_ev h d (L ++ [κ]) (if (κ : Int) = (m : Int) then m + 1 else m) s (by simp; omega) (by simp; split <;> omega) c9 hs
        rw [show enc (L ++ [κ]) = enc L ++ [(κ : Int)] by simp [enc]] at this
        exact this
      · rw [show Nat.ble (3 * (if (κ : Int) = (m : Int) then m + 1 else m)) a.length = false from by
          cases e : Nat.ble (3 * (if (κ : Int) = (m : Int) then m + 1 else m)) a.length with
          | false => rfl
          | true => exact absurd (Nat.le_of_ble_eq_true e) c9, cond_false, hzero]
        exact h1 (κ : Int) (.inr (by omega)) s
theorem impl_ways_ev {a : List Int} (h : Bun a) : Ev (fun k => impl_parts.f k (impl_PartWays.step k) 0 a) (wrap64 ((((leaves a.length a.length [] 0).map blocks).countP (fB (TA a)) : Nat) : Int)) := by
  have h9 := h.2.2
  unfold impl_parts.f
  have := vis_ev h a.length [] 0 0 (by simp) (by simp) (by omega) (by decide +kernel)
  rw [Int.zero_add] at this
  rw [List.countP_map]
  exact ev_pos (by omega) this
/-! ### the model's search -/
theorem i64_and_nat (a b : Nat) (ha : a < 9223372036854775808) : Go.bits .and .i64 (a : Int) (b : Int) = ((a &&& (b % 18446744073709551616) : Nat) : Int) := by
  have hx : a &&& (b % 18446744073709551616) ≤ a := Nat.and_le_left
  show IntKind.i64.wrap ((BitVec.ofInt 64 (a : Int) &&& BitVec.ofInt 64 (b : Int)).toNat : Int) = _
  rw [BitVec.toNat_and, ofInt_i64 a ha, BitVec.ofInt_natCast, BitVec.toNat_ofNat, IntKind.wrap_i64]
  have e : b % 2 ^ 64 = b % 18446744073709551616 := rfl
  rw [e]
  omega
theorem i64_andNot_nat (a b : Nat) (ha : a < 9223372036854775808) (hb : b < 9223372036854775808) : Go.bits .andNot .i64 (a : Int) (b : Int) = ((a &&& (18446744073709551615 - b) : Nat) : Int) := by
  have hx : a &&& (18446744073709551615 - b) ≤ a := Nat.and_le_left
  show IntKind.i64.wrap ((BitVec.ofInt 64 (a : Int) &&& ~~~BitVec.ofInt 64 (b : Int)).toNat : Int) = _
  rw [BitVec.toNat_and, BitVec.toNat_not, ofInt_i64 a ha, ofInt_i64 b hb, IntKind.wrap_i64]
  have e : 2 ^ 64 - 1 - b = 18446744073709551615 - b := by omega
  rw [e]
  omega
theorem i64_or_nat (a b : Nat) (ha : a < 9223372036854775808) (hb : b < 9223372036854775808) : Go.bits .or .i64 (a : Int) (b : Int) = ((a ||| b : Nat) : Int) := by
  have hx : a ||| b < 2 ^ 63 := Nat.or_lt_two_pow (by omega) (by omega)
  show IntKind.i64.wrap ((BitVec.ofInt 64 (a : Int) ||| BitVec.ofInt 64 (b : Int)).toNat : Int) = _
  rw [BitVec.toNat_or, ofInt_i64 a ha, ofInt_i64 b hb, IntKind.wrap_i64]
  omega
theorem shl1 {i : Nat} (h : i < 9) : shl .i64 1 (i : Int) = ((2 ^ i : Nat) : Int) := by
  have : i = 0 ∨ i = 1 ∨ i = 2 ∨ i = 3 ∨ i = 4 ∨ i = 5 ∨ i = 6 ∨ i = 7 ∨ i = 8 := by omega
  rcases this with rfl | rfl | rfl | rfl | rfl | rfl | rfl | rfl | rfl <;> decide +kernel
theorem pow_lt9 {i : Nat} (h : i < 9) : 2 ^ i < 512 := Nat.pow_lt_pow_right (by omega) (show i < 9 from h)
theorem m3_eq {i j k : Nat} (hij : i < j) (hjk : j < k) (hk : k < 9) : Go.bits .or .i64 (Go.bits .or .i64 (shl .i64 1 (i : Int)) (shl .i64 1 (j : Int))) (shl .i64 1 (k : Int)) = ((2 ^ i + 2 ^ j + 2 ^ k : Nat) : Int) := by
  have p1 := pow_lt9 (i := i) (by omega)
  have p2 := pow_lt9 (i := j) (by omega)
  have p3 := pow_lt9 hk
  have o1 : 2 ^ i ||| 2 ^ j < 2 ^ 9 := Nat.or_lt_two_pow (by omega) (by omega)
  rw [shl1 (by omega), shl1 (by omega), shl1 hk, i64_or_nat _ _ (by omega) (by omega), i64_or_nat _ _ (by omega) (by omega), mask_or hij hjk hk]
theorem bit_eq {M i : Nat} (hi : i < 9) : Go.bits .and .i64 (shr .i64 (M : Int) (i : Int)) 1 = ((M / 2 ^ i % 2 : Nat) : Int) := by
  rw [i64_and1]
  have e : shr .i64 (M : Int) (i : Int) = ((M / 2 ^ i : Nat) : Int) := by
    show (M : Int) / 2 ^ min ((i : Int).toNat) 64 = _
    rw [Int.toNat_natCast, Nat.min_eq_left (by omega)]
    simp
  rw [e]
  omega
theorem low_ev {a : List Int} {M n : Nat} (hn : n ≤ 9) (hM : M < 2 ^ n) (h0 : M ≠ 0) : ∀ f i, i + f = n → (∀ j, j < i → M.testBit j = false) →
    (low M f i < n ∧ M.testBit (low M f i) = true) ∧ ∀ v : Int, Ev (fun k => spec_l9Search.l1 k a (M : Int) 0 ((low M f i : Nat) : Int) 0 (((low M f i : Nat) : Int) + 1)) v → Ev (fun k => spec_l9Search.l0 k a (M : Int) 0 (i : Int)) v
  | 0, i, hi, hb => by
    exfalso
    apply h0
    apply Nat.eq_of_testBit_eq
    intro j
    rw [Nat.zero_testBit]
    rcases Nat.lt_or_ge j i with c | c
    · exact hb j c
    · exact Nat.testBit_lt_two_pow (Nat.lt_of_lt_of_le hM (Nat.pow_le_pow_right (by omega) (by omega)))
  | f + 1, i, hi, hb => by
    have hM2 : M < 512 := Nat.lt_of_lt_of_le hM (show 2 ^ n ≤ 2 ^ 9 from Nat.pow_le_pow_right (by omega) hn)
    have hba := bit_at hM2 (i := i) (by omega)
    unfold low
    cases c : M.testBit i with
    | true =>
      rw [cond_true]
      refine ⟨⟨by omega, c⟩, fun v hv => ev_step ?_⟩
      simp only [spec_l9Search.l0]
      rw [bit_eq (by omega), hba.1 c]
      rw [show wrap64 ((i : Int) + 1) = (i : Int) + 1 from w64 (by omega)]
      exact ev_pos (by omega) (ev_neg (by decide) hv)
    | false =>
      rw [cond_false]
      obtain ⟨h1, h2⟩ := low_ev (a := a) hn hM h0 f (i + 1) (by omega) (fun j hj => by
        rcases Nat.lt_or_ge j i with e | e
        · exact hb j e
        · obtain rfl : j = i := by omega
          exact c)
      refine ⟨h1, fun v hv => ev_step ?_⟩
      simp only [spec_l9Search.l0]
      have hz : M / 2 ^ i % 2 = 0 := by
        rcases Nat.mod_two_eq_zero_or_one (M / 2 ^ i) with e | e
        · exact e
        · rw [hba.2 e] at c; cases c
      rw [bit_eq (by omega), hz, w64_succ (by omega)]
      exact ev_pos (by omega) (ev_pos rfl (h2 v hv))
theorem countP_cons_map {T : Nat → Nat → Nat → Bool} (t : List Nat) (X : List (List (List Nat))) : (X.map (t :: ·)).countP (fB T) = if okT T t = true then X.countP (fB T) else 0 := by
  rw [List.countP_map]
  by_cases c : okT T t = true
  · rw [if_pos c]
    refine List.countP_congr (fun b _ => ?_)
    simp [fB, c]
  · rw [if_neg c, List.countP_eq_zero]
    intro b _
    simp [fB, c]
theorem search_ev {a : List Int} (h : Bun a) : ∀ F M : Nat, M ≤ F → M < 2 ^ a.length → Ev (fun k => spec_l9Search.f k a (M : Int) 0) (wrap64 (((enum a.length F M).countP (fB (TA a)) : Nat) : Int)) := by
  have h9 := h.2.2
  have base : Ev (fun k => spec_l9Search.f k a ((0 : Nat) : Int) 0) (wrap64 ((([[]] : List (List (List Nat))).countP (fB (TA a)) : Nat) : Int)) := by
    rw [show ([[]] : List (List (List Nat))).countP (fB (TA a)) = 1 by simp [fB], show wrap64 ((1 : Nat) : Int) = 1 by decide +kernel]
    refine ev_step ?_
    simp only [spec_l9Search.f]
    exact ev_pos rfl (ev_some _)
  intro F
  induction F with
  | zero =>
    intro M hF hM
    obtain rfl : M = 0 := by omega
    exact base
  | succ F ihF =>
    intro M hF hM
    unfold enum
    by_cases h0 : M = 0
    · subst h0
      exact base
    · rw [show Nat.beq M 0 = false from by
        cases e : Nat.beq M 0 with
        | false => rfl
        | true => exact absurd (Nat.eq_of_beq_eq_true e) h0, cond_false]
      have hM2 : M < 512 := Nat.lt_of_lt_of_le hM (show 2 ^ a.length ≤ 2 ^ 9 from Nat.pow_le_pow_right (by omega) h9)
      obtain ⟨⟨hi, hbi⟩, hl0⟩ := low_ev (a := a) h9 hM h0 a.length 0 (by omega) (fun j hj => by omega)
      generalize low M a.length 0 = i at hi hbi hl0 ⊢
      refine ev_step ?_
      simp only [spec_l9Search.f]
      refine ev_neg (by omega) (hl0 _ ?_)
      have key := down (fun j => i < j → ∀ s : Int, wrap64 s = s → Ev (fun k => spec_l9Search.l1 k a (M : Int) 0 (i : Int) s (j : Int)) (wrap64 (s + (((List.range' j (a.length - j)).flatMap fun j => (List.range' (j + 1) (a.length - (j + 1))).flatMap fun k => bif M.testBit j && M.testBit k then (enum a.length F (M - (2 ^ i + 2 ^ j + 2 ^ k))).map ([i, j, k] :: ·) else []).countP (fB (TA a)) : Nat)))) a.length ?_ ?_ (i + 1) (by omega)
      · have := key (by omega) 0 (by decide +kernel)
        rw [Int.zero_add] at this
        exact this
      · intro _ s hs
        rw [Nat.sub_self]
        refine ev_step ?_
        simp only [spec_l9Search.l1]
        refine ev_neg (by omega) ?_
        rw [List.range'_zero, List.flatMap_nil, List.countP_nil, show wrap64 (s + ((0 : Nat) : Int)) = s by rw [show s + ((0 : Nat) : Int) = s by omega, hs]]
        exact ev_some _
      · intro j hj ihj hij s hs
        refine ev_step ?_
        simp only [spec_l9Search.l1]
        refine ev_pos (by omega) ?_
        rw [w64_succ (by omega)]
        rw [show a.length - j = (a.length - (j + 1)) + 1 by omega, List.range'_succ, List.flatMap_cons, List.countP_append]
        have inner := down (fun kk => j < kk → ∀ s : Int, wrap64 s = s → Ev (fun k => spec_l9Search.l2 k a (M : Int) 0 (i : Int) s (j : Int) (kk : Int)) (wrap64 (s + ((((List.range' kk (a.length - kk)).flatMap fun k => bif M.testBit j && M.testBit k then (enum a.length F (M - (2 ^ i + 2 ^ j + 2 ^ k))).map ([i, j, k] :: ·) else []).countP (fB (TA a)) + ((List.range' (j + 1) (a.length - (j + 1))).flatMap fun j => (List.range' (j + 1) (a.length - (j + 1))).flatMap fun k => bif M.testBit j && M.testBit k then (enum a.length F (M - (2 ^ i + 2 ^ j + 2 ^ k))).map ([i, j, k] :: ·) else []).countP (fB (TA a)) : Nat) : Int)))) a.length ?_ ?_ (j + 1) (by omega)
        · exact inner (by omega) s hs
        · intro _ s hs
          refine ev_step ?_
          simp only [spec_l9Search.l2]
          refine ev_neg (by omega) ?_
          rw [w64_succ (by omega), Nat.sub_self]
          simpa using ihj (by omega) s hs
        · intro kk hk ihk hjk s hs
          have go : ∀ c : Nat, (bif M.testBit j && M.testBit kk then (enum a.length F (M - (2 ^ i + 2 ^ j + 2 ^ kk))).map ([i, j, kk] :: ·) else []).countP (fB (TA a)) = c → Ev (fun k => spec_l9Search.l2 k a (M : Int) 0 (i : Int) (wrap64 (s + (c : Int))) (j : Int) ((kk + 1 : Nat) : Int)) (wrap64 (s + ((((List.range' kk (a.length - kk)).flatMap fun k => bif M.testBit j && M.testBit k then (enum a.length F (M - (2 ^ i + 2 ^ j + 2 ^ k))).map ([i, j, k] :: ·) else []).countP (fB (TA a)) + ((List.range' (j + 1) (a.length - (j + 1))).flatMap fun j => (List.range' (j + 1) (a.length - (j + 1))).flatMap fun k => bif M.testBit j && M.testBit k then (enum a.length F (M - (2 ^ i + 2 ^ j + 2 ^ k))).map ([i, j, k] :: ·) else []).countP (fB (TA a)) : Nat) : Int))) := fun c hc => by
            have := ihk (by omega) (wrap64 (s + (c : Int))) (by unfold wrap64; omega)
            rw [w_add_l] at this
            rw [show a.length - kk = (a.length - (kk + 1)) + 1 by omega, List.range'_succ, List.flatMap_cons, List.countP_append, hc]
            refine Eq.mp (congrArg _ ?_) this
            congr 1
            omega
          refine ev_step ?_
          simp only [spec_l9Search.l2]
          rw [m3_eq hij hjk (by omega), i64_and_nat M _ (by omega), w64_succ (by omega)]
          have hp1 := pow_lt9 (i := i) (by omega)
          have hp2 := pow_lt9 (i := j) (by omega)
          have hp3 := pow_lt9 (i := kk) (by omega)
          have hpos : 0 < 2 ^ i := Nat.pow_pos (by omega)
          rw [Nat.mod_eq_of_lt (show 2 ^ i + 2 ^ j + 2 ^ kk < 18446744073709551616 by omega)]
          refine ev_pos (by omega) (ev_pos (by omega) (ev_pos (by omega) (ev_pos (by omega) ?_)))
          have hin := mask_in hM2 hij hjk (show kk < 9 by omega) hbi
          by_cases c : (M.testBit j && M.testBit kk) = true
          · have hle : 2 ^ i + 2 ^ j + 2 ^ kk ≤ M := by
              rw [← hin.2 c]; exact Nat.and_le_left
            have hm := hin.2 c
            refine ev_pos (by rw [hm]) (ev_pos (by omega) (ev_pos (by omega) ?_))
            rw [rd_nat, rd_nat, rd_nat, three_ev (bun_getD h (show i < a.length by omega)) (bun_getD h hj) (bun_getD h hk)]
            simp only [Option.bind_some]
            rw [i64_andNot_nat M _ (by omega) (by omega), mask_out hM2 hij hjk (by omega) hbi c]
            rw [c, cond_true, countP_cons_map] at go
            by_cases ct : tri (a.getD i 0) (a.getD j 0) (a.getD kk 0) = true
            · refine ev_pos ct (ev_pos (by trivial) ?_)
              have hr := ihF (M - (2 ^ i + 2 ^ j + 2 ^ kk)) ((fun (q : Nat) (h0 : 0 < q) => (by omega : M - q ≤ F)) (2 ^ i + 2 ^ j + 2 ^ kk) (Nat.lt_of_lt_of_le hpos (Nat.le_trans (Nat.le_add_right _ _) (Nat.le_add_right _ _)))) (Nat.lt_of_le_of_lt (Nat.sub_le _ _) hM)
              have hgo := go _ rfl
              rw [if_pos (show okT (TA a) [i, j, kk] = true from ct)] at hgo
              refine Ev.bind hr ?_
              rw [w_add_r]
              exact hgo
            · refine ev_neg ct ?_
              have hgo := go _ rfl
              rw [if_neg (show ¬ okT (TA a) [i, j, kk] = true from ct), show wrap64 (s + ((0 : Nat) : Int)) = s by rw [show s + ((0 : Nat) : Int) = s by omega, hs]] at hgo
              exact hgo
          · refine ev_neg (fun e => c (hin.1 (by omega))) ?_
            have hc : (M.testBit j && M.testBit kk) = false := by simpa using c
            have hgo := go 0 (by rw [hc]; rfl)
            rw [show wrap64 (s + ((0 : Nat) : Int)) = s by rw [show s + ((0 : Nat) : Int) = s by omega, hs]] at hgo
            exact hgo
theorem full {n : Nat} (h : n ≤ 9) : wrap64 (shl .i64 1 (n : Int) - 1) = ((2 ^ n - 1 : Nat) : Int) := by
  have : n = 0 ∨ n = 1 ∨ n = 2 ∨ n = 3 ∨ n = 4 ∨ n = 5 ∨ n = 6 ∨ n = 7 ∨ n = 8 ∨ n = 9 := by omega
  rcases this with rfl | rfl | rfl | rfl | rfl | rfl | rfl | rfl | rfl | rfl <;> decide +kernel
theorem partWays_ev (l : List Int) (h : l.length ≤ 1048576) : ∃ r : Int × Bool, Ev (fun k => spec_PartWays.f k l) r ∧ Ev (fun k => impl_PartWays.f k l) r := by
  obtain ⟨b, hb, hb2⟩ := spec_Bundle_ev l h
  obtain ⟨c, hc, hc2⟩ := stickIn_ev l h
  unfold spec_PartWays.f impl_PartWays.f
  by_cases hB : Bun l
  · have h9 := hB.2
    have hs := search_ev hB (2 ^ l.length - 1) (2 ^ l.length - 1) (Nat.le_refl _) (by have : 0 < 2 ^ l.length := Nat.pow_pos (by omega); omega)
    have hi := impl_ways_ev hB
    rw [Go.Proofs.Ytnpaaaponjcmkaa.Thr.ways h9] at hi
    refine ⟨(_, true), Ev.bind hb (ev_pos (hb2.2 hB) ?_), Ev.bind hc (ev_pos (hc2.2 hB) (Ev.bind hi (ev_some _)))⟩
    rw [full h9.2]
    exact Ev.bind hs (ev_some _)
  · exact ⟨(0, false), Ev.bind hb (ev_neg (fun e => hB (hb2.1 e)) (ev_some _)), Ev.bind hc (ev_neg (fun e => hB (hc2.1 e)) (ev_some _))⟩

theorem FnExactPartWays : laws_FnExactPartWays.Pure := by
  intro l _ _ _
  refine Ev.rounds ?_
  unfold laws_FnExactPartWays.f
  by_cases h : (l.length : Int) > 1048576
  · exact ev_pos h (ev_some _)
  · refine ev_neg h ?_
    have hl : l.length ≤ 1048576 := by omega
    obtain ⟨r, h1, h2⟩ := partWays_ev l hl
    refine Ev.bind (toIntS_ev l hl) (Ev.bind h1 (Ev.bind (toIntS_ev l hl) (Ev.bind h2 ?_)))
    refine ev_pos (by trivial) (ev_step ?_)
    simp only [laws_FnExactPartWays.j0]
    refine ev_neg (by simp) (Ev.bind (toIntS_ev l hl) (Ev.bind (eqIntS_self l hl) ?_))
    exact ev_pos (by trivial) (ev_some _)

end Go.Proofs.Ytnpaaaponjcmkaa.Pure
