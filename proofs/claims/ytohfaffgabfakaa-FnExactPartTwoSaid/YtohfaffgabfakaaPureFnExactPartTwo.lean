/- An exact promise of the given program: the ways to part a bundle in two are as many as the plain law tells, for every slice of numbers. -/
import Derived.Test.YtohfaffgabfakaaPFnExactPartTwox2
import Derived.Test.YtohfaffgabfakaaBase
namespace Go.Proofs.Ytohfaffgabfakaa.Pure
open Go.RowKit Go.Proofs.Ytohfaffgabfakaa.PFnExactPartTwo Go.Proofs.YtohfaffgabfakaaW.PrintWords Go.Proofs.YtohfaffgabfakaaW.PrintLast Go.Proofs.YtohfaffgabfakaaW.PrintMore Go.Proofs.Ytohfaffgabfakaa.Base
set_option linter.unusedVariables false
set_option linter.unusedSimpArgs false
theorem toIntS_ev (l : List Int) (h : l.length ≤ 1048576) : Ev (fun k => laws_toIntS.f k l) l := by
  unfold laws_toIntS.f
  refine ev_pos (by omega) (ev_pos (by omega) ?_)
  have key := ev_count (fun k i => laws_toIntS.l0 k l (l.take i ++ List.replicate (l.length - i) 0) (i : Int)) (fun _ => l) l.length
    (by
      refine ev_step ?_
      simp only [laws_toIntS.l0]
      refine ev_neg (by omega) ?_
      simpa using ev_some l)
    (by
      intro i hi ih
      refine ev_step ?_
      simp only [laws_toIntS.l0]
      refine ev_pos (by omega) (ev_pos (by omega) (ev_pos (by simp; omega) ?_))
      rw [w64_succ (by omega), Int.toNat_natCast, rd_get hi, set_copy hi]
      exact ih)
  have := key 0 (by omega)
  simpa using this

theorem eqIntS_self (l : List Int) (h : l.length ≤ 1048576) : Ev (fun k => laws_eqIntS.f k l l) true := by
  unfold laws_eqIntS.f
  refine ev_pos (by trivial) ?_
  refine ev_count (fun k i => laws_eqIntS.l0 k l l (i : Int)) (fun _ => true) l.length ?_ ?_ 0 (by omega)
  · refine ev_step ?_
    simp only [laws_eqIntS.l0]
    exact ev_neg (by omega) (ev_some _)
  · intro i hi ih
    refine ev_step ?_
    simp only [laws_eqIntS.l0]
    refine ev_pos (by omega) (ev_pos (by omega) (ev_pos (by omega) (ev_pos (by trivial) ?_)))
    rw [w64_succ (by omega)]
    exact ih

def Bun (l : List Int) : Prop := (∀ i (h : i < l.length), 1 ≤ l[i] ∧ l[i] ≤ 60 ∧ (∀ _ : 0 < i, l[i - 1] ≤ l[i])) ∧ 1 ≤ l.length ∧ l.length ≤ 9
theorem i64_and1 (n : Int) : Go.bits .and .i64 n 1 = n % 2 := by
  have h1 : (BitVec.ofInt 64 1).toNat = 2 ^ 1 - 1 := by decide
  have key : (BitVec.ofInt 64 n &&& BitVec.ofInt 64 1).toNat = (n % ((2 ^ 64 : Nat) : Int)).toNat % 2 ^ 1 := by
    rw [BitVec.toNat_and, BitVec.toNat_ofInt, h1, Nat.and_two_pow_sub_one_eq_mod]
  show IntKind.i64.wrap ((BitVec.ofInt 64 n &&& BitVec.ofInt 64 1).toNat : Nat) = n % 2
  rw [key, IntKind.wrap_i64]
  omega
theorem spec_l6In_eqP (a b c : Int) : spec_l6In.f a b c = some (decide (b ≤ a ∧ a ≤ c)) := by
  unfold spec_l6In.f
  by_cases h : a ≥ b
  · rw [if_pos h]; simp; intro _; exact h
  · rw [if_neg h]; simp; omega
theorem spec_Bundle_ev (l : List Int) (h : l.length ≤ 1048576) : ∃ b, Ev (fun k => spec_l1Bundle.f k l) b ∧ (b = true ↔ Bun l) := by
  unfold spec_l1Bundle.f
  have key := down (fun i => (∀ j (hj : j < l.length), j < i → 1 ≤ l[j] ∧ l[j] ≤ 60 ∧ (∀ _ : 0 < j, l[j - 1] ≤ l[j])) → ∃ b, Ev (fun k => spec_l1Bundle.l0 k l (i : Int)) b ∧ (b = true ↔ Bun l)) l.length ?_ ?_ 0 (by omega)
  · exact key (fun j _ hj => by omega)
  · intro ha
    refine ⟨decide ((1 : Int) ≤ (l.length : Int) ∧ (l.length : Int) ≤ 9), ev_step ?_, ?_⟩
    · simp only [spec_l1Bundle.l0]
      refine ev_neg (by omega) ?_
      rw [spec_l6In_eqP]
      exact ev_some _
    · rw [decide_eq_true_eq]
      exact ⟨fun hb => ⟨fun i hi => ha i hi hi, by omega, by omega⟩, fun hb => by have := hb.2; omega⟩
  · intro i hi ih ha
    by_cases c : (1 : Int) ≤ l[i] ∧ l[i] ≤ 60
    · by_cases c0 : 0 < i
      · by_cases d : l[i] < l[i - 1]
        · refine ⟨false, ev_step ?_, ?_⟩
          · simp only [spec_l1Bundle.l0]
            rw [rd_get hi, spec_l6In_eqP, w64 (x := (i : Int) - 1) (by omega), show (i : Int) - 1 = ((i - 1 : Nat) : Int) from by omega, rd_get (show i - 1 < l.length by omega)]
            simp only [Option.bind_some]
            exact ev_pos (by omega) (ev_pos (by omega) (ev_pos (by simpa using c) (ev_pos (by omega) (ev_pos (by omega) (ev_pos (by omega) (ev_pos d (ev_some _)))))))
          · refine ⟨fun h => (by cases h), fun hb => ?_⟩
            have := (hb.1 i hi).2.2 c0
            omega
        · obtain ⟨b, hb, hb2⟩ := ih (by
            intro j hj hji
            rcases Nat.lt_or_ge j i with h1 | h1
            · exact ha j hj h1
            · obtain rfl : j = i := by omega
              exact ⟨c.1, c.2, fun _ => by omega⟩)
          refine ⟨b, ev_step ?_, hb2⟩
          simp only [spec_l1Bundle.l0]
          rw [rd_get hi, spec_l6In_eqP, w64 (x := (i : Int) - 1) (by omega), show (i : Int) - 1 = ((i - 1 : Nat) : Int) from by omega, rd_get (show i - 1 < l.length by omega), w64_succ (by omega)]
          simp only [Option.bind_some]
          exact ev_pos (by omega) (ev_pos (by omega) (ev_pos (by simpa using c) (ev_pos (by omega) (ev_pos (by omega) (ev_pos (by omega) (ev_neg d hb))))))
      · obtain ⟨b, hb, hb2⟩ := ih (by
          intro j hj hji
          obtain rfl : j = i := by omega
          exact ⟨c.1, c.2, fun h0 => by omega⟩)
        refine ⟨b, ev_step ?_, hb2⟩
        simp only [spec_l1Bundle.l0]
        rw [rd_get hi, spec_l6In_eqP, w64_succ (by omega)]
        simp only [Option.bind_some]
        exact ev_pos (by omega) (ev_pos (by omega) (ev_pos (by simpa using c) (ev_neg (by omega) hb)))
    · refine ⟨false, ev_step ?_, ?_⟩
      · simp only [spec_l1Bundle.l0]
        rw [rd_get hi, spec_l6In_eqP]
        simp only [Option.bind_some]
        exact ev_pos (by omega) (ev_pos (by omega) (ev_neg (by simpa using c) (ev_some _)))
      · refine ⟨fun h => (by cases h), fun hb => ?_⟩
        have := hb.1 i hi
        omega
theorem less_eq (a b : Int) : cmp_Less_int.f a b = some (decide (a < b)) := by
  unfold cmp_Less_int.f cmp_isNaN_int.f
  have : ∀ x : Int, (x != x) = false := fun x => by simp
  rw [this]
  rfl
theorem isSorted_ev (l : List Int) (h : l.length ≤ 1048576) : ∃ b, Ev (fun k => slices_IsSorted_int_int.f k l) b ∧ (b = true ↔ ∀ i (h : i < l.length), ∀ _ : 0 < i, l[i - 1] ≤ l[i]) := by
  unfold slices_IsSorted_int_int.f
  have key : ∀ n : Nat, n < l.length ∨ n = 0 → (∀ i (hi : i < l.length), n < i → l[i - 1] ≤ l[i]) → ∃ b, Ev (fun k => slices_IsSorted_int_int.l0 k l (n : Int)) b ∧ (b = true ↔ ∀ i (h : i < l.length), ∀ _ : 0 < i, l[i - 1] ≤ l[i]) := by
    intro n
    induction n with
    | zero =>
      intro _ ha
      refine ⟨true, ev_step ?_, fun _ i hi h0 => ha i hi h0, fun _ => rfl⟩
      simp only [slices_IsSorted_int_int.l0]
      exact ev_neg (by omega) (ev_some _)
    | succ n ih =>
      intro hn ha
      have hn1 : n + 1 < l.length := by omega
      have e1 : wrap64 (((n + 1 : Nat) : Int) - 1) = (n : Int) := by rw [w64 (by omega)]; omega
      by_cases d : l[n + 1] < l[n]
      · refine ⟨false, ev_step ?_, fun h => (by cases h), fun hb => ?_⟩
        · simp only [slices_IsSorted_int_int.l0]
          rw [e1, rd_get hn1, rd_get (show n < l.length by omega), less_eq]
          simp only [Option.bind_some]
          exact ev_pos (by omega) (ev_pos (by omega) (ev_pos (by omega) (ev_pos (by omega) (ev_pos (by omega) (ev_pos (by simpa using d) (ev_some _))))))
        · have := hb (n + 1) hn1 (by omega)
          simp only [Nat.add_sub_cancel] at this
          omega
      · obtain ⟨b, hb, hb2⟩ := ih (by omega) (by
          intro i hi hni
          rcases Nat.lt_or_ge (n + 1) i with h1 | h1
          · exact ha i hi h1
          · obtain rfl : i = n + 1 := by omega
            simp only [Nat.add_sub_cancel]
            omega)
        refine ⟨b, ev_step ?_, hb2⟩
        simp only [slices_IsSorted_int_int.l0]
        rw [e1, rd_get hn1, rd_get (show n < l.length by omega), less_eq]
        simp only [Option.bind_some]
        exact ev_pos (by omega) (ev_pos (by omega) (ev_pos (by omega) (ev_pos (by omega) (ev_pos (by omega) (ev_neg (by simpa using d) hb)))))
  rcases Nat.eq_zero_or_pos l.length with h0 | h0
  · refine ⟨true, ev_step ?_, fun _ i hi => by omega, fun _ => rfl⟩
    simp only [slices_IsSorted_int_int.l0]
    rw [h0]
    exact ev_neg (by decide +kernel) (ev_some _)
  · obtain ⟨b, hb, hb2⟩ := key (l.length - 1) (by omega) (fun i hi h1 => by omega)
    refine ⟨b, ?_, hb2⟩
    rw [w64 (by omega), show (l.length : Int) - 1 = ((l.length - 1 : Nat) : Int) from by omega]
    exact hb
theorem isRuler_ev (l : List Int) (h : l.length ≤ 1048576) : ∃ b, Ev (fun k => impl_isRuler.f k l) b ∧ (b = true ↔ (∀ i (h : i < l.length), 1 ≤ l[i] ∧ l[i] ≤ 60) ∧ 1 ≤ l.length ∧ l.length ≤ 9) := by
  unfold impl_isRuler.f
  have key := down (fun i => (∀ j (hj : j < l.length), j < i → 1 ≤ l[j] ∧ l[j] ≤ 60) → ∃ b, Ev (fun k => impl_isRuler.l0 k l l (l.length : Int) (i : Int)) b ∧ (b = true ↔ (∀ i (h : i < l.length), 1 ≤ l[i] ∧ l[i] ≤ 60) ∧ 1 ≤ l.length ∧ l.length ≤ 9)) l.length ?_ ?_ 0 (by omega)
  · exact key (fun j _ hj => by omega)
  · intro ha
    by_cases c : (l.length : Int) ≥ 1
    · refine ⟨decide ((l.length : Int) ≤ 9), ev_step ?_, ?_⟩
      · simp only [impl_isRuler.l0]
        exact ev_neg (by omega) (ev_pos c (ev_some _))
      · rw [decide_eq_true_eq]
        exact ⟨fun _ => ⟨fun i hi => ha i hi hi, by omega, by omega⟩, fun hb => by have := hb.2; omega⟩
    · refine ⟨false, ev_step ?_, fun h => (by cases h), fun hb => by have := hb.2; omega⟩
      simp only [impl_isRuler.l0]
      exact ev_neg (by omega) (ev_neg c (ev_some _))
  · intro i hi ih ha
    by_cases c1 : l[i] < 1
    · refine ⟨false, ev_step ?_, fun h => (by cases h), fun hb => by have := hb.1 i hi; omega⟩
      simp only [impl_isRuler.l0]
      rw [rd_get hi]
      exact ev_pos (by omega) (ev_pos (by omega) (ev_pos (by omega) (ev_pos c1 (ev_some _))))
    · by_cases c2 : l[i] > 60
      · refine ⟨false, ev_step ?_, fun h => (by cases h), fun hb => by have := hb.1 i hi; omega⟩
        simp only [impl_isRuler.l0]
        rw [rd_get hi]
        exact ev_pos (by omega) (ev_pos (by omega) (ev_pos (by omega) (ev_neg c1 (ev_pos c2 (ev_some _)))))
      · obtain ⟨b, hb, hb2⟩ := ih (by
          intro j hj hji
          rcases Nat.lt_or_ge j i with h1 | h1
          · exact ha j hj h1
          · obtain rfl : j = i := by omega
            exact ⟨by omega, by omega⟩)
        refine ⟨b, ev_step ?_, hb2⟩
        simp only [impl_isRuler.l0]
        rw [rd_get hi, w64_succ (by omega)]
        exact ev_pos (by omega) (ev_pos (by omega) (ev_pos (by omega) (ev_neg c1 (ev_neg c2 hb))))
theorem stickIn_ev (l : List Int) (h : l.length ≤ 1048576) : ∃ b, Ev (fun k => impl_StickIn.f k l) b ∧ (b = true ↔ Bun l) := by
  unfold impl_StickIn.f
  obtain ⟨b, hb, hb2⟩ := isRuler_ev l h
  obtain ⟨c, hc, hc2⟩ := isSorted_ev l h
  by_cases d : b = true
  · refine ⟨c, Ev.bind hb (ev_pos d (Ev.bind hc (ev_some _))), ?_⟩
    have h1 := hb2.1 d
    rw [hc2]
    exact ⟨fun hs => ⟨fun i hi => ⟨(h1.1 i hi).1, (h1.1 i hi).2, hs i hi⟩, h1.2⟩, fun hs i hi => (hs.1 i hi).2.2⟩
  · refine ⟨false, Ev.bind hb (ev_neg d (ev_some _)), fun h => (by cases h), fun hs => ?_⟩
    exact absurd (hb2.2 ⟨fun i hi => ⟨(hs.1 i hi).1, (hs.1 i hi).2.1⟩, hs.2⟩) d
/-! ### the sums -/
theorem bun_rd {l : List Int} (h : Bun l) {i : Nat} (hi : i < l.length) : 1 ≤ l[i] ∧ l[i] ≤ 60 := ⟨(h.1 i hi).1, (h.1 i hi).2.1⟩
def tot (l : List Int) : Nat → Int
  | 0 => 0
  | i + 1 => tot l i + l.getD i 0
def sel (l : List Int) (m : Int) : Nat → Int
  | 0 => 0
  | i + 1 => sel l m i + l.getD i 0 * (Go.bits .and .i64 (shr .i64 m (i : Int)) 1)
theorem getD_get {l : List Int} {i : Nat} (h : i < l.length) : l.getD i 0 = l[i] := by simp [h]
theorem tot_b {l : List Int} (h : Bun l) (i : Nat) (hi : i ≤ l.length) : 0 ≤ tot l i ∧ tot l i ≤ 60 * i := by
  induction i with
  | zero => simp [tot]
  | succ i ih =>
    have := ih (by omega)
    have h1 := bun_rd h (show i < l.length by omega)
    simp only [tot]; rw [getD_get (by omega)]; omega
theorem bit01 (x : Int) : Go.bits .and .i64 x 1 = 0 ∨ Go.bits .and .i64 x 1 = 1 := by rw [i64_and1]; omega
theorem sel_b {l : List Int} (h : Bun l) (m : Int) (i : Nat) (hi : i ≤ l.length) : 0 ≤ sel l m i ∧ sel l m i ≤ 60 * i := by
  induction i with
  | zero => simp [sel]
  | succ i ih =>
    have := ih (by omega)
    have h1 := bun_rd h (show i < l.length by omega)
    simp only [sel]; rw [getD_get (by omega)]
    rcases bit01 (shr .i64 m (i : Int)) with e | e <;> rw [e] <;> omega
theorem spec_sum_ev {l : List Int} (h : Bun l) : Ev (fun k => spec_l1Sum.f k l) (tot l l.length) := by
  have h9 := h.2.2
  unfold spec_l1Sum.f
  have key := ev_count (fun k i => spec_l1Sum.l0 k l (tot l i) (i : Int)) (fun _ => tot l l.length) l.length ?_ ?_ 0 (by omega)
  · exact key
  · refine ev_step ?_
    simp only [spec_l1Sum.l0]
    exact ev_neg (by omega) (ev_some _)
  · intro i hi ih
    have hb := tot_b h i (by omega)
    have h1 := bun_rd h hi
    simp only [tot] at ih
    rw [getD_get hi] at ih
    refine ev_step ?_
    simp only [spec_l1Sum.l0]
    rw [rd_get hi, w64_succ (by omega), w64 (by omega)]
    exact ev_pos (by omega) (ev_pos (by omega) ih)
theorem impl_sum_ev {l : List Int} (h : Bun l) : Ev (fun k => impl_sum.f k l) (tot l l.length) := by
  have h9 := h.2.2
  unfold impl_sum.f
  have key := ev_count (fun k i => impl_sum.l0 k (tot l i) l (l.length : Int) (i : Int)) (fun _ => tot l l.length) l.length ?_ ?_ 0 (by omega)
  · exact key
  · refine ev_step ?_
    simp only [impl_sum.l0]
    exact ev_neg (by omega) (ev_some _)
  · intro i hi ih
    have hb := tot_b h i (by omega)
    have h1 := bun_rd h hi
    simp only [tot] at ih
    rw [getD_get hi] at ih
    refine ev_step ?_
    simp only [impl_sum.l0]
    rw [rd_get hi, w64_succ (by omega), w64 (by omega)]
    exact ev_pos (by omega) (ev_pos (by omega) (ev_pos (by omega) ih))
theorem shl_bound {n : Nat} (h : n ≤ 9) : shl .i64 1 (n : Int) ≤ 512 := by
  have : n = 0 ∨ n = 1 ∨ n = 2 ∨ n = 3 ∨ n = 4 ∨ n = 5 ∨ n = 6 ∨ n = 7 ∨ n = 8 ∨ n = 9 := by omega
  rcases this with rfl | rfl | rfl | rfl | rfl | rfl | rfl | rfl | rfl | rfl <;> decide +kernel
theorem both_ev {l : List Int} (h : Bun l) : ∃ r : Int, Ev (fun k => spec_PartTwo.l0 k l 0 1) (r, true) ∧ Ev (fun k => impl_PartTwo.l0 k l 0 1) (r, true) := by
  have h9 := h.2.2
  have hsh := shl_bound h9
  have key := down (fun i => ∀ c : Int, 0 ≤ c → c ≤ i → ∃ r : Int, Ev (fun k => spec_PartTwo.l0 k l c (2 * (i : Int) + 1)) (r, true) ∧ Ev (fun k => impl_PartTwo.l0 k l c (2 * (i : Int) + 1)) (r, true)) 256 ?_ ?_ 0 (by omega)
  · exact key 0 (by omega) (by omega)
  · intro c c0 c1
    refine ⟨c, ev_step ?_, ev_step ?_⟩
    · simp only [spec_PartTwo.l0]
      exact ev_neg (by omega) (ev_some _)
    · simp only [impl_PartTwo.l0]
      exact ev_neg (by omega) (ev_some _)
  · intro i hi ih c c0 c1
    by_cases d : (2 * (i : Int) + 1) < shl .i64 1 (l.length : Int)
    · have e3 : wrap64 (2 * (i : Int) + 1 + 2) = 2 * ((i + 1 : Nat) : Int) + 1 := by rw [w64 (by omega)]; omega
      obtain ⟨c', hc', r, hr1, hr2⟩ : ∃ c' : Int, (c' = if 2 * sel l (2 * (i : Int) + 1) l.length = tot l l.length then c + 1 else c) ∧ ∃ r : Int, Ev (fun k => spec_PartTwo.l0 k l c' (2 * ((i + 1 : Nat) : Int) + 1)) (r, true) ∧ Ev (fun k => impl_PartTwo.l0 k l c' (2 * ((i + 1 : Nat) : Int) + 1)) (r, true) := by
        refine ⟨_, rfl, ih _ ?_ ?_⟩ <;> split <;> omega
      have hsb := sel_b h (2 * (i : Int) + 1) l.length (by omega)
      refine ⟨r, ev_step ?_, ev_step ?_⟩
      · simp only [spec_PartTwo.l0]
        refine ev_pos d ?_
        have key2 := ev_count (fun k j => spec_PartTwo.l1 k l c (2 * (i : Int) + 1) (sel l (2 * (i : Int) + 1) j) (j : Int)) (fun _ => (r, true)) l.length ?_ ?_ 0 (by omega)
        · exact key2
        · refine ev_step ?_
          simp only [spec_PartTwo.l1]
          refine ev_neg (by omega) (Ev.bind (spec_sum_ev h) ?_)
          rw [w64 (x := 2 * sel l (2 * (i : Int) + 1) l.length) (by omega), e3]
          by_cases z : 2 * sel l (2 * (i : Int) + 1) l.length = tot l l.length
          · refine ev_pos z ?_
            rw [if_pos z] at hc'
            rw [w64 (by omega), ← hc']
            exact hr1
          · refine ev_neg z ?_
            rw [if_neg z] at hc'
            rw [← hc']
            exact hr1
        · intro j hj ih2
          have hb := sel_b h (2 * (i : Int) + 1) j (by omega)
          have h1 := bun_rd h hj
          simp only [sel] at ih2
          rw [getD_get hj] at ih2
          refine ev_step ?_
          simp only [spec_PartTwo.l1]
          rw [rd_get hj, w64_succ (by omega)]
          refine ev_pos (by omega) (ev_pos (by omega) ?_)
          rcases bit01 (shr .i64 (2 * (i : Int) + 1) (j : Int)) with e | e
          · rw [e, Int.mul_zero, Int.add_zero] at ih2
            exact ev_neg (by rw [e]; decide) ih2
          · rw [e, Int.mul_one] at ih2
            refine ev_pos e ?_
            rw [w64 (by omega)]
            exact ih2
      · simp only [impl_PartTwo.l0]
        refine ev_pos d ?_
        have key2 := ev_count (fun k j => impl_PartTwo.l1 k l c (2 * (i : Int) + 1) (sel l (2 * (i : Int) + 1) j) l (l.length : Int) (j : Int)) (fun _ => (r, true)) l.length ?_ ?_ 0 (by omega)
        · exact key2
        · refine ev_step ?_
          simp only [impl_PartTwo.l1]
          refine ev_neg (by omega) (Ev.bind (impl_sum_ev h) ?_)
          rw [w64 (x := 2 * sel l (2 * (i : Int) + 1) l.length) (by omega), e3]
          by_cases z : 2 * sel l (2 * (i : Int) + 1) l.length = tot l l.length
          · refine ev_pos z ?_
            rw [if_pos z] at hc'
            rw [w64 (by omega), ← hc']
            exact hr2
          · refine ev_neg z ?_
            rw [if_neg z] at hc'
            rw [← hc']
            exact hr2
        · intro j hj ih2
          have hb := sel_b h (2 * (i : Int) + 1) j (by omega)
          have h1 := bun_rd h hj
          simp only [sel] at ih2
          rw [getD_get hj] at ih2
          refine ev_step ?_
          simp only [impl_PartTwo.l1]
          rw [rd_get hj, w64_succ (by omega)]
          refine ev_pos (by omega) (ev_pos (by omega) (ev_pos (by omega) ?_))
          rcases bit01 (shr .i64 (2 * (i : Int) + 1) (j : Int)) with e | e
          · rw [e, Int.mul_zero, Int.add_zero] at ih2
            rw [e, Int.mul_zero, w64 (x := (0 : Int)) (by decide), Int.add_zero, w64 (by omega)]
            exact ih2
          · rw [e, Int.mul_one] at ih2
            rw [e, Int.mul_one, w64 (x := l[j]) (by omega), w64 (by omega)]
            exact ih2
    · refine ⟨c, ev_step ?_, ev_step ?_⟩
      · simp only [spec_PartTwo.l0]
        exact ev_neg d (ev_some _)
      · simp only [impl_PartTwo.l0]
        exact ev_neg d (ev_some _)
theorem partTwo_ev (l : List Int) (h : l.length ≤ 1048576) : ∃ r : Int × Bool, Ev (fun k => spec_PartTwo.f k l) r ∧ Ev (fun k => impl_PartTwo.f k l) r := by
  obtain ⟨b, hb, hb2⟩ := spec_Bundle_ev l h
  obtain ⟨c, hc, hc2⟩ := stickIn_ev l h
  unfold spec_PartTwo.f impl_PartTwo.f
  by_cases d : b = true
  · have hB := hb2.1 d
    obtain ⟨r, h1, h2⟩ := both_ev hB
    exact ⟨(r, true), Ev.bind hb (ev_pos d h1), Ev.bind hc (ev_pos (hc2.2 hB) h2)⟩
  · exact ⟨(0, false), Ev.bind hb (ev_neg d (ev_some _)), Ev.bind hc (ev_neg (fun hh => d (hb2.2 (hc2.1 hh))) (ev_some _))⟩

theorem FnExactPartTwo : laws_FnExactPartTwo.Pure := by
  intro l _ _ _
  refine Ev.rounds ?_
  unfold laws_FnExactPartTwo.f
  by_cases h : (l.length : Int) > 1048576
  · exact ev_pos h (ev_some _)
  · refine ev_neg h ?_
    have hl : l.length ≤ 1048576 := by omega
    obtain ⟨r, h1, h2⟩ := partTwo_ev l hl
    refine Ev.bind (toIntS_ev l hl) (Ev.bind h1 (Ev.bind (toIntS_ev l hl) (Ev.bind h2 ?_)))
    refine ev_pos (by trivial) (ev_step ?_)
    simp only [laws_FnExactPartTwo.j0]
    refine ev_neg (by simp) (Ev.bind (toIntS_ev l hl) (Ev.bind (eqIntS_self l hl) ?_))
    exact ev_pos (by trivial) (ev_some _)

end Go.Proofs.Ytohfaffgabfakaa.Pure
