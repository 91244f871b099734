/- The given program's SolidNumber answers as the reference's does, for every list (no condition beyond the row's own). -/
import Derived.Test.YtbjmgcdhfoelkaaPFnExactSolidNumberx2
import Derived.Test.YtbjmgcdhfoelkaaBase
import Derived.Test.YtbjmgcdhfoelkaaSol
namespace Go.Proofs.Ytbjmgcdhfoelkaa.Pure
open Go.RowKit Go.Proofs.Ytbjmgcdhfoelkaa.PFnExactSolidNumber Go.Proofs.YtbjmgcdhfoelkaaW.PrintWords Go.Proofs.YtbjmgcdhfoelkaaW.PrintLast Go.Proofs.YtbjmgcdhfoelkaaW.PrintMore Go.Proofs.Ytbjmgcdhfoelkaa.Base Go.Proofs.Ytbjmgcdhfoelkaa.Sol
theorem toIntS_ev (l : List Int) (h : l.length ≤ 1048576) : Ev (fun k => laws_toIntS.f k l) l := by
  unfold laws_toIntS.f
  refine ev_pos (by omega) (ev_pos (by omega) ?_)
  have key := ev_count (fun k i => laws_toIntS.l0 k l (l.take i ++ List.replicate (l.length - i) 0) (i : Int)) (fun _ => l) l.length
    (by
      refine ev_step ?_
      simp only [laws_toIntS.l0]
      refine ev_neg (by omega) ?_
      simpa using ev_some l)
    (by
      intro i hi ih
      refine ev_step ?_
      simp only [laws_toIntS.l0]
      refine ev_pos (by omega) (ev_pos (by omega) (ev_pos (by simp; omega) ?_))
      rw [w64_succ (by omega), Int.toNat_natCast, rd_get hi, set_copy hi]
      exact ih)
  have := key 0 (by omega)
  simpa using this

theorem eqIntS_self (l : List Int) (h : l.length ≤ 1048576) : Ev (fun k => laws_eqIntS.f k l l) true := by
  unfold laws_eqIntS.f
  refine ev_pos rfl ?_
  refine ev_count (fun k i => laws_eqIntS.l0 k l l (i : Int)) (fun _ => true) l.length ?_ ?_ 0 (by omega)
  · refine ev_step ?_
    simp only [laws_eqIntS.l0]
    exact ev_neg (by omega) (ev_some _)
  · intro i hi ih
    refine ev_step ?_
    simp only [laws_eqIntS.l0]
    refine ev_pos (by omega) (ev_pos (by omega) (ev_pos (by omega) (ev_pos (by trivial) ?_)))
    rw [w64_succ (by omega)]
    exact ih

theorem impl_SolidIn_ev (l : List Int) (h : l.length ≤ 1048576) : Ev (fun k => impl_SolidIn.f k l) (solB l) := by
  unfold impl_SolidIn.f
  have := ev_count (fun k i => impl_SolidIn.l0 k l l (l.length : Int) (i : Int)) (fun i => (l.drop i).all inB && l.length == 6) l.length ?_ ?_ 0 (by omega)
  · simpa [solB] using this
  · refine ev_step ?_
    simp only [impl_SolidIn.l0]
    refine ev_neg (by omega) ?_
    have e : ((l.length : Int) == 6) = (l.length == 6) := by rw [Bool.eq_iff_iff]; simp; omega
    simpa [e] using ev_some _
  · intro i hi ih
    refine ev_step ?_
    simp only [impl_SolidIn.l0]
    refine ev_pos (by omega) (ev_pos (by omega) (ev_pos (by omega) ?_))
    rw [rd_get hi, drop_cons hi, List.all_cons]
    by_cases h1 : l[i] < 1
    · refine ev_pos h1 ?_
      have : inB l[i] = false := by unfold inB; simp; omega
      rw [this]; exact ev_some _
    · refine ev_neg h1 ?_
      by_cases h2 : l[i] > 12
      · refine ev_pos h2 ?_
        have : inB l[i] = false := by unfold inB; simp; omega
        rw [this]; exact ev_some _
      · refine ev_neg h2 ?_
        have : inB l[i] = true := by unfold inB; simp; omega
        rw [this, Bool.true_and, w64_succ (by omega)]
        exact ih

theorem spec_l6In_eq (a b c : Int) : spec_l6In.f a b c = some (decide (b ≤ a ∧ a ≤ c)) := by
  unfold spec_l6In.f
  by_cases h : a ≥ b
  · rw [if_pos h]; simp; intro _; exact h
  · rw [if_neg h]; simp; omega
theorem spec_l8Solid_ev (l : List Int) (h : l.length ≤ 1048576) : Ev (fun k => spec_l8Solid.f k l) (solB l) := by
  unfold spec_l8Solid.f
  have := ev_count (fun k i => spec_l8Solid.l0 k l (i : Int)) (fun i => (l.drop i).all inB && l.length == 6) l.length ?_ ?_ 0 (by omega)
  · simpa [solB] using this
  · refine ev_step ?_
    simp only [spec_l8Solid.l0]
    refine ev_neg (by omega) ?_
    have e : ((l.length : Int) == 6) = (l.length == 6) := by rw [Bool.eq_iff_iff]; simp; omega
    simpa [e] using ev_some _
  · intro i hi ih
    refine ev_step ?_
    simp only [spec_l8Solid.l0]
    refine ev_pos (by omega) (ev_pos (by omega) ?_)
    rw [rd_get hi, drop_cons hi, List.all_cons, spec_l6In_eq]
    simp only [Option.bind_some]
    by_cases h1 : 1 ≤ l[i] ∧ l[i] ≤ 12
    · refine ev_pos (by simpa using h1) ?_
      have : inB l[i] = true := by unfold inB; simp; omega
      rw [this, Bool.true_and, w64_succ (by omega)]
      exact ih
    · refine ev_neg (by simpa using h1) ?_
      have : inB l[i] = false := by unfold inB; simp; omega
      rw [this]; exact ev_some _

theorem spec_number_eq (a b c d e f : Int) : spec_l8Number.f [a, b, c, d, e, f] = some (wrap64 (number a b c d e f)) := by
  unfold spec_l8Number.f number
  have r0 : rd [a, b, c, d, e, f] 0 = a := rfl
  have r1 : rd [a, b, c, d, e, f] 1 = b := rfl
  have r2 : rd [a, b, c, d, e, f] 2 = c := rfl
  have r3 : rd [a, b, c, d, e, f] 3 = d := rfl
  have r4 : rd [a, b, c, d, e, f] 4 = e := rfl
  have r5 : rd [a, b, c, d, e, f] 5 = f := rfl
  have hl : ([a, b, c, d, e, f].length : Int) = 6 := rfl
  rw [r0, r1, r2, r3, r4, r5, hl, if_pos (by decide), if_pos (by decide), if_pos (by decide), if_pos (by decide), if_pos (by decide), if_pos (by decide)]
  simp only [w_add_l, w_add_r, w_sub_l, w_sub_r, w_mul_l, w_mul_r]
theorem impl_number_eq (a b c d e f : Int) : impl_numberOf.f [a, b, c, d, e, f] = some (wrap64 (number a b c d e f)) := by
  unfold impl_numberOf.f number
  have r0 : rd [a, b, c, d, e, f] 0 = a := rfl
  have r1 : rd [a, b, c, d, e, f] 1 = b := rfl
  have r2 : rd [a, b, c, d, e, f] 2 = c := rfl
  have r3 : rd [a, b, c, d, e, f] 3 = d := rfl
  have r4 : rd [a, b, c, d, e, f] 4 = e := rfl
  have r5 : rd [a, b, c, d, e, f] 5 = f := rfl
  have hl : ([a, b, c, d, e, f].length : Int) = 6 := rfl
  rw [r0, r1, r2, r3, r4, r5, hl, if_pos (by decide), if_pos (by decide), if_pos (by decide), if_pos (by decide), if_pos (by decide), if_pos (by decide)]
  simp only [w_add_l, w_add_r, w_sub_l, w_sub_r, w_mul_l, w_mul_r]
/-- The number as both texts answer it. -/
def numA (l : List Int) : Int × Bool := if solB l then (wrap64 (num l), true) else (0, false)
theorem numA_six {a b c d e f : Int} (h : solB [a, b, c, d, e, f] = true) : numA [a, b, c, d, e, f] = (wrap64 (number a b c d e f), true) := by
  unfold numA; rw [if_pos h]; rfl

theorem spec_SolidNumber_ev (l : List Int) (h : l.length ≤ 1048576) : Ev (fun k => spec_SolidNumber.f k l) (numA l) := by
  unfold spec_SolidNumber.f numA
  refine Ev.bind (spec_l8Solid_ev l h) ?_
  by_cases c : solB l = true
  · refine ev_pos c ?_
    rw [if_pos c]
    obtain ⟨a, b, c, d, e, f, rfl, _⟩ := sol_six c
    rw [spec_number_eq]
    exact ev_some _
  · refine ev_neg c ?_
    rw [if_neg c]; exact ev_some _
theorem impl_SolidNumber_ev (l : List Int) (h : l.length ≤ 1048576) : Ev (fun k => impl_SolidNumber.f k l) (numA l) := by
  unfold impl_SolidNumber.f numA
  refine Ev.bind (impl_SolidIn_ev l h) ?_
  by_cases c : solB l = true
  · refine ev_pos c ?_
    rw [if_pos c]
    obtain ⟨a, b, c, d, e, f, rfl, _⟩ := sol_six c
    rw [impl_number_eq]
    exact ev_some _
  · refine ev_neg c ?_
    rw [if_neg c]; exact ev_some _

theorem FnExactSolidNumber : laws_FnExactSolidNumber.Pure := by
  intro l _ _ _
  refine Ev.rounds ?_
  unfold laws_FnExactSolidNumber.f
  by_cases h : (l.length : Int) > 1048576
  · exact ev_pos h (ev_some _)
  · refine ev_neg h ?_
    have hl : l.length ≤ 1048576 := by omega
    refine Ev.bind (toIntS_ev l hl) (Ev.bind (spec_SolidNumber_ev l hl) (Ev.bind (toIntS_ev l hl) (Ev.bind (impl_SolidNumber_ev l hl) ?_)))
    refine ev_pos rfl (ev_step ?_)
    simp only [laws_FnExactSolidNumber.j0]
    refine ev_neg (by simp) (Ev.bind (toIntS_ev l hl) (Ev.bind (eqIntS_self l hl) ?_))
    exact ev_pos rfl (ev_some _)

end Go.Proofs.Ytbjmgcdhfoelkaa.Pure
