/- The given program's SolidSame answers as the reference's does, for all lists (no condition beyond the row's own). -/
import Derived.Test.YtbjmgcdhfoelkaaPFnExactSolidSamex4
import Derived.Test.YtbjmgcdhfoelkaaBase
import Derived.Test.YtbjmgcdhfoelkaaSol
import Derived.Test.YtbjmgcdhfoelkaaFirst
namespace Go.Proofs.Ytbjmgcdhfoelkaa.Pure
open Go.RowKit Go.Proofs.Ytbjmgcdhfoelkaa.PFnExactSolidSame Go.Proofs.YtbjmgcdhfoelkaaW.PrintWords Go.Proofs.YtbjmgcdhfoelkaaW.PrintLast Go.Proofs.YtbjmgcdhfoelkaaW.PrintMore Go.Proofs.Ytbjmgcdhfoelkaa.Base Go.Proofs.Ytbjmgcdhfoelkaa.Sol Go.Proofs.Ytbjmgcdhfoelkaa.First
set_option linter.unusedVariables false
set_option linter.unusedSimpArgs false
theorem toIntS_ev (l : List Int) (h : l.length ≤ 1048576) : Ev (fun k => laws_toIntS.f k l) l := by
  unfold laws_toIntS.f
  refine ev_pos (by omega) (ev_pos (by omega) ?_)
  have key := ev_count (fun k i => laws_toIntS.l0 k l (l.take i ++ List.replicate (l.length - i) 0) (i : Int)) (fun _ => l) l.length
    (by
      refine ev_step ?_
      simp only [laws_toIntS.l0]
      refine ev_neg (by omega) ?_
      simpa using ev_some l)
    (by
      intro i hi ih
      refine ev_step ?_
      simp only [laws_toIntS.l0]
      refine ev_pos (by omega) (ev_pos (by omega) (ev_pos (by simp; omega) ?_))
      rw [w64_succ (by omega), Int.toNat_natCast, rd_get hi, set_copy hi]
      exact ih)
  have := key 0 (by omega)
  simpa using this

theorem eqIntS_self (l : List Int) (h : l.length ≤ 1048576) : Ev (fun k => laws_eqIntS.f k l l) true := by
  unfold laws_eqIntS.f
  refine ev_pos (by trivial) ?_
  refine ev_count (fun k i => laws_eqIntS.l0 k l l (i : Int)) (fun _ => true) l.length ?_ ?_ 0 (by omega)
  · refine ev_step ?_
    simp only [laws_eqIntS.l0]
    exact ev_neg (by omega) (ev_some _)
  · intro i hi ih
    refine ev_step ?_
    simp only [laws_eqIntS.l0]
    refine ev_pos (by omega) (ev_pos (by omega) (ev_pos (by omega) (ev_pos (by trivial) ?_)))
    rw [w64_succ (by omega)]
    exact ih

theorem impl_SolidIn_ev (l : List Int) (h : l.length ≤ 1048576) : Ev (fun k => impl_SolidIn.f k l) (solB l) := by
  unfold impl_SolidIn.f
  have := ev_count (fun k i => impl_SolidIn.l0 k l l (l.length : Int) (i : Int)) (fun i => (l.drop i).all inB && l.length == 6) l.length ?_ ?_ 0 (by omega)
  · simpa [solB] using this
  · refine ev_step ?_
    simp only [impl_SolidIn.l0]
    refine ev_neg (by omega) ?_
    have e : ((l.length : Int) == 6) = (l.length == 6) := by rw [Bool.eq_iff_iff]; simp; omega
    simpa [e] using ev_some _
  · intro i hi ih
    refine ev_step ?_
    simp only [impl_SolidIn.l0]
    refine ev_pos (by omega) (ev_pos (by omega) (ev_pos (by omega) ?_))
    rw [rd_get hi, drop_cons hi, List.all_cons]
    by_cases h1 : l[i] < 1
    · refine ev_pos h1 ?_
      have : inB l[i] = false := by unfold inB; simp; omega
      rw [this]; exact ev_some _
    · refine ev_neg h1 ?_
      by_cases h2 : l[i] > 12
      · refine ev_pos h2 ?_
        have : inB l[i] = false := by unfold inB; simp; omega
        rw [this]; exact ev_some _
      · refine ev_neg h2 ?_
        have : inB l[i] = true := by unfold inB; simp; omega
        rw [this, Bool.true_and, w64_succ (by omega)]
        exact ih

/-- Which lists have each corner once: those of 'perms'. -/
theorem index_ev (l : List Int) (x : Int) (h : l.length ≤ 1048576) : ∃ r, Ev (fun k => slices_Index_int_int.f k l x) r ∧ (decide (r ≥ 0) = l.contains x) := by
  unfold slices_Index_int_int.f
  have := ev_count (fun k i => slices_Index_int_int.l0 k l x (l.length : Int) (i : Int)) (fun i => if (l.drop i).contains x then ((i + (l.drop i).idxOf x : Nat) : Int) else -1) l.length ?_ ?_ 0 (by omega)
  · refine ⟨_, this, ?_⟩
    simp only [List.drop_zero]
    by_cases c : l.contains x
    · rw [if_pos c, c]; simp
    · rw [if_neg c]; simp at c; simp [c]
  · refine ev_step ?_
    simp only [slices_Index_int_int.l0]
    refine ev_neg (by omega) ?_
    simpa using ev_some _
  · intro i hi ih
    refine ev_step ?_
    simp only [slices_Index_int_int.l0]
    refine ev_pos (by omega) (ev_pos (by omega) (ev_pos (by omega) ?_))
    rw [rd_get hi, drop_cons hi]
    by_cases c : x = l[i]
    · refine ev_pos c ?_
      have e1 : ∀ t : List Int, (l[i] :: t).contains x = true := fun t => by simp [c]
      have e2 : ∀ t : List Int, (l[i] :: t).idxOf x = 0 := fun t => by rw [List.idxOf_cons]; simp [c]
      rw [if_pos (e1 _), e2]
      exact ev_some _
    · refine ev_neg c ?_
      rw [w64_succ (by omega)]
      have e : ∀ t : List Int, (l[i] :: t).contains x = t.contains x := fun t => by simp [c]
      rw [e]
      by_cases c2 : (l.drop (i + 1)).contains x
      · rw [if_pos c2] at ih ⊢
        have e2 : ∀ t : List Int, (l[i] :: t).idxOf x = t.idxOf x + 1 := fun t => by
          rw [List.idxOf_cons, show (l[i] == x) = false from by simp; exact fun h => c h.symm]; rfl
        rw [e2, show i + ((l.drop (i + 1)).idxOf x + 1) = i + 1 + (l.drop (i + 1)).idxOf x from by omega]
        exact ih
      · rw [if_neg c2] at ih ⊢
        exact ih
theorem contains_ev (l : List Int) (x : Int) (h : l.length ≤ 1048576) : Ev (fun k => slices_Contains_int_int.f k l x) (l.contains x) := by
  obtain ⟨r, hr, hd⟩ := index_ev l x h
  unfold slices_Contains_int_int.f
  refine Ev.bind hr ?_
  rw [hd]
  exact ev_some _
theorem impl_isOrder_ev (l : List Int) (h : l.length ≤ 1048576) : Ev (fun k => impl_isOrder.f k l) (ordB l 0) := by
  unfold impl_isOrder.f
  refine ev_count (fun k i => impl_isOrder.l0 k l l (l.length : Int) (i : Int)) (fun i => ordB l i) l.length ?_ ?_ 0 (by omega)
  · refine ev_step ?_
    simp only [impl_isOrder.l0]
    refine ev_neg (by omega) ?_
    have e : ((l.length : Int) == 4) = (l.length == 4) := by rw [Bool.eq_iff_iff]; simp; omega
    rw [ordB_end, e]; exact ev_some _
  · intro i hi ih
    refine ev_step ?_
    simp only [impl_isOrder.l0]
    refine ev_pos (by omega) (ev_pos (by omega) (ev_pos (by omega) ?_))
    rw [rd_get hi, ordB_step hi, Int.toNat_natCast]
    by_cases h1 : l[i] < 0
    · refine ev_pos h1 ?_
      rw [if_pos (by omega)]; exact ev_some _
    · refine ev_neg h1 ?_
      by_cases h2 : l[i] > 3
      · refine ev_pos h2 ?_
        rw [if_pos (by omega)]; exact ev_some _
      · refine ev_neg h2 (ev_pos (by omega) (Ev.bind (contains_ev _ _ (by simp; omega)) ?_))
        by_cases h3 : (l.take i).contains l[i]
        · refine ev_pos h3 ?_
          rw [if_pos (Or.inr (Or.inr h3))]; exact ev_some _
        · refine ev_neg h3 ?_
          rw [if_neg (by simp only [not_or]; exact ⟨by omega, by omega, h3⟩), w64_succ (by omega)]
          exact ih

/-- Corners called otherwise, by each of the 24 orders: what both texts answer. -/
theorem impl_named_ev (a b c d e f : Int) (x : List Int) (hx : x ∈ perms) : Ev (fun k => impl_named.f k [a, b, c, d, e, f] x) (named [a, b, c, d, e, f] x) := by
  refine Ev.of (impl_named.mono _ _) (k := 30) ?_
  simp only [perms, List.mem_cons, List.not_mem_nil, or_false] at hx
  rcases hx with rfl | rfl | rfl | rfl | rfl | rfl | rfl | rfl | rfl | rfl | rfl | rfl | rfl | rfl | rfl | rfl | rfl | rfl | rfl | rfl | rfl | rfl | rfl | rfl <;> kernel_rfl

theorem compare_int_eq (a b : Int) : cmp_Compare_int.f a b = some (if a < b then -1 else if a > b then 1 else 0) := by
  unfold cmp_Compare_int.f cmp_isNaN_int.f
  have : ∀ x : Int, (x != x) = false := fun x => by simp
  simp only [this, Option.bind_some]
  rw [if_neg (by decide), if_neg (by decide)]
  split
  · rfl
  · split <;> rfl
theorem compare_ev (s t : List Int) (hl : s.length = t.length) (h : s.length ≤ 1048576) : ∃ n : Int, Ev (fun k => slices_Compare_int_int.f k s t) n ∧ (decide (n < 0) = lx s t) := by
  unfold slices_Compare_int_int.f
  have key := down (fun i => ∃ n : Int, Ev (fun k => slices_Compare_int_int.l0 k s t s (s.length : Int) (i : Int)) n ∧ (decide (n < 0) = lx (s.drop i) (t.drop i))) s.length ?_ ?_ 0 (by omega)
  · exact key
  · refine ⟨0, ev_step ?_, ?_⟩
    · simp only [slices_Compare_int_int.l0]
      exact ev_neg (by omega) (ev_neg (by omega) (ev_some _))
    · rw [List.drop_length]; rfl
  · intro i hi ⟨n, hn, hd⟩
    have hit : i < t.length := by omega
    rw [drop_cons hi, drop_cons hit]
    simp only [lx]
    by_cases c : s[i] = t[i]
    · refine ⟨n, ev_step ?_, by rw [if_pos c]; exact hd⟩
      simp only [slices_Compare_int_int.l0]
      rw [rd_get hi, rd_get hit, compare_int_eq, w64_succ (by omega)]
      simp only [Option.bind_some]
      exact ev_pos (by omega) (ev_pos (by omega) (ev_pos (by omega) (ev_neg (by omega) (ev_pos (by omega) (ev_pos (by rw [if_neg (by omega), if_neg (by omega)]) hn)))))
    · rcases Int.lt_or_gt_of_ne c with d | d
      · refine ⟨-1, ev_step ?_, by rw [if_neg c, decide_eq_true d]; rfl⟩
        simp only [slices_Compare_int_int.l0]
        rw [rd_get hi, rd_get hit, compare_int_eq, if_pos d]
        simp only [Option.bind_some]
        exact ev_pos (by omega) (ev_pos (by omega) (ev_pos (by omega) (ev_neg (by omega) (ev_pos (by omega) (ev_neg (by decide) (ev_some _))))))
      · refine ⟨1, ev_step ?_, by rw [if_neg c, decide_eq_false (p := s[i] < t[i]) (by omega)]; rfl⟩
        simp only [slices_Compare_int_int.l0]
        rw [rd_get hi, rd_get hit, compare_int_eq, if_neg (by omega), if_pos d]
        simp only [Option.bind_some]
        exact ev_pos (by omega) (ev_pos (by omega) (ev_pos (by omega) (ev_neg (by omega) (ev_pos (by omega) (ev_neg (by decide) (ev_some _))))))
theorem quad_eq {i : Nat} (h : i < 256) : [wrap64 (Int.tdiv (i : Int) 64), Int.tmod (wrap64 (Int.tdiv (i : Int) 16)) 4, Int.tmod (wrap64 (Int.tdiv (i : Int) 4)) 4, Int.tmod (i : Int) 4] = quad i := by
  have e1 : Int.tdiv (i : Int) 64 = ((i / 64 : Nat) : Int) := (Int.ofNat_tdiv i 64).symm
  have e2 : Int.tdiv (i : Int) 16 = ((i / 16 : Nat) : Int) := (Int.ofNat_tdiv i 16).symm
  have e3 : Int.tdiv (i : Int) 4 = ((i / 4 : Nat) : Int) := (Int.ofNat_tdiv i 4).symm
  have m : ∀ x : Nat, Int.tmod (x : Int) 4 = ((x % 4 : Nat) : Int) := fun x => (Int.ofNat_tmod x 4).symm
  rw [e1, e2, e3, w64 (x := ((i / 64 : Nat) : Int)) (by omega), w64 (x := ((i / 16 : Nat) : Int)) (by omega), w64 (x := ((i / 4 : Nat) : Int)) (by omega), m, m, m]
  rfl
theorem six_of {l : List Int} (h : l.length = 6) : ∃ a b c d e f, l = [a, b, c, d, e, f] := by
  match l, h with
  | [a, b, c, d, e, f], _ => exact ⟨a, b, c, d, e, f, rfl⟩
theorem impl_first_ev {l : List Int} (h : l.length = 6) : Ev (fun k => impl_firstNamed.f k l) (firstOf l) := by
  unfold impl_firstNamed.f firstOf
  rw [← from256_zero]
  have key := down (fun i => ∀ b : List Int, b.length = 6 → Ev (fun k => impl_firstNamed.l0 k l b (i : Int)) ((from256 i).foldl (upd l) b)) 256 ?_ ?_ 0 (by omega)
  · exact key l h
  · intro b hb
    refine ev_step ?_
    simp only [impl_firstNamed.l0]
    refine ev_neg (by omega) ?_
    unfold slices_Clone_int_int.f
    simp only [Option.bind_some, List.nil_append]
    rw [from256_end]
    simp only [hb]
    exact ev_some _
  · intro i hi ih b hb
    refine ev_step ?_
    simp only [impl_firstNamed.l0]
    refine ev_pos (by omega) ?_
    rw [quad_eq hi, w64_succ (by omega), from256_step hi]
    simp only [Option.bind_some]
    refine Ev.bind (impl_isOrder_ev (quad i) (by show 4 ≤ 1048576; decide)) ?_
    by_cases c : perms.contains (quad i) = true
    · have hp : quad i ∈ perms := List.contains_iff_mem.1 c
      rw [if_pos c, List.foldl_cons]
      obtain ⟨a1, a2, a3, a4, a5, a6, rfl⟩ := six_of h
      obtain ⟨n, hn, hd⟩ := compare_ev (named [a1, a2, a3, a4, a5, a6] (quad i)) b (by rw [hb]; rfl) (by show 6 ≤ 1048576; decide)
      refine ev_pos ((ordB_iff _).2 hp) (Ev.bind (impl_named_ev _ _ _ _ _ _ _ hp) (Ev.bind hn ?_))
      have ih' := ih (upd [a1, a2, a3, a4, a5, a6] b (quad i)) (upd_length hb)
      unfold upd at ih'
      unfold upd
      by_cases z : lx (named [a1, a2, a3, a4, a5, a6] (quad i)) b = true
      · rw [if_pos z] at ih' ⊢
        rw [z] at hd
        exact ev_pos (of_decide_eq_true hd) ih'
      · rw [if_neg z] at ih' ⊢
        rw [Bool.eq_false_iff.2 z] at hd
        exact ev_neg (of_decide_eq_false hd) ih'
    · rw [if_neg c]
      refine ev_neg (fun hc => c (List.contains_iff_mem.2 ((ordB_iff _).1 hc))) ?_
      exact ih b hb
def firstA (l : List Int) : List Int × Bool := if solB l = true then (firstOf l, true) else ([], false)
theorem sol_len {l : List Int} (h : solB l = true) : l.length = 6 := by
  obtain ⟨a, b, c, d, e, f, rfl, _⟩ := sol_six h
  rfl
theorem firstA_len (l : List Int) : (firstA l).1.length ≤ 6 := by
  unfold firstA
  by_cases c : solB l = true
  · rw [if_pos c]; dsimp only; rw [first_length (sol_len c)]; decide
  · rw [if_neg c]; exact Nat.zero_le _

def sameA (l x : List Int) : Bool := solB l && (solB x && firstOf l == firstOf x)
theorem slices_equal_ev (s t : List Int) (h : s.length ≤ 1048576) (hl : s.length = t.length) : Ev (fun k => slices_Equal_int_int.f k s t) (s == t) := by
  unfold slices_Equal_int_int.f
  refine ev_pos (by omega) ?_
  have key := ev_count (fun k i => slices_Equal_int_int.l0 k s t (s.length : Int) (i : Int)) (fun i => s.drop i == t.drop i) s.length ?_ ?_ 0 (by omega)
  · exact key
  · refine ev_step ?_
    simp only [slices_Equal_int_int.l0]
    refine ev_neg (by omega) ?_
    rw [List.drop_length, hl, List.drop_length]
    exact ev_some _
  · intro i hi ih
    have hit : i < t.length := by omega
    refine ev_step ?_
    simp only [slices_Equal_int_int.l0]
    rw [drop_cons hi, drop_cons hit, rd_get hi, rd_get hit, w64_succ (by omega)]
    refine ev_pos (by omega) (ev_pos (by omega) (ev_pos (by omega) (ev_pos (by omega) ?_)))
    have e : (s[i] :: s.drop (i + 1) == t[i] :: t.drop (i + 1)) = (s[i] == t[i] && s.drop (i + 1) == t.drop (i + 1)) := rfl
    rw [e]
    by_cases c : s[i] = t[i]
    · have : (s[i] == t[i]) = true := by simpa using c
      rw [this, Bool.true_and]
      exact ev_pos c ih
    · have : (s[i] == t[i]) = false := by simpa using c
      rw [this, Bool.false_and]
      exact ev_neg c (ev_some _)
theorem impl_SolidSame_ev (l x : List Int) (h : l.length ≤ 1048576) (hx : x.length ≤ 1048576) : Ev (fun k => impl_SolidSame.f k l x) (sameA l x) := by
  unfold impl_SolidSame.f sameA
  refine Ev.bind (impl_SolidIn_ev l h) ?_
  by_cases c : solB l = true
  · rw [c, Bool.true_and]
    refine ev_pos rfl (Ev.bind (impl_SolidIn_ev x hx) ?_)
    by_cases d : solB x = true
    · rw [d, Bool.true_and]
      have h1 := first_length (sol_len c)
      have h2 := first_length (sol_len d)
      exact ev_pos rfl (Ev.bind (impl_first_ev (sol_len c)) (Ev.bind (impl_first_ev (sol_len d)) (Ev.bind (slices_equal_ev _ _ (by omega) (by omega)) (ev_some _))))
    · rw [Bool.eq_false_iff.2 d, Bool.false_and]
      exact ev_neg (by decide) (ev_some _)
  · rw [Bool.eq_false_iff.2 c, Bool.false_and]
    exact ev_neg (by decide) (ev_some _)

theorem spec_l6In_eq (a b c : Int) : spec_l6In.f a b c = some (decide (b ≤ a ∧ a ≤ c)) := by
  unfold spec_l6In.f
  by_cases h : a ≥ b
  · rw [if_pos h]; simp; intro _; exact h
  · rw [if_neg h]; simp; omega
theorem spec_l8Solid_ev (l : List Int) (h : l.length ≤ 1048576) : Ev (fun k => spec_l8Solid.f k l) (solB l) := by
  unfold spec_l8Solid.f
  have := ev_count (fun k i => spec_l8Solid.l0 k l (i : Int)) (fun i => (l.drop i).all inB && l.length == 6) l.length ?_ ?_ 0 (by omega)
  · simpa [solB] using this
  · refine ev_step ?_
    simp only [spec_l8Solid.l0]
    refine ev_neg (by omega) ?_
    have e : ((l.length : Int) == 6) = (l.length == 6) := by rw [Bool.eq_iff_iff]; simp; omega
    simpa [e] using ev_some _
  · intro i hi ih
    refine ev_step ?_
    simp only [spec_l8Solid.l0]
    refine ev_pos (by omega) (ev_pos (by omega) ?_)
    rw [rd_get hi, drop_cons hi, List.all_cons, spec_l6In_eq]
    simp only [Option.bind_some]
    by_cases h1 : 1 ≤ l[i] ∧ l[i] ≤ 12
    · refine ev_pos (by simpa using h1) ?_
      have : inB l[i] = true := by unfold inB; simp; omega
      rw [this, Bool.true_and, w64_succ (by omega)]
      exact ih
    · refine ev_neg (by simpa using h1) ?_
      have : inB l[i] = false := by unfold inB; simp; omega
      rw [this]; exact ev_some _

theorem spec_named_ev (a b c d e f : Int) (x : List Int) (hx : x ∈ perms) : Ev (fun k => spec_l8Named.f k [a, b, c, d, e, f] x) (named [a, b, c, d, e, f] x) := by
  refine Ev.of (spec_l8Named.mono _ _) (k := 30) ?_
  simp only [perms, List.mem_cons, List.not_mem_nil, or_false] at hx
  rcases hx with rfl | rfl | rfl | rfl | rfl | rfl | rfl | rfl | rfl | rfl | rfl | rfl | rfl | rfl | rfl | rfl | rfl | rfl | rfl | rfl | rfl | rfl | rfl | rfl <;> kernel_rfl

theorem less_ev (s t : List Int) (hl : s.length = t.length) (h : s.length ≤ 1048576) : Ev (fun k => spec_l8Less.f k s t) (lx s t) := by
  unfold spec_l8Less.f
  have key := ev_count (fun k i => spec_l8Less.l0 k s t (i : Int)) (fun i => lx (s.drop i) (t.drop i)) s.length ?_ ?_ 0 (by omega)
  · exact key
  · refine ev_step ?_
    simp only [spec_l8Less.l0]
    refine ev_neg (by omega) ?_
    rw [List.drop_length]
    exact ev_some _
  · intro i hi ih
    have hit : i < t.length := by omega
    refine ev_step ?_
    simp only [spec_l8Less.l0]
    rw [drop_cons hi, drop_cons hit, rd_get hi, rd_get hit, w64_succ (by omega)]
    simp only [lx]
    refine ev_pos (by omega) (ev_pos (by omega) (ev_pos (by omega) ?_))
    by_cases c : s[i] = t[i]
    · rw [if_pos c]
      exact ev_pos c ih
    · rw [if_neg c]
      exact ev_neg c (ev_some _)
theorem spec_first_ev {l : List Int} (h : l.length = 6) : Ev (fun k => spec_l8First.f k l) (firstOf l) := by
  unfold spec_l8First.f firstOf
  simp only [Option.bind_some, List.nil_append, List.length_nil, Nat.zero_add]
  refine ev_pos (by omega) ?_
  rw [← T0_zero]
  have loop2 : ∀ (a b : Nat) (r : List Int) (rest : List (List Int)), a < 4 → b < 4 →
      (∀ m : List Int, m.length = 6 → Ev (fun k => spec_l8First.l1 k l m (a : Int) ((b + 1 : Nat) : Int)) (rest.foldl (upd l) m)) →
      ∀ m : List Int, m.length = 6 → Ev (fun k => spec_l8First.l2 k l m (a : Int) (b : Int) 0) ((T2 a b 0 ++ rest).foldl (upd l) m) := by
    intro a b r rest ha hb hk
    have key := down (fun c => ∀ m : List Int, m.length = 6 → Ev (fun k => spec_l8First.l2 k l m (a : Int) (b : Int) (c : Int)) ((T2 a b c ++ rest).foldl (upd l) m)) 4 ?_ ?_ 0 (by omega)
    · exact key
    · intro m hm
      refine ev_step ?_
      simp only [spec_l8First.l2]
      refine ev_neg (by omega) ?_
      rw [T2_end, List.nil_append, w64_succ (by omega)]
      exact hk m hm
    · intro c hc ih m hm
      have e6 : wrap64 (wrap64 (wrap64 (6 - (a : Int)) - (b : Int)) - (c : Int)) = 6 - (a : Int) - (b : Int) - (c : Int) := by
        rw [w64 (x := 6 - (a : Int)) (by omega), w64 (x := 6 - (a : Int) - (b : Int)) (by omega), w64 (by omega)]
      have body : Ev (fun k => spec_l8First.j3 k l m (a : Int) (b : Int) (c : Int) (6 - (a : Int) - (b : Int) - (c : Int)) (skip a b c)) ((T2 a b c ++ rest).foldl (upd l) m) := by
        refine ev_step ?_
        simp only [spec_l8First.j3]
        rw [w64_succ (by omega), T2_step hc]
        by_cases z : skip a b c = true
        · rw [if_pos z]
          exact ev_pos z (ih m hm)
        · rw [if_neg z, List.cons_append, List.foldl_cons]
          have hp := tri_perm ha hb hc (Bool.eq_false_iff.2 z)
          have ih' := ih (upd l m (tri a b c)) (upd_length hm)
          obtain ⟨a1, a2, a3, a4, a5, a6, rfl⟩ := six_of h
          refine ev_neg z (Ev.bind (spec_named_ev _ _ _ _ _ _ _ hp) (Ev.bind (less_ev _ m (by rw [hm]; rfl) (by show 6 ≤ 1048576; decide)) ?_))
          unfold upd at ih'
          unfold upd
          by_cases y : lx (named [a1, a2, a3, a4, a5, a6] (tri a b c)) m = true
          · rw [if_pos y] at ih' ⊢
            exact ev_pos y ih'
          · rw [if_neg y] at ih' ⊢
            exact ev_neg y ih'
      refine ev_step ?_
      simp only [spec_l8First.l2]
      rw [e6]
      refine ev_pos (by omega) ?_
      by_cases c1 : (a : Int) = (b : Int)
      · have s : skip a b c = true := by obtain rfl : a = b := by omega
                                         simp [skip]
        rw [s] at body
        exact ev_pos c1 body
      · refine ev_neg c1 ?_
        by_cases c2 : (a : Int) = (c : Int)
        · have s : skip a b c = true := by obtain rfl : a = c := by omega
                                           simp [skip]
          rw [s] at body
          exact ev_pos c2 body
        · refine ev_neg c2 ?_
          have s : skip a b c = ((b : Int) == (c : Int)) := by
            have e1 : (a == b) = false := by simp; omega
            have e2 : (a == c) = false := by simp; omega
            unfold skip
            rw [e1, e2, Bool.false_or, Bool.false_or, Bool.eq_iff_iff]
            simp
            omega
          rw [s] at body
          exact body
  have loop1 : ∀ (a : Nat) (rest : List (List Int)), a < 4 →
      (∀ m : List Int, m.length = 6 → Ev (fun k => spec_l8First.l0 k l m ((a + 1 : Nat) : Int)) (rest.foldl (upd l) m)) →
      ∀ m : List Int, m.length = 6 → Ev (fun k => spec_l8First.l1 k l m (a : Int) 0) ((T1 a 0 ++ rest).foldl (upd l) m) := by
    intro a rest ha hk
    have key := down (fun b => ∀ m : List Int, m.length = 6 → Ev (fun k => spec_l8First.l1 k l m (a : Int) (b : Int)) ((T1 a b ++ rest).foldl (upd l) m)) 4 ?_ ?_ 0 (by omega)
    · exact key
    · intro m hm
      refine ev_step ?_
      simp only [spec_l8First.l1]
      refine ev_neg (by omega) ?_
      rw [T1_end, List.nil_append, w64_succ (by omega)]
      exact hk m hm
    · intro b hb ih m hm
      refine ev_step ?_
      simp only [spec_l8First.l1]
      refine ev_pos (by omega) ?_
      rw [T1_step hb, List.append_assoc]
      exact loop2 a b l (T1 a (b + 1) ++ rest) ha hb ih m hm
  have key := down (fun a => ∀ m : List Int, m.length = 6 → Ev (fun k => spec_l8First.l0 k l m (a : Int)) ((T0 a).foldl (upd l) m)) 4 ?_ ?_ 0 (by omega)
  · exact key l h
  · intro m hm
    refine ev_step ?_
    simp only [spec_l8First.l0]
    refine ev_neg (by omega) ?_
    rw [T0_end]
    exact ev_some _
  · intro a ha ih m hm
    refine ev_step ?_
    simp only [spec_l8First.l0]
    refine ev_pos (by omega) ?_
    rw [T0_step ha]
    exact loop1 a (T0 (a + 1)) ha ih m hm

theorem spec_SolidSame_ev (l x : List Int) (h : l.length ≤ 1048576) (hx : x.length ≤ 1048576) : Ev (fun k => spec_SolidSame.f k l x) (sameA l x) := by
  unfold spec_SolidSame.f sameA
  refine Ev.bind (spec_l8Solid_ev l h) ?_
  by_cases c : solB l = true
  · rw [c, Bool.true_and]
    refine ev_pos rfl (Ev.bind (spec_l8Solid_ev x hx) ?_)
    by_cases d : solB x = true
    · rw [d, Bool.true_and]
      have h1 := first_length (sol_len c)
      have h2 := first_length (sol_len d)
      refine ev_step ?_
      simp only [spec_SolidSame.j0]
      refine ev_neg (by simp) (Ev.bind (spec_first_ev (sol_len c)) (Ev.bind (spec_first_ev (sol_len d)) (Ev.bind (less_ev _ _ (by omega) (by omega)) ?_)))
      by_cases z : lx (firstOf l) (firstOf x) = true
      · have : (firstOf l == firstOf x) = false := by
          rw [beq_eq_false_iff_ne]; intro e; rw [e, lx_irrefl] at z; cases z
        rw [this]
        exact ev_pos z (ev_some _)
      · refine ev_neg z (Ev.bind (less_ev _ _ (by omega) (by omega)) ?_)
        have : (firstOf l == firstOf x) = !lx (firstOf x) (firstOf l) := by
          cases y : lx (firstOf x) (firstOf l) with
          | true =>
            rw [Bool.not_true, beq_eq_false_iff_ne]; intro e; rw [e, lx_irrefl] at y; cases y
          | false =>
            rw [Bool.not_false, beq_iff_eq]
            exact lx_total _ _ (by omega) (Bool.eq_false_iff.2 z) y
        rw [this]
        exact ev_some _
    · rw [Bool.eq_false_iff.2 d, Bool.false_and]
      refine ev_step ?_
      simp only [spec_SolidSame.j0]
      exact ev_pos (by decide) (ev_some _)
  · rw [Bool.eq_false_iff.2 c, Bool.false_and]
    refine ev_neg (by decide) (ev_step ?_)
    simp only [spec_SolidSame.j0]
    exact ev_pos (by trivial) (ev_some _)

theorem FnExactSolidSame : laws_FnExactSolidSame.Pure := by
  intro l x _ _ _ _ _ _
  refine Ev.rounds ?_
  unfold laws_FnExactSolidSame.f
  by_cases h : (l.length : Int) > 1048576
  · exact ev_pos h (ev_some _)
  · refine ev_neg h ?_
    by_cases h2 : (x.length : Int) > 1048576
    · exact ev_pos h2 (ev_some _)
    · refine ev_neg h2 ?_
      have hl : l.length ≤ 1048576 := by omega
      have hx : x.length ≤ 1048576 := by omega
      refine Ev.bind (toIntS_ev l hl) (Ev.bind (toIntS_ev x hx) (Ev.bind (spec_SolidSame_ev l x hl hx) (Ev.bind (toIntS_ev l hl) (Ev.bind (toIntS_ev x hx) (Ev.bind (impl_SolidSame_ev l x hl hx) ?_)))))
      refine ev_neg (by simp) (Ev.bind (toIntS_ev l hl) (Ev.bind (eqIntS_self l hl) (ev_pos (by trivial) (Ev.bind (toIntS_ev x hx) (Ev.bind (eqIntS_self x hx) (ev_pos (by trivial) (ev_some _)))))))

end Go.Proofs.Ytbjmgcdhfoelkaa.Pure
