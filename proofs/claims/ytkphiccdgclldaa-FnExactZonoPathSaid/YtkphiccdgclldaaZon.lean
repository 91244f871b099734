import Derived.Test.YtkphiccdgclldaaOrd
import Derived.Test.YtkphiccdgclldaaStar
/- Zonogons of stars: steps put in order, and turned ones behind them. No program in sight. -/
set_option linter.unusedVariables false
set_option linter.unusedSimpArgs false
namespace Go.Proofs.Ytkphiccdgclldaa.Zon
open Go.Proofs.Ytkphiccdgclldaa.Pth Go.Proofs.Ytkphiccdgclldaa.Srt Go.Proofs.Ytkphiccdgclldaa.Cvx Go.Proofs.Ytkphiccdgclldaa.Iso
open Go.Proofs.Ytkphiccdgclldaa.Ord (le srt_pw srt_of_pw A_pw path_perm cvx_srt)
open Go.Proofs.Ytkphiccdgclldaa.Star (Star PS ac)
def upV (v : V) : V := if half v = 1 then neg v else v
def zs (q : List V) : List V := srt (q.map upV)
def zono (q : List V) : List V := zs q ++ (zs q).map neg
theorem half_neg {v : V} (h : Ord.nz v) : half (neg v) = 1 - half v := by
  unfold Ord.nz at h
  unfold half neg
  dsimp only
  (repeat' split) <;> omega
theorem nz_of {v : V} (h : stepV v) : Ord.nz v := h.2.2.2.2
theorem step_neg {v : V} (h : stepV v) : stepV (neg v) := by
  simp only [stepV, neg] at h ⊢
  omega
theorem step_up {v : V} (h : stepV v) : stepV (upV v) ∧ half (upV v) = 0 := by
  unfold upV
  by_cases c : half v = 1
  · rw [if_pos c]
    exact ⟨step_neg h, by rw [half_neg (nz_of h), c]; rfl⟩
  · rw [if_neg c]
    refine ⟨h, ?_⟩
    rcases half_cases v with e | e
    · exact e
    · exact absurd e c
theorem zs_mem {q : List V} (h : ∀ v ∈ q, stepV v) : ∀ v ∈ zs q, stepV v ∧ half v = 0 := by
  intro v hv
  obtain ⟨u, hu, rfl⟩ := List.mem_map.1 (srt_mem.1 hv)
  exact step_up (h u hu)
theorem zs_length (q : List V) : (zs q).length = q.length := by unfold zs; rw [srt_length, List.length_map]
theorem zono_length (q : List V) : (zono q).length = 2 * q.length := by unfold zono; rw [List.length_append, List.length_map, zs_length]; omega
theorem zono_st {q : List V} (h : ∀ v ∈ q, stepV v) : ∀ v ∈ zono q, stepV v := by
  intro v hv
  rcases List.mem_append.1 hv with hv | hv
  · exact (zs_mem h v hv).1
  · obtain ⟨u, hu, rfl⟩ := List.mem_map.1 hv
    exact step_neg (zs_mem h u hu).1
theorem path_zono {q : List V} (h : Star q) : Path (zono q) where
  lo := by rw [zono_length]; have := h.lo; omega
  hi := by rw [zono_length]; have := h.hi; omega
  st := zono_st h.st
  x0 := by unfold zono; rw [sx_append, sx_neg]; omega
  y0 := by unfold zono; rw [sy_append, sy_neg]; omega
theorem cr_neg (a b : V) : cr (neg a) (neg b) = cr a b := by unfold cr neg; grind
theorem zs_pw {q : List V} (h : ∀ v ∈ q, stepV v) : (zs q).Pairwise le := srt_pw (fun v hv => by
  obtain ⟨u, hu, rfl⟩ := List.mem_map.1 hv
  exact nz_of (step_up (h u hu)).1)
theorem zono_pw {q : List V} (h : ∀ v ∈ q, stepV v) : (zono q).Pairwise le := by
  unfold zono
  rw [List.pairwise_append]
  refine ⟨zs_pw h, ?_, ?_⟩
  · rw [List.pairwise_map]
    refine List.Pairwise.imp_of_mem (fun {a b} ha hb hab => ?_) (zs_pw h)
    obtain ⟨sa, za⟩ := zs_mem h a ha
    obtain ⟨sb, zb⟩ := zs_mem h b hb
    unfold le at hab ⊢
    rw [half_neg (nz_of sa), half_neg (nz_of sb), za, zb, cr_neg]
    rw [za, zb] at hab
    rcases hab with e | e
    · omega
    · exact Or.inr ⟨rfl, e.2⟩
  · intro a ha b hb
    obtain ⟨u, hu, rfl⟩ := List.mem_map.1 hb
    obtain ⟨sa, za⟩ := zs_mem h a ha
    obtain ⟨su, zu⟩ := zs_mem h u hu
    unfold le
    rw [half_neg (nz_of su), za, zu]
    exact Or.inl (by omega)
theorem fa_ac (v : V) (l : List V) : fa v l = (l.map (fun u => ac u v)).sum := by
  induction l with
  | nil => rfl
  | cons u t ih =>
    rw [List.map_cons, List.sum_cons, ← ih]
    have : fa v (u :: t) = ac u v + fa v t := by
      simp only [fa, ac]
      have := Star.cr_flip u v
      omega
    exact this
theorem T_PS (l : List V) : T l = PS ac l := by
  induction l with
  | nil => rfl
  | cons v t ih =>
    show fa v t + T t = (t.map (fun u => ac u v)).sum + PS ac t
    rw [ih, fa_ac]
theorem ac_up (a b : V) : ac (upV a) (upV b) = ac a b := by
  unfold upV
  split <;> split <;> unfold ac cr <;> simp only [neg] <;> first | rfl | grind
theorem PS_up (q : List V) : PS ac (q.map upV) = PS ac q := by
  induction q with
  | nil => rfl
  | cons v t ih =>
    show ((t.map upV).map (fun u => ac u (upV v))).sum + PS ac (t.map upV) = _
    rw [ih, List.map_map]
    show (t.map (fun u => ac (upV u) (upV v))).sum + _ = (t.map (fun u => ac u v)).sum + _
    have : (fun u => ac (upV u) (upV v)) = (fun u => ac u v) := by funext u; exact ac_up u v
    rw [this]
theorem fa_neg (v : V) (l : List V) : fa (neg v) (l.map neg) = fa v l := by
  rw [fa_ac, fa_ac, List.map_map]
  have : ((fun u => ac u (neg v)) ∘ neg) = (fun u => ac u v) := by
    funext u
    show ac (neg u) (neg v) = _
    unfold ac
    rw [cr_neg]
  rw [this]
theorem T_neg (l : List V) : T (l.map neg) = T l := by
  induction l with
  | nil => rfl
  | cons v t ih =>
    show fa (neg v) (t.map neg) + T (t.map neg) = fa v t + T t
    rw [ih, fa_neg]
theorem A_zono {q : List V} (h : Star q) : A (zono q) = 2 * PS ac q := by
  have hP := path_zono h
  rw [A_pw (zono_pw h.st) hP.x0 hP.y0]
  unfold Sm
  have hu : ups (zono q) = zs q := by
    unfold ups zono
    rw [List.filter_append, List.filter_eq_self.2 (fun v hv => by rw [(zs_mem h.st v hv).2]; rfl), List.filter_eq_nil_iff.2 (fun v hv => by
      obtain ⟨u, hu, rfl⟩ := List.mem_map.1 hv
      obtain ⟨su, zu⟩ := zs_mem h.st u hu
      rw [half_neg (nz_of su), zu]; decide), List.append_nil]
  have hw : lows (zono q) = (zs q).map neg := by
    unfold lows zono
    rw [List.filter_append, List.filter_eq_nil_iff.2 (fun v hv => by rw [(zs_mem h.st v hv).2]; decide), List.filter_eq_self.2 (fun v hv => by
      obtain ⟨u, hu, rfl⟩ := List.mem_map.1 hv
      obtain ⟨su, zu⟩ := zs_mem h.st u hu
      rw [half_neg (nz_of su), zu]; rfl), List.nil_append]
  rw [hu, hw, T_neg]
  have : T (zs q) = PS ac q := by
    unfold zs
    rw [T_perm (srt_perm _), T_PS, PS_up]
  rw [this]; omega
theorem cvx_zono {q : List V} (h : Star q) : cvx (zono q) = decide (0 < PS ac q) := by
  have hP := path_zono h
  have e := cvx_srt hP
  rw [srt_of_pw (zono_pw h.st), A_zono h] at e
  rw [e, decide_eq_decide]; omega
theorem PS_nonneg {f : V → V → Int} (hf : ∀ a b, 0 ≤ f a b) (q : List V) : 0 ≤ PS f q := by
  have hs : ∀ (v : V) (t : List V), 0 ≤ (t.map (fun u => f u v)).sum := by
    intro v t
    induction t with
    | nil => exact Int.le_refl _
    | cons u t ih => rw [List.map_cons, List.sum_cons]; have := hf u v; omega
  induction q with
  | nil => exact Int.le_refl _
  | cons v t ih =>
    show 0 ≤ (t.map (fun u => f u v)).sum + PS f t
    have := hs v t
    omega
theorem pieces_pos {q : List V} : 0 < PS ac q ↔ 0 < PS Star.nz q := by
  have h1 := Star.PS_zero Star.ac_nz Star.ac_nonneg Star.nz_nonneg q
  have h2 : 0 ≤ PS ac q := PS_nonneg Star.ac_nonneg q
  have h3 : 0 ≤ PS Star.nz q := PS_nonneg Star.nz_nonneg q
  constructor
  · intro h
    rcases Int.lt_or_eq_of_le h3 with c | c
    · exact c
    · have := h1.2 c.symm; omega
  · intro h
    rcases Int.lt_or_eq_of_le h2 with c | c
    · exact c
    · have := h1.1 c.symm; omega
end Go.Proofs.Ytkphiccdgclldaa.Zon
