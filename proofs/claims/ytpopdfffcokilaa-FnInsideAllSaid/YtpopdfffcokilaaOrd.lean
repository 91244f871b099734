import Derived.Test.YtpopdfffcokilaaIso
/- Steps in order are convex just if their area isn't 0; convex paths are steps in order, begun somewhere. No program in sight. -/
set_option linter.unusedVariables false
set_option linter.unusedSimpArgs false
namespace Go.Proofs.Ytpopdfffcokilaa.Ord
open Go.Proofs.Ytpopdfffcokilaa.Pth Go.Proofs.Ytpopdfffcokilaa.Srt Go.Proofs.Ytpopdfffcokilaa.Cvx Go.Proofs.Ytpopdfffcokilaa.Iso
def nz (v : V) : Prop := v.1 ≠ 0 ∨ v.2 ≠ 0
def le (a b : V) : Prop := half a < half b ∨ (half a = half b ∧ 0 ≤ cr a b)
theorem le_trans {a b c : V} (ha : nz a) (hb : nz b) (hc : nz c) (h1 : le a b) (h2 : le b c) : le a c := by
  unfold le at *
  rcases half_cases a with ea | ea <;> rcases half_cases b with eb | eb <;> rcases half_cases c with ec | ec <;> rw [ea, eb] at h1 <;> rw [eb, ec] at h2 <;> rw [ea, ec]
  · exact Or.inr ⟨rfl, up_trans ea eb ec (by omega) (by omega)⟩
  · exact Or.inl (by omega)
  · exact Or.inr ⟨rfl, by omega⟩
  · exact Or.inl (by omega)
  · omega
  · omega
  · omega
  · exact Or.inr ⟨rfl, low_trans ea eb ec ha hb hc (by omega) (by omega)⟩
theorem not_before {a b : V} (h : ¬ before b a = true) : le a b := by
  unfold before at h
  unfold le
  by_cases c : half b = half a
  · rw [if_pos c] at h
    rw [cr_swap a b] at h
    exact Or.inr ⟨c.symm, by simp at h; omega⟩
  · rw [if_neg c] at h
    exact Or.inl (by simp at h; omega)
/-! ### insertion puts in order -/
/-! ### areas of steps in order -/
theorem pw_split {l : List V} (h : l.Pairwise le) : l = ups l ++ lows l := by
  induction l with
  | nil => rfl
  | cons v t ih =>
    rw [List.pairwise_cons] at h
    rcases half_cases v with e | e
    · rw [(ups_cons_0 e t).1, (ups_cons_0 e t).2, List.cons_append, ← ih h.2]
    · have hn : ups t = [] := by
        rw [List.eq_nil_iff_forall_not_mem]
        intro u hu
        have h0 := ups_half t u hu
        have := h.1 u (List.mem_filter.1 hu).1
        unfold le at this
        omega
      have := ih h.2
      rw [hn, List.nil_append] at this
      rw [(ups_cons_1 e t).1, (ups_cons_1 e t).2, hn, List.nil_append, ← this]
/-! ### sums of one half -/
/-! ### convex just if there is something around -/
/-- A convex path is steps in order, begun somewhere. -/
theorem cvx_begin_pw {q : List V} (hl : 1 < q.length) (hz : ∀ v ∈ q, nz v) (h : cvx q = true) : ∃ k, k ≤ q.length ∧ (begin_ q k).Pairwise le := by
  unfold cvx at h
  rw [Bool.and_eq_true, decide_eq_true_eq] at h
  obtain ⟨hg, hc⟩ := h
  obtain ⟨x, hx, hd⟩ := List.countP_pos_iff.1 (show 0 < (prs q).countP dsc by omega)
  obtain ⟨j, hj, rfl⟩ := List.getElem_of_mem hx
  have hjl : j < q.length := by rw [prs_length] at hj; exact hj
  refine ⟨j + 1, by omega, ?_⟩
  have hk : j + 1 ≤ q.length := by omega
  have ep := prs_begin (q := q) (k := j + 1) hk
  have zero : ∀ y ∈ (prs q).drop (j + 1) ++ (prs q).take j, dsc y = false := by
    have e1 : prs q = (prs q).take j ++ [(prs q)[j]] ++ (prs q).drop (j + 1) := by
      rw [← List.take_succ_eq_append_getElem hj, List.take_append_drop]
    rw [e1, List.countP_append, List.countP_append, List.countP_singleton, if_pos hd] at hc
    have h1 : ((prs q).take j).countP dsc = 0 := by omega
    have h2 : ((prs q).drop (j + 1)).countP dsc = 0 := by omega
    intro y hy
    rcases List.mem_append.1 hy with hy | hy
    · exact Bool.eq_false_iff.2 (List.countP_eq_zero.1 h2 y hy)
    · exact Bool.eq_false_iff.2 (List.countP_eq_zero.1 h1 y hy)
  have hzb : ∀ v ∈ begin_ q (j + 1), nz v := by
    intro v hv
    simp only [begin_, List.mem_append] at hv
    rcases hv with hv | hv
    · exact hz v (List.mem_of_mem_drop hv)
    · exact hz v (List.mem_of_mem_take hv)
  have hbl : (begin_ q (j + 1)).length = q.length := begin_length q _
  have step : ∀ i, (hi : i + 1 < (begin_ q (j + 1)).length) → le ((begin_ q (j + 1))[i]) ((begin_ q (j + 1))[i + 1]) := by
    intro i hi
    have hil : i < (begin_ q (j + 1)).length := by omega
    have g := prs_get hil
    have em : (i + 1) % (begin_ q (j + 1)).length = i + 1 := Nat.mod_eq_of_lt hi
    simp only [em] at g
    have hm : (prs (begin_ q (j + 1)))[i]'(by rw [prs_length]; exact hil) ∈ (prs q).drop (j + 1) ++ (prs q).take j := by
      have e2 : (prs q).drop (j + 1) ++ (prs q).take (j + 1) = ((prs q).drop (j + 1) ++ (prs q).take j) ++ [(prs q)[j]] := by
        rw [List.take_succ_eq_append_getElem hj, List.append_assoc]
      have e3 : (prs (begin_ q (j + 1)))[i]'(by rw [prs_length]; exact hil) = (((prs q).drop (j + 1) ++ (prs q).take j) ++ [(prs q)[j]])[i]'(by rw [← e2, ← ep, prs_length]; exact hil) := by
        congr 1
        rw [ep, e2]
      rw [e3, List.getElem_append_left (by simp [prs_length]; omega)]
      exact List.getElem_mem _
    have := zero _ hm
    rw [g] at this
    exact not_before (by unfold dsc desc at this; rw [this]; simp)
  rw [List.pairwise_iff_getElem]
  have key : ∀ d i, (hd : i + (d + 1) < (begin_ q (j + 1)).length) → le ((begin_ q (j + 1))[i]) ((begin_ q (j + 1))[i + (d + 1)]) := by
    intro d
    induction d with
    | zero => intro i hd; exact step i hd
    | succ d ih =>
      intro i hd
      exact le_trans (hzb _ (List.getElem_mem _)) (hzb _ (List.getElem_mem _)) (hzb _ (List.getElem_mem _)) (ih i (by omega)) (step (i + (d + 1)) hd)
  intro i m hi hm him
  obtain ⟨d, rfl⟩ : ∃ d, m = i + (d + 1) := ⟨m - i - 1, by omega⟩
  exact key d i hm
end Go.Proofs.Ytpopdfffcokilaa.Ord
