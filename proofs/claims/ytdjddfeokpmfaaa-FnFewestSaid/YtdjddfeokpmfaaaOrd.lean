import Derived.Test.YtdjddfeokpmfaaaIso
/- Steps in order are convex just if their area isn't 0; convex paths are steps in order, begun somewhere. No program in sight. -/
set_option linter.unusedVariables false
set_option linter.unusedSimpArgs false
namespace Go.Proofs.Ytdjddfeokpmfaaa.Ord
open Go.Proofs.Ytdjddfeokpmfaaa.Pth Go.Proofs.Ytdjddfeokpmfaaa.Srt Go.Proofs.Ytdjddfeokpmfaaa.Cvx Go.Proofs.Ytdjddfeokpmfaaa.Iso
def nz (v : V) : Prop := v.1 ≠ 0 ∨ v.2 ≠ 0
def le (a b : V) : Prop := half a < half b ∨ (half a = half b ∧ 0 ≤ cr a b)
theorem le_trans {a b c : V} (ha : nz a) (hb : nz b) (hc : nz c) (h1 : le a b) (h2 : le b c) : le a c := by
  unfold le at *
  rcases half_cases a with ea | ea <;> rcases half_cases b with eb | eb <;> rcases half_cases c with ec | ec <;> rw [ea, eb] at h1 <;> rw [eb, ec] at h2 <;> rw [ea, ec]
  · exact Or.inr ⟨rfl, up_trans ea eb ec (by omega) (by omega)⟩
  · exact Or.inl (by omega)
  · exact Or.inr ⟨rfl, by omega⟩
  · exact Or.inl (by omega)
  · omega
  · omega
  · omega
  · exact Or.inr ⟨rfl, low_trans ea eb ec ha hb hc (by omega) (by omega)⟩
theorem not_before {a b : V} (h : ¬ before b a = true) : le a b := by
  unfold before at h
  unfold le
  by_cases c : half b = half a
  · rw [if_pos c] at h
    rw [cr_swap a b] at h
    exact Or.inr ⟨c.symm, by simp at h; omega⟩
  · rw [if_neg c] at h
    exact Or.inl (by simp at h; omega)
theorem before_le {a b : V} (h : before a b = true) : le a b := by
  unfold before at h
  unfold le
  by_cases c : half a = half b
  · rw [if_pos c] at h
    exact Or.inr ⟨c, by simp at h; omega⟩
  · rw [if_neg c] at h
    exact Or.inl (by simpa using h)
/-! ### insertion puts in order -/
theorem pos_spec (v : V) (out : List V) (k : Nat) (hk : k ≤ out.length) : (∀ j, (hj : j < out.length) → pos v out k ≤ j → j < k → before v out[j] = true) ∧ (∀ p, pos v out k = p + 1 → (hp : p < out.length) → ¬ before v out[p] = true) := by
  induction k with
  | zero => exact ⟨fun j _ _ h => by omega, fun p h => by simp [pos] at h⟩
  | succ k ih =>
    have ihk := ih (by omega)
    have eg : out.getD k (0, 0) = out[k]'(by omega) := by simp [show k < out.length by omega]
    rw [pos_succ, eg]
    by_cases c : before v (out[k]'(by omega)) = true
    · rw [if_pos c]
      refine ⟨fun j hj h1 h2 => ?_, ihk.2⟩
      by_cases e : j = k
      · subst e; exact c
      · exact ihk.1 j hj h1 (by omega)
    · rw [if_neg c]
      refine ⟨fun j hj h1 h2 => by omega, fun p h hp => ?_⟩
      have : p = k := by omega
      subst this; exact c
theorem ins_pw {v : V} {out : List V} (hv : nz v) (ho : ∀ u ∈ out, nz u) (h : out.Pairwise le) : (ins v out).Pairwise le := by
  have hp := pos_spec v out out.length (Nat.le_refl _)
  have hle := pos_le v out out.length
  unfold ins
  generalize pos v out out.length = p at hp hle
  have hg := List.pairwise_iff_getElem.1 h
  rw [List.append_assoc, List.pairwise_append]
  refine ⟨h.sublist (List.take_sublist _ _), ?_, ?_⟩
  · rw [List.singleton_append, List.pairwise_cons]
    refine ⟨fun u hu => ?_, h.sublist (List.drop_sublist _ _)⟩
    obtain ⟨j, hj, rfl⟩ := List.getElem_of_mem hu
    rw [List.getElem_drop]
    rw [List.length_drop] at hj
    exact before_le (hp.1 (p + j) (by omega) (by omega) (by omega))
  · intro a ha b hb
    obtain ⟨i, hi, rfl⟩ := List.getElem_of_mem ha
    rw [List.length_take] at hi
    rw [List.getElem_take]
    have av : le (out[i]'(by omega)) v := by
      obtain ⟨m, rfl⟩ : ∃ m, p = m + 1 := ⟨p - 1, by omega⟩
      have hl := not_before (hp.2 m rfl (by omega))
      by_cases e : i = m
      · subst e; exact hl
      · exact le_trans (ho _ (List.getElem_mem _)) (ho _ (List.getElem_mem _)) hv (hg i m (by omega) (by omega) (by omega)) hl
    rcases List.mem_append.1 hb with hb | hb
    · obtain rfl := List.mem_singleton.1 hb
      exact av
    · obtain ⟨j, hj, rfl⟩ := List.getElem_of_mem hb
      rw [List.getElem_drop]
      rw [List.length_drop] at hj
      exact hg i (p + j) (by omega) (by omega) (by omega)
theorem srt_pw {q : List V} (h : ∀ v ∈ q, nz v) : (srt q).Pairwise le := by
  have key : ∀ n, ∀ q : List V, q.length = n → (∀ v ∈ q, nz v) → (srt q).Pairwise le := by
    intro n
    induction n with
    | zero =>
      intro q hq _
      obtain rfl : q = [] := List.eq_nil_of_length_eq_zero hq
      exact List.Pairwise.nil
    | succ n ih =>
      intro q hq h
      obtain ⟨t, v, rfl⟩ : ∃ t v, q = t ++ [v] := ⟨q.dropLast, q.getLast (by intro e; subst e; simp at hq), (List.dropLast_concat_getLast _).symm⟩
      rw [srt_snoc]
      have ht : ∀ u ∈ t, nz u := fun u hu => h u (by simp [hu])
      exact ins_pw (h v (by simp)) (fun u hu => ht u (srt_mem.1 hu)) (ih t (by simpa using hq) ht)
  exact key _ q rfl h
/-! ### areas of steps in order -/
theorem pw_split {l : List V} (h : l.Pairwise le) : l = ups l ++ lows l := by
  induction l with
  | nil => rfl
  | cons v t ih =>
    rw [List.pairwise_cons] at h
    rcases half_cases v with e | e
    · rw [(ups_cons_0 e t).1, (ups_cons_0 e t).2, List.cons_append, ← ih h.2]
    · have hn : ups t = [] := by
        rw [List.eq_nil_iff_forall_not_mem]
        intro u hu
        have h0 := ups_half t u hu
        have := h.1 u (List.mem_filter.1 hu).1
        unfold le at this
        omega
      have := ih h.2
      rw [hn, List.nil_append] at this
      rw [(ups_cons_1 e t).1, (ups_cons_1 e t).2, hn, List.nil_append, ← this]
theorem fa_pos {v : V} {l : List V} (h : ∀ u ∈ l, 0 ≤ cr v u) : fa v l = cs v l := by
  induction l with
  | nil => rw [cs_nil]; rfl
  | cons u l ih =>
    rw [cs_cons]
    simp only [fa]
    have := h u (by simp)
    rw [ih (fun u hu => h u (by simp [hu]))]
    omega
theorem A_pos {l : List V} (h : l.Pairwise (fun a b => 0 ≤ cr a b)) : A l = T l := by
  induction l with
  | nil => rfl
  | cons v t ih =>
    rw [List.pairwise_cons] at h
    rw [A_cons', ih h.2]
    simp only [T]
    rw [fa_pos h.1]
theorem pw_ups {l : List V} (h : l.Pairwise le) : (ups l).Pairwise (fun a b => 0 ≤ cr a b) := by
  have h1 : (ups l).Pairwise le := h.sublist List.filter_sublist
  refine (List.Pairwise.and_mem.1 h1).imp ?_
  intro a b ⟨ha, hb, hl⟩
  have := ups_half l a ha
  have := ups_half l b hb
  unfold le at hl
  omega
theorem pw_lows {l : List V} (h : l.Pairwise le) : (lows l).Pairwise (fun a b => 0 ≤ cr a b) := by
  have h1 : (lows l).Pairwise le := h.sublist List.filter_sublist
  refine (List.Pairwise.and_mem.1 h1).imp ?_
  intro a b ⟨ha, hb, hl⟩
  have := lows_half l a ha
  have := lows_half l b hb
  unfold le at hl
  omega
theorem A_pw {l : List V} (h : l.Pairwise le) (hx : sx l = 0) (hy : sy l = 0) : A l = Sm l := by
  have e : A l = A (ups l ++ lows l) := by rw [← pw_split h]
  rw [e, A_append, A_pos (pw_ups h), A_pos (pw_lows h)]
  rw [sx_split] at hx
  rw [sy_split] at hy
  have h1 : sx (lows l) = -sx (ups l) := by omega
  have h2 : sy (lows l) = -sy (ups l) := by omega
  rw [h1, h2]
  unfold Sm
  grind
theorem Sm_nonneg (l : List V) : 0 ≤ Sm l := by
  have := T_nonneg (ups l)
  have := T_nonneg (lows l)
  unfold Sm; omega
theorem perm_sum {a b : List Int} (h : a.Perm b) : a.sum = b.sum := by
  induction h with
  | nil => rfl
  | cons x _ ih => rw [List.sum_cons, List.sum_cons, ih]
  | swap x y l => rw [List.sum_cons, List.sum_cons, List.sum_cons, List.sum_cons]; omega
  | trans _ _ h1 h2 => exact h1.trans h2
theorem A_srt {q : List V} (h : Path q) : A (srt q) = Sm q := by
  have hz : ∀ v ∈ q, nz v := fun v hv => (h.st v hv).2.2.2.2
  rw [A_pw (srt_pw hz), Sm_perm (srt_perm q)]
  · have : (List.map Prod.fst (srt q)).sum = (List.map Prod.fst q).sum := perm_sum ((srt_perm q).map _)
    exact this.trans h.x0
  · have : (List.map Prod.snd (srt q)).sum = (List.map Prod.snd q).sum := perm_sum ((srt_perm q).map _)
    exact this.trans h.y0
theorem path_perm {q l : List V} (h : Path q) (p : l.Perm q) : Path l where
  lo := by rw [p.length_eq]; exact h.lo
  hi := by rw [p.length_eq]; exact h.hi
  st := fun v hv => h.st v (p.mem_iff.1 hv)
  x0 := (perm_sum (p.map Prod.fst)).trans h.x0
  y0 := (perm_sum (p.map Prod.snd)).trans h.y0
theorem A_le_srt {q : List V} (h : Path q) : A q ≤ A (srt q) := by
  rw [A_srt h]; exact A_le_Sm _ q rfl h.x0 h.y0
/-! ### sums of one half -/
theorem up_sum {l : List V} (h : ∀ v ∈ l, half v = 0) (hn : l ≠ []) : half (sx l, sy l) = 0 := by
  induction l with
  | nil => exact absurd rfl hn
  | cons v t ih =>
    have hv := h v (by simp)
    rw [half_zero] at hv ⊢
    rw [sx_cons, sy_cons]
    dsimp only
    by_cases c : t = []
    · subst c; simp [sx, sy]; omega
    · have := ih (fun u hu => h u (by simp [hu])) c
      rw [half_zero] at this
      dsimp only at this
      omega
theorem low_sum {l : List V} (h : ∀ v ∈ l, half v = 1) (hz : ∀ v ∈ l, nz v) (hn : l ≠ []) : half (sx l, sy l) = 1 ∧ nz (sx l, sy l) := by
  induction l with
  | nil => exact absurd rfl hn
  | cons v t ih =>
    have hv := h v (by simp)
    have hzv := hz v (by simp)
    unfold nz at hzv ⊢
    rw [half_one] at hv ⊢
    rw [sx_cons, sy_cons]
    dsimp only
    by_cases c : t = []
    · subst c; simp [sx, sy]; omega
    · have := ih (fun u hu => h u (by simp [hu])) (fun u hu => hz u (by simp [hu])) c
      unfold nz at this
      rw [half_one] at this
      dsimp only at this
      omega
theorem both {l : List V} (hz : ∀ v ∈ l, nz v) (hn : l ≠ []) (hx : sx l = 0) (hy : sy l = 0) : ups l ≠ [] ∧ lows l ≠ [] := by
  rw [sx_split] at hx
  rw [sy_split] at hy
  have hzl : ∀ v ∈ lows l, nz v := fun v hv => hz v (List.mem_filter.1 hv).1
  by_cases cu : ups l = []
  · exfalso
    by_cases cl : lows l = []
    · obtain ⟨v, t, rfl⟩ := List.exists_cons_of_ne_nil hn
      rcases half_cases v with e | e
      · rw [(ups_cons_0 e t).1] at cu; cases cu
      · rw [(ups_cons_1 e t).2] at cl; cases cl
    · have := (low_sum (lows_half l) hzl cl).2
      rw [cu] at hx hy
      unfold nz at this
      dsimp only at this
      simp [sx] at hx
      simp [sy] at hy
      simp [sx, sy] at this
      omega
  · refine ⟨cu, fun cl => ?_⟩
    have := up_sum (ups_half l) cu
    rw [cl] at hx hy
    rw [half_zero] at this
    dsimp only at this
    have h0 : sx ([] : List V) = 0 := rfl
    have h1 : sy ([] : List V) = 0 := rfl
    omega
theorem fa_zero {v : V} {l : List V} (h : fa v l = 0) : ∀ u ∈ l, cr v u = 0 := by
  induction l with
  | nil => intro u hu; cases hu
  | cons w l ih =>
    simp only [fa] at h
    have := fa_cs v l
    intro u hu
    rcases List.mem_cons.1 hu with rfl | hu
    · omega
    · exact ih (by omega) u hu
theorem T_zero {l : List V} (h : T l = 0) : ∀ a ∈ l, ∀ b ∈ l, cr a b = 0 := by
  induction l with
  | nil => intro a ha; cases ha
  | cons v t ih =>
    simp only [T] at h
    have h1 := fa_cs v t
    have h2 := T_nonneg t
    have hf := fa_zero (v := v) (l := t) (by omega)
    have ht := ih (by omega)
    intro a ha b hb
    rcases List.mem_cons.1 ha with ea | ha' <;> rcases List.mem_cons.1 hb with eb | hb'
    · rw [ea, eb]; exact cr_self _
    · rw [ea]; exact hf b hb'
    · rw [eb, cr_swap v a, hf a ha']; rfl
    · exact ht a ha' b hb'
theorem cs_zero {v : V} {l : List V} (h : ∀ u ∈ l, cr v u = 0) : cs v l = 0 := by
  induction l with
  | nil => exact cs_nil v
  | cons u l ih => rw [cs_cons, h u (by simp), ih (fun u hu => h u (by simp [hu]))]; rfl
/-- Nothing around: the last upper one and any lower one are opposite. -/
theorem opposite {l : List V} (hz : ∀ v ∈ l, nz v) (hx : sx l = 0) (hy : sy l = 0) (h : Sm l = 0) {u w : V} (hu : u ∈ ups l) (hw : w ∈ lows l) : bad u w = true := by
  have h1 := T_nonneg (ups l)
  have h2 := T_nonneg (lows l)
  unfold Sm at h
  have tu := T_zero (l := ups l) (by omega) u hu
  have tw := T_zero (l := lows l) (by omega) w hw
  have cu := cs_zero tu
  have cw := cs_zero tw
  rw [sx_split] at hx
  rw [sy_split] at hy
  have hs := up_sum (ups_half l) (List.ne_nil_of_mem hu)
  have zs : (sx (ups l), sy (ups l)).1 ≠ 0 ∨ (sx (ups l), sy (ups l)).2 ≠ 0 := by
    rw [half_zero] at hs; dsimp only at hs ⊢; omega
  have e1 : cr u (sx (ups l), sy (ups l)) = 0 := by
    have : cr u (sx (ups l), sy (ups l)) = cs u (ups l) := rfl
    rw [this]; exact cu
  have e2 : cr (sx (ups l), sy (ups l)) w = 0 := by
    have h3 : sx (lows l) = -sx (ups l) := by omega
    have h4 : sy (lows l) = -sy (ups l) := by omega
    unfold cs at cw
    rw [h3, h4] at cw
    unfold cr
    dsimp only
    grind
  have e := par zs e1 e2
  have d := dot_opp (ups_half l u hu) (lows_half l w hw) (hz w (List.mem_filter.1 hw).1) e
  unfold bad
  rw [decide_eq_true e, decide_eq_true d]
  simp
/-! ### convex just if there is something around -/
theorem split_get {l : List V} (h : l.Pairwise le) : (∀ i, (hi : i < l.length) → i < (ups l).length → l[i] ∈ ups l ∧ ∀ hj : i < (ups l).length, l[i] = (ups l)[i]) ∧ (∀ i, (hi : i < l.length) → (ups l).length ≤ i → l[i] ∈ lows l) := by
  have e := pw_split h
  refine ⟨fun i hi hu => ?_, fun i hi hu => ?_⟩
  · have : l[i] = (ups l)[i] := by
      have h2 : l[i] = (ups l ++ lows l)[i]'(by rw [← e]; exact hi) := by congr 1
      rw [h2, List.getElem_append_left hu]
    exact ⟨by rw [this]; exact List.getElem_mem _, fun _ => this⟩
  · have h2 : l[i] = (ups l ++ lows l)[i]'(by rw [← e]; exact hi) := by congr 1
    rw [h2, List.getElem_append_right hu]
    exact List.getElem_mem _
/-- A convex path is steps in order, begun somewhere. -/
theorem cvx_begin_pw {q : List V} (hl : 1 < q.length) (hz : ∀ v ∈ q, nz v) (h : cvx q = true) : ∃ k, k ≤ q.length ∧ (begin_ q k).Pairwise le := by
  unfold cvx at h
  rw [Bool.and_eq_true, decide_eq_true_eq] at h
  obtain ⟨hg, hc⟩ := h
  obtain ⟨x, hx, hd⟩ := List.countP_pos_iff.1 (show 0 < (prs q).countP dsc by omega)
  obtain ⟨j, hj, rfl⟩ := List.getElem_of_mem hx
  have hjl : j < q.length := by rw [prs_length] at hj; exact hj
  refine ⟨j + 1, by omega, ?_⟩
  have hk : j + 1 ≤ q.length := by omega
  have ep := prs_begin (q := q) (k := j + 1) hk
  have zero : ∀ y ∈ (prs q).drop (j + 1) ++ (prs q).take j, dsc y = false := by
    have e1 : prs q = (prs q).take j ++ [(prs q)[j]] ++ (prs q).drop (j + 1) := by
      rw [← List.take_succ_eq_append_getElem hj, List.take_append_drop]
    rw [e1, List.countP_append, List.countP_append, List.countP_singleton, if_pos hd] at hc
    have h1 : ((prs q).take j).countP dsc = 0 := by omega
    have h2 : ((prs q).drop (j + 1)).countP dsc = 0 := by omega
    intro y hy
    rcases List.mem_append.1 hy with hy | hy
    · exact Bool.eq_false_iff.2 (List.countP_eq_zero.1 h2 y hy)
    · exact Bool.eq_false_iff.2 (List.countP_eq_zero.1 h1 y hy)
  have hzb : ∀ v ∈ begin_ q (j + 1), nz v := by
    intro v hv
    simp only [begin_, List.mem_append] at hv
    rcases hv with hv | hv
    · exact hz v (List.mem_of_mem_drop hv)
    · exact hz v (List.mem_of_mem_take hv)
  have hbl : (begin_ q (j + 1)).length = q.length := begin_length q _
  have step : ∀ i, (hi : i + 1 < (begin_ q (j + 1)).length) → le ((begin_ q (j + 1))[i]) ((begin_ q (j + 1))[i + 1]) := by
    intro i hi
    have hil : i < (begin_ q (j + 1)).length := by omega
    have g := prs_get hil
    have em : (i + 1) % (begin_ q (j + 1)).length = i + 1 := Nat.mod_eq_of_lt hi
    simp only [em] at g
    have hm : (prs (begin_ q (j + 1)))[i]'(by rw [prs_length]; exact hil) ∈ (prs q).drop (j + 1) ++ (prs q).take j := by
      have e2 : (prs q).drop (j + 1) ++ (prs q).take (j + 1) = ((prs q).drop (j + 1) ++ (prs q).take j) ++ [(prs q)[j]] := by
        rw [List.take_succ_eq_append_getElem hj, List.append_assoc]
      have e3 : (prs (begin_ q (j + 1)))[i]'(by rw [prs_length]; exact hil) = (((prs q).drop (j + 1) ++ (prs q).take j) ++ [(prs q)[j]])[i]'(by rw [← e2, ← ep, prs_length]; exact hil) := by
        congr 1
        rw [ep, e2]
      rw [e3, List.getElem_append_left (by simp [prs_length]; omega)]
      exact List.getElem_mem _
    have := zero _ hm
    rw [g] at this
    exact not_before (by unfold dsc desc at this; rw [this]; simp)
  rw [List.pairwise_iff_getElem]
  have key : ∀ d i, (hd : i + (d + 1) < (begin_ q (j + 1)).length) → le ((begin_ q (j + 1))[i]) ((begin_ q (j + 1))[i + (d + 1)]) := by
    intro d
    induction d with
    | zero => intro i hd; exact step i hd
    | succ d ih =>
      intro i hd
      exact le_trans (hzb _ (List.getElem_mem _)) (hzb _ (List.getElem_mem _)) (hzb _ (List.getElem_mem _)) (ih i (by omega)) (step (i + (d + 1)) hd)
  intro i m hi hm him
  obtain ⟨d, rfl⟩ : ∃ d, m = i + (d + 1) := ⟨m - i - 1, by omega⟩
  exact key d i hm
theorem pw_cvx_A {l : List V} (hl : 1 < l.length) (hz : ∀ v ∈ l, nz v) (h : l.Pairwise le) (hx : sx l = 0) (hy : sy l = 0) (hc : cvx l = true) : 0 < A l := by
  have hne : l ≠ [] := by intro e; subst e; simp at hl
  obtain ⟨hu, hw⟩ := both hz hne hx hy
  rw [A_pw h hx hy]
  have h0 := Sm_nonneg l
  by_cases c : Sm l = 0
  · exfalso
    have e := pw_split h
    have sg := split_get h
    have el : (ups l).length + (lows l).length = l.length := by rw [← List.length_append, ← e]
    have ul : 0 < (ups l).length := List.length_pos_iff.2 hu
    have wl : 0 < (lows l).length := List.length_pos_iff.2 hw
    have m1 := (sg.1 ((ups l).length - 1) (by omega) (by omega)).1
    have m2 := sg.2 ((ups l).length) (by omega) (by omega)
    have hb := opposite hz hx hy c m1 m2
    unfold cvx at hc
    rw [Bool.and_eq_true, List.all_eq_true] at hc
    have hil : (ups l).length - 1 < l.length := by omega
    have := hc.1 ((prs l)[(ups l).length - 1]'(by rw [prs_length]; exact hil)) (List.getElem_mem _)
    rw [prs_get hil] at this
    have em : ((ups l).length - 1 + 1) % l.length = (ups l).length := by
      rw [show (ups l).length - 1 + 1 = (ups l).length from by omega]; exact Nat.mod_eq_of_lt (by omega)
    simp only [em] at this
    unfold good at this
    rw [hb] at this
    cases this
  · omega
theorem path_nz {q : List V} (h : Path q) : ∀ v ∈ q, nz v := fun v hv => (h.st v hv).2.2.2.2
theorem cvx_A {q : List V} (h : Path q) (hc : cvx q = true) : 0 < A q := by
  have h3 := h.lo
  obtain ⟨k, hk, hp⟩ := cvx_begin_pw (by omega) (path_nz h) hc
  have hb := path_begin h k
  have := pw_cvx_A (by have := hb.lo; omega) (path_nz hb) hp hb.x0 hb.y0 (by rw [cvx_begin hk]; exact hc)
  rwa [A_begin h.x0 h.y0] at this
end Go.Proofs.Ytdjddfeokpmfaaa.Ord
