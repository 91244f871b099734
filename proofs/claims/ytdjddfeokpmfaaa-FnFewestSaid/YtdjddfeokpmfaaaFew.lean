import Derived.Test.YtdjddfeokpmfaaaTurn
import Derived.Test.YtdjddfeokpmfaaaPerm
/- All orders of a path that runs put in opposite order lead to, by levels: the search, how long it lasts, and at which level it ends. No program in sight. -/
set_option linter.unusedVariables false
set_option linter.unusedSimpArgs false
namespace Go.Proofs.Ytdjddfeokpmfaaa.Few
open Go.Proofs.Ytdjddfeokpmfaaa.Pth Go.Proofs.Ytdjddfeokpmfaaa.Srt Go.Proofs.Ytdjddfeokpmfaaa.Cvx Go.Proofs.Ytdjddfeokpmfaaa.Ord Go.Proofs.Ytdjddfeokpmfaaa.Turn Go.Proofs.Ytdjddfeokpmfaaa.HRaw Go.Proofs.Ytdjddfeokpmfaaa.Perm
abbrev Q := List V
/-- One more order, if it is new. -/
def ad (base X : List Q) (r : Q) : List Q := if r ∈ base ++ X then X else X ++ [r]
def rowR (q : Q) (i : Nat) : Nat → Nat → List Q
  | 0, _ => []
  | r + 1, j => turned q i j :: rowR q i r (j + 1)
def nxR (q : Q) : Nat → Nat → List Q
  | 0, _ => []
  | r + 1, i => rowR q i r (i + 1) ++ nxR q r (i + 1)
def nx (q : Q) : List Q := nxR q q.length 0
def grow (base X : List Q) (rs : List Q) : List Q := rs.foldl (ad base) X
theorem grow_append (base X a b : List Q) : grow base X (a ++ b) = grow base (grow base X a) b := by unfold grow; rw [List.foldl_append]
theorem grow_cons (base X : List Q) (r : Q) (b : List Q) : grow base X (r :: b) = grow base (ad base X r) b := rfl
theorem mem_row {q : Q} {i : Nat} {x : Q} : ∀ {r j : Nat}, x ∈ rowR q i r j → ∃ t, j ≤ t ∧ t < j + r ∧ x = turned q i t
  | 0, j, h => by cases h
  | r + 1, j, h => by
    rcases List.mem_cons.1 h with h | h
    · exact ⟨j, Nat.le_refl _, by omega, h⟩
    · obtain ⟨t, h1, h2, h3⟩ := mem_row h
      exact ⟨t, by omega, by omega, h3⟩
theorem row_mem {q : Q} {i t : Nat} : ∀ {r j : Nat}, j ≤ t → t < j + r → turned q i t ∈ rowR q i r j
  | 0, j, h1, h2 => by omega
  | r + 1, j, h1, h2 => by
    by_cases c : t = j
    · subst c
      exact List.mem_cons_self
    · exact List.mem_cons_of_mem _ (row_mem (by omega) (by omega))
theorem mem_nx {q : Q} {x : Q} : ∀ {r i : Nat}, x ∈ nxR q r i → ∃ a b, a < b ∧ b < i + r ∧ x = turned q a b
  | 0, i, h => by cases h
  | r + 1, i, h => by
    rcases List.mem_append.1 h with h | h
    · obtain ⟨t, h1, h2, h3⟩ := mem_row h
      exact ⟨i, t, by omega, by omega, h3⟩
    · obtain ⟨a, b, h1, h2, h3⟩ := mem_nx h
      exact ⟨a, b, h1, by omega, h3⟩
theorem nx_mem {q : Q} {a b : Nat} : ∀ {r i : Nat}, i ≤ a → a < b → b < i + r → turned q a b ∈ nxR q r i
  | 0, i, h1, h2, h3 => by omega
  | r + 1, i, h1, h2, h3 => by
    by_cases c : a = i
    · subst c
      exact List.mem_append_left _ (row_mem (by omega) (by omega))
    · exact List.mem_append_right _ (nx_mem (by omega) h2 (by omega))
theorem nx_perm {q x : Q} (h : x ∈ nx q) : x.Perm q := by
  obtain ⟨a, b, h1, h2, rfl⟩ := mem_nx h
  exact turned_perm q (by omega)
/-! ### what grows -/
/-- Different orders of q0. -/
structure Ok (q0 : Q) (l : List Q) : Prop where
  nd : l.Nodup
  pm : ∀ x ∈ l, x.Perm q0
theorem Ok.len {q0 : Q} {l : List Q} (h : Ok q0 l) (h5 : q0.length ≤ 5) : l.length ≤ 120 := by
  have h1 := nodup_le l (dp q0.length q0) h.nd (fun x hx => (mem_dp _ _ _ rfl).2 (h.pm x hx))
  have h2 := dp_count q0.length q0 rfl
  have h3 := fac_pos q0
  have h4 : (dp q0.length q0).length ≤ fact q0.length := by
    rw [← h2]
    exact Nat.le_mul_of_pos_right _ h3
  have h5 : fact q0.length ≤ 120 := by
    revert h5
    generalize q0.length = n
    intro h5
    match n, h5 with
    | 0, _ => decide
    | 1, _ => decide
    | 2, _ => decide
    | 3, _ => decide
    | 4, _ => decide
    | 5, _ => decide
    | n + 6, h => omega
  omega
theorem ad_ok {q0 : Q} {base X : List Q} {r : Q} (h : Ok q0 (base ++ X)) (hr : r.Perm q0) : Ok q0 (base ++ ad base X r) := by
  unfold ad
  split
  · exact h
  · rename_i c
    rw [← List.append_assoc]
    refine ⟨List.nodup_append.2 ⟨h.nd, List.nodup_cons.2 ⟨List.not_mem_nil, List.nodup_nil⟩, fun a ha b hb e => ?_⟩, fun x hx => ?_⟩
    · rw [List.mem_singleton.1 hb] at e
      exact c (by rw [← e]; exact ha)
    · rcases List.mem_append.1 hx with hx | hx
      · exact h.pm x hx
      · rw [List.mem_singleton.1 hx]
        exact hr
theorem grow_ok {q0 : Q} {base : List Q} : ∀ (rs X : List Q), Ok q0 (base ++ X) → (∀ r ∈ rs, r.Perm q0) → Ok q0 (base ++ grow base X rs)
  | [], X, h, _ => h
  | r :: rs, X, h, hr => grow_ok rs _ (ad_ok h (hr r List.mem_cons_self)) (fun x hx => hr x (List.mem_cons_of_mem _ hx))
theorem grow_sub {base : List Q} {x : Q} : ∀ (rs X : List Q), x ∈ base ++ X → x ∈ base ++ grow base X rs
  | [], X, h => h
  | r :: rs, X, h => grow_sub rs _ (by
    unfold ad
    split
    · exact h
    · rw [← List.append_assoc]
      exact List.mem_append_left _ h)
theorem grow_all {base : List Q} {x : Q} : ∀ (rs X : List Q), x ∈ rs → x ∈ base ++ grow base X rs
  | [], X, h => by cases h
  | r :: rs, X, h => by
    rcases List.mem_cons.1 h with h | h
    · subst h
      refine grow_sub rs _ ?_
      unfold ad
      split
      · assumption
      · rw [← List.append_assoc]
        exact List.mem_append_right _ (List.mem_singleton.2 rfl)
    · exact grow_all rs _ h
/-- How the search ends, from: those done, the rest of this level, those of the next level, the level. -/
inductive Res : List Q → List Q → List Q → Nat → Int × Bool → Prop
  | found {dn : List Q} {q : Q} {rest X : List Q} {n : Nat} : cvx q = true → Res dn (q :: rest) X n ((n : Int), true)
  | step {dn : List Q} {q : Q} {rest X : List Q} {n : Nat} {R : Int × Bool} : cvx q = false → Res (dn ++ [q]) rest (grow (dn ++ q :: rest) X (nx q)) n R → Res dn (q :: rest) X n R
  | turn {dn : List Q} {x : Q} {X : List Q} {n : Nat} {R : Int × Bool} : Res dn (x :: X) [] (n + 1) R → Res dn [] (x :: X) n R
  | stop {dn : List Q} {n : Nat} : Res dn [] [] n (0, false)
structure Inv (q0 : Q) (dn rest X : List Q) (n : Nat) : Prop where
  ok : Ok q0 (dn ++ rest ++ X)
  lv : n ≤ dn.length
  lt : rest = [] → n < dn.length
theorem Inv.step {q0 q : Q} {dn rest X : List Q} {n : Nat} (h : Inv q0 dn (q :: rest) X n) : Inv q0 (dn ++ [q]) rest (grow (dn ++ q :: rest) X (nx q)) n := by
  have hq : q.Perm q0 := h.ok.pm q (by simp)
  refine ⟨?_, ?_, fun _ => ?_⟩
  · have := grow_ok (nx q) X h.ok (fun r hr => (nx_perm hr).trans hq)
    simpa using this
  · have := h.lv; simp; omega
  · have := h.lv; simp; omega
theorem Inv.turn {q0 x : Q} {dn X : List Q} {n : Nat} (h : Inv q0 dn [] (x :: X) n) : Inv q0 dn (x :: X) [] (n + 1) := by
  refine ⟨?_, h.lt rfl, fun e => by cases e⟩
  have := h.ok
  simpa using this
theorem Inv.start (q0 : Q) : Inv q0 [] [q0] [] 0 :=
  ⟨⟨by simp, fun x hx => by rw [show x = q0 from by simpa using hx]⟩, Nat.le_refl _, fun e => by cases e⟩
theorem Inv.len {q0 : Q} {dn rest X : List Q} {n : Nat} (h : Inv q0 dn rest X n) (h5 : q0.length ≤ 5) : dn.length + rest.length + X.length ≤ 120 := by
  have := h.ok.len h5
  simp at this
  omega
theorem Inv.nlt {q0 : Q} {dn rest X : List Q} {n : Nat} (h : Inv q0 dn rest X n) (h5 : q0.length ≤ 5) : n ≤ 120 := by
  have := h.len h5
  have := h.lv
  omega
/-- The search ends. -/
theorem ends {q0 : Q} (h5 : q0.length ≤ 5) : ∀ (m : Nat) (dn rest X : List Q) (n : Nat), Inv q0 dn rest X n → 2 * (120 - dn.length) + (if rest = [] then 1 else 0) < m → ∃ R, Res dn rest X n R
  | 0, _, _, _, _, _, h => by omega
  | m + 1, dn, [], X, n, hI, h => by
    cases X with
    | nil => exact ⟨_, .stop⟩
    | cons x X =>
      rw [if_pos rfl] at h
      obtain ⟨R, hR⟩ := ends h5 m dn (x :: X) [] (n + 1) hI.turn (by rw [if_neg (fun e => by cases e)]; omega)
      exact ⟨R, .turn hR⟩
  | m + 1, dn, q :: rest, X, n, hI, h => by
    cases hc : cvx q with
    | true => exact ⟨_, .found hc⟩
    | false =>
      have hl := hI.len h5
      rw [if_neg (fun e => by cases e)] at h
      rw [List.length_cons] at hl
      obtain ⟨R, hR⟩ := ends h5 m (dn ++ [q]) rest _ n hI.step (by
        rw [List.length_append, List.length_singleton]
        split <;> omega)
      exact ⟨R, .step hc hR⟩
theorem known {q0 : Q} (h5 : q0.length ≤ 5) : ∃ R, Res [] [q0] [] 0 R := ends h5 _ _ _ _ _ (Inv.start q0) (Nat.lt_succ_self _)
/-! ### at which level it ends -/
theorem Res.lo {dn rest X : List Q} {n : Nat} {R : Int × Bool} (h : Res dn rest X n R) : R.2 = true → (n : Int) ≤ R.1 := by
  induction h with
  | found _ => exact fun _ => Int.le_refl _
  | step _ _ ih => exact ih
  | turn _ ih => intro hR; have := ih hR; omega
  | stop => intro hR; cases hR
theorem Res.some {dn rest X : List Q} {n : Nat} {R : Int × Bool} (h : Res dn rest X n R) {q0 : Q} : Inv q0 dn rest X n → R.2 = true → ∃ x, x.Perm q0 ∧ cvx x = true := by
  induction h with
  | @found dn q rest X n hc => exact fun hI _ => ⟨q, hI.ok.pm q (by simp), hc⟩
  | step _ _ ih => exact fun hI => ih hI.step
  | turn _ ih => exact fun hI => ih hI.turn
  | stop => intro _ hR; cases hR
theorem Res.zero {q : Q} {R : Int × Bool} (h : Res [] [q] [] 0 R) (h2 : R.2 = true) : R.1 = 0 ↔ cvx q = true := by
  cases h with
  | found hc => exact ⟨fun _ => hc, fun _ => rfl⟩
  | step hc h =>
    constructor
    · intro h0
      exfalso
      generalize grow _ _ _ = X at h
      cases h with
      | turn h =>
        have := h.lo h2
        omega
      | stop => cases h2
    · intro e
      rw [hc] at e
      cases e
/-- x is reached from p by m runs put in opposite order. -/
inductive Rch (p : Q) : Nat → Q → Prop
  | zero : Rch p 0 p
  | next {m : Nat} {x y : Q} : Rch p m x → y ∈ nx x → Rch p (m + 1) y
structure Far (p : Q) (dn rest X : List Q) (n : Nat) : Prop where
  no : ∀ x ∈ dn, cvx x = false
  ball : ∀ m ≤ n, ∀ x, Rch p m x → x ∈ dn ++ rest
  shut : ∀ x ∈ dn, ∀ y ∈ nx x, y ∈ dn ++ rest ++ X
theorem Far.step {p q : Q} {dn rest X : List Q} {n : Nat} (h : Far p dn (q :: rest) X n) (hc : cvx q = false) : Far p (dn ++ [q]) rest (grow (dn ++ q :: rest) X (nx q)) n := by
  refine ⟨fun x hx => ?_, fun m hm x hx => ?_, fun x hx y hy => ?_⟩
  · rcases List.mem_append.1 hx with hx | hx
    · exact h.no x hx
    · rw [List.mem_singleton.1 hx]
      exact hc
  · have := h.ball m hm x hx
    simpa using this
  · have : y ∈ (dn ++ q :: rest) ++ grow (dn ++ q :: rest) X (nx q) := by
      rcases List.mem_append.1 hx with hx | hx
      · exact grow_sub _ _ (h.shut x hx y hy)
      · rw [List.mem_singleton.1 hx] at hy
        exact grow_all _ _ hy
    simpa using this
theorem Far.turn {p x : Q} {dn X : List Q} {n : Nat} (h : Far p dn [] (x :: X) n) : Far p dn (x :: X) [] (n + 1) := by
  have hb : ∀ m ≤ n, ∀ x, Rch p m x → x ∈ dn := fun m hm x hx => by have := h.ball m hm x hx; simpa using this
  refine ⟨h.no, fun m hm y hy => ?_, fun x hx y hy => by have := h.shut x hx y hy; simpa using this⟩
  cases hy with
  | zero => exact List.mem_append_left _ (hb 0 (Nat.zero_le _) _ .zero)
  | @next m x' _ hx hyx =>
    have := h.shut x' (hb m (by omega) _ hx) y hyx
    simpa using this
theorem Far.start (p : Q) : Far p [] [p] [] 0 := by
  refine ⟨fun x hx => (by cases hx), fun m hm x hx => ?_, fun x hx => (by cases hx)⟩
  cases hx with
  | zero => simp
  | next _ _ => omega
theorem Res.hi {dn rest X : List Q} {n : Nat} {R : Int × Bool} (h : Res dn rest X n R) {p z : Q} {m : Nat} (hz : Rch p m z) (hc : cvx z = true) : Far p dn rest X n → n ≤ m → R.2 = true ∧ R.1 ≤ m := by
  induction h with
  | found _ => exact fun _ hn => ⟨rfl, Int.ofNat_le.2 hn⟩
  | step hq _ ih => exact fun hF hn => ih (hF.step hq) hn
  | @turn dn x X n R _ ih =>
    intro hF hn
    refine ih hF.turn ?_
    by_cases c : n = m
    · exfalso
      subst c
      have h1 := hF.ball n (Nat.le_refl _) z hz
      rw [List.append_nil] at h1
      rw [hF.no z h1] at hc
      cases hc
    · omega
  | @stop dn n =>
    intro hF _
    exfalso
    have h0 : p ∈ dn := by have := hF.ball 0 (Nat.zero_le _) p .zero; simpa using this
    have : ∀ m x, Rch p m x → x ∈ dn := by
      intro m x hx
      induction hx with
      | zero => exact h0
      | next _ hy ih => have := hF.shut _ ih _ hy; simpa using this
    rw [hF.no z (this m z hz)] at hc
    cases hc
/-- Every order is reached by fewer runs than there are steps. -/
theorem reach {p z : Q} (h : p.Perm z) : ∀ i, i + 1 ≤ z.length → ∃ m x, m ≤ i ∧ Rch p m x ∧ x.take i = z.take i ∧ x.Perm z
  | 0, _ => ⟨0, p, Nat.le_refl _, .zero, by simp, h⟩
  | i + 1, hi => by
    obtain ⟨m, x, hm, hx, ht, hp⟩ := reach h i (by omega)
    have hl := hp.length_eq
    have hd : (x.drop i).Perm (z.drop i) := by
      have e1 := List.take_append_drop i x
      have e2 := List.take_append_drop i z
      rw [ht] at e1
      have h3 : (z.take i ++ x.drop i).Perm (z.take i ++ z.drop i) := by rw [e1, e2]; exact hp
      exact (List.perm_append_left_iff _).1 h3
    have hz : z[i]'(by omega) ∈ x.drop i := hd.mem_iff.2 (by rw [List.drop_eq_getElem_cons (show i < z.length by omega)]; exact List.mem_cons_self)
    obtain ⟨t, htl, hzt⟩ := List.getElem_of_mem hz
    rw [List.length_drop] at htl
    rw [List.getElem_drop] at hzt
    by_cases c : t = 0
    · subst c
      refine ⟨m, x, by omega, hx, ?_, hp⟩
      rw [List.take_succ_eq_append_getElem (show i < x.length by omega), List.take_succ_eq_append_getElem (show i < z.length by omega), ht]
      congr 2
    · have hj : i + t < x.length := by omega
      refine ⟨m + 1, turned x i (i + t), by omega, .next hx (nx_mem (Nat.zero_le _) (by omega) (by omega)), ?_, (turned_perm x (by omega)).trans hp⟩
      refine List.ext_getElem? fun k => ?_
      rw [List.getElem?_take, List.getElem?_take]
      by_cases ck : k < i + 1
      · rw [if_pos ck, if_pos ck, turned_get (by omega) hj]
        by_cases c2 : k < i
        · rw [if_neg (by omega)]
          have := congrArg (fun l => l[k]?) ht
          simpa [List.getElem?_take, c2] using this
        · have : k = i := by omega
          subst this
          rw [if_pos (by omega), show k + (k + t) - k = k + t by omega, List.getElem?_eq_getElem hj, List.getElem?_eq_getElem (show k < z.length by omega), hzt]
      · rw [if_neg ck, if_neg ck]
theorem reach_all {p z : Q} (h : p.Perm z) (h1 : 1 ≤ z.length) : ∃ m, m + 1 ≤ z.length ∧ Rch p m z := by
  obtain ⟨m, x, hm, hx, ht, hp⟩ := reach h (z.length - 1) (by omega)
  have hl := hp.length_eq
  have e : x = z := by
    have e1 := List.take_append_drop (z.length - 1) x
    have e2 := List.take_append_drop (z.length - 1) z
    have h3 : (x.drop (z.length - 1)).Perm (z.drop (z.length - 1)) := by
      have h4 : (z.take (z.length - 1) ++ x.drop (z.length - 1)).Perm (z.take (z.length - 1) ++ z.drop (z.length - 1)) := by rw [e2, ← ht, e1]; exact hp
      exact (List.perm_append_left_iff _).1 h4
    have e3 : x.drop (z.length - 1) = z.drop (z.length - 1) := by
      rw [List.drop_eq_getElem_cons (show z.length - 1 < x.length by omega), List.drop_eq_getElem_cons (show z.length - 1 < z.length by omega), List.drop_of_length_le (show x.length ≤ z.length - 1 + 1 by omega), List.drop_of_length_le (show z.length ≤ z.length - 1 + 1 by omega)] at h3 ⊢
      rw [List.singleton_perm_singleton.1 h3]
    rw [ht, e3, e2] at e1
    exact e1.symm
  rw [e] at hx
  exact ⟨m, by omega, hx⟩
/-- The level is less than the count of steps, if any order is convex. -/
theorem Res.few {p z : Q} {R : Int × Bool} (h : Res [] [p] [] 0 R) (hz : z.Perm p) (h1 : 1 ≤ p.length) (hc : cvx z = true) : R.2 = true ∧ R.1 < p.length := by
  have hl := hz.length_eq
  obtain ⟨m, hm, hr⟩ := reach_all hz.symm (by omega)
  have := h.hi hr hc (Far.start p) (Nat.zero_le _)
  exact ⟨this.1, by omega⟩
end Go.Proofs.Ytdjddfeokpmfaaa.Few
