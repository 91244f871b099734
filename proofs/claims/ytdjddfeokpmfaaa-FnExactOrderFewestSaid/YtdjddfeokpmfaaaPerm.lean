import Derived.Test.YtdjddfeokpmfaaaHOrd
/- All orders of a list: those that are visited by changing places, and how many different ones there are. No program in sight. -/
set_option linter.unusedVariables false
set_option linter.unusedSimpArgs false
namespace Go.Proofs.Ytdjddfeokpmfaaa.Perm
open Go.Proofs.Ytdjddfeokpmfaaa.HOrd
variable {α : Type} [DecidableEq α]
set_option linter.unusedSectionVars false

theorem count_set' (x y : α) (l : List α) (i : Nat) (h : i < l.length) : (l.set i y).count x + (if l[i] = x then 1 else 0) = l.count x + (if y = x then 1 else 0) := by
  have hp : 0 < l.count x ∨ l[i] ≠ x := by
    by_cases c : l[i] = x
    · exact .inl (by rw [← c]; exact List.count_pos_iff.2 (List.getElem_mem h))
    · exact .inr c
  rw [List.count_set h]
  by_cases c1 : l[i] = x
  · rcases hp with hp | hp
    · by_cases c2 : y = x <;> simp [c1, c2] <;> omega
    · exact absurd c1 hp
  · by_cases c2 : y = x <;> simp [c1, c2]
theorem swap_perm (l : List α) (a i : Nat) : (swap l a i).Perm l := by
  by_cases ha : a < l.length
  · by_cases hi : i < l.length
    · rw [List.perm_iff_count]
      intro x
      rw [swap_at ha hi]
      have h1 := count_set' x l[i] l a ha
      have hi' : i < (l.set a l[i]).length := by rw [List.length_set]; exact hi
      have h2 := count_set' x l[a] (l.set a l[i]) i hi'
      have e : (l.set a l[i])[i] = l[i] := by
        rw [List.getElem_set]
        split
        · rename_i c; subst c; rfl
        · rfl
      rw [e] at h2
      omega
    · have e : l[i]? = none := List.getElem?_eq_none (by omega)
      have : swap l a i = l := by unfold swap; rw [e]; cases l[a]? <;> rfl
      rw [this]
  · have e : l[a]? = none := List.getElem?_eq_none (by omega)
    have : swap l a i = l := by unfold swap; rw [e]
    rw [this]
/-- The orders that are visited. -/
def visits {α : Type} : Nat → List α → List (List α)
  | 0, q => [q]
  | d + 1, q => (List.range (d + 1)).flatMap fun j => visits d (swap q (q.length - (d + 1)) (q.length - (d + 1) + j))
theorem swap_take (q : List α) {a i : Nat} (hi : i < q.length) (hai : a ≤ i) : (swap q a i).take (a + 1) = q.take a ++ [q[i]] := by
  have ha : a < q.length := by omega
  rw [swap_at ha hi]
  refine List.ext_getElem? fun j => ?_
  rw [List.getElem?_take]
  by_cases c : j < a + 1
  · rw [if_pos c]
    by_cases c2 : j < a
    · rw [List.getElem?_append_left (by simp; omega), List.getElem?_take, if_pos c2, List.getElem?_set_ne (by omega), List.getElem?_set_ne (by omega)]
    · have : j = a := by omega
      subst this
      rw [List.getElem?_append_right (by simp; omega)]
      by_cases c3 : i = j
      · subst c3
        simp [ha, show min i q.length = i by omega]
      · rw [List.getElem?_set_ne c3]
        simp [ha, show min j q.length = j by omega]
  · rw [if_neg c, List.getElem?_eq_none]
    simp; omega
theorem mem_visits : ∀ (d : Nat) (q p : List α), d ≤ q.length → (p ∈ visits d q ↔ p.take (q.length - d) = q.take (q.length - d) ∧ p.Perm q)
  | 0, q, p, _ => by
    unfold visits
    rw [List.mem_singleton, Nat.sub_zero]
    constructor
    · rintro rfl
      exact ⟨rfl, List.Perm.refl _⟩
    · rintro ⟨h1, h2⟩
      rw [List.take_length, ← h2.length_eq, List.take_length] at h1
      exact h1
  | d + 1, q, p, hd => by
    unfold visits
    rw [List.mem_flatMap]
    have hsub : q.length - (d + 1) + 1 = q.length - d := by omega
    constructor
    · rintro ⟨j, hj, hp⟩
      rw [List.mem_range] at hj
      have hl := swap_length q (q.length - (d + 1)) (q.length - (d + 1) + j)
      have := (mem_visits d _ p (by rw [hl]; omega)).1 hp
      rw [hl, ← hsub, swap_take q (by omega) (by omega)] at this
      refine ⟨?_, this.2.trans (swap_perm _ _ _)⟩
      have h1 := congrArg (fun l => l.take (q.length - (d + 1))) this.1
      simp only [List.take_take] at h1
      rw [show min (q.length - (d + 1)) (q.length - (d + 1) + 1) = q.length - (d + 1) by omega] at h1
      rw [h1, List.take_append_of_le_length (by rw [List.length_take]; omega), List.take_take, Nat.min_self]
    · rintro ⟨h1, h2⟩
      have hpl := h2.length_eq
      have ha : q.length - (d + 1) < p.length := by omega
      have hdrop : (p.drop (q.length - (d + 1))).Perm (q.drop (q.length - (d + 1))) := by
        obtain ⟨a, ea⟩ : ∃ a, a = q.length - (d + 1) := ⟨_, rfl⟩
        rw [← ea] at h1 ⊢
        have e1 := List.take_append_drop a p
        have e2 := List.take_append_drop a q
        rw [h1] at e1
        have h3 : (q.take a ++ p.drop a).Perm (q.take a ++ q.drop a) := by rw [e1, e2]; exact h2
        exact (List.perm_append_left_iff _).1 h3
      have hm : p[q.length - (d + 1)] ∈ q.drop (q.length - (d + 1)) := hdrop.mem_iff.1 (by rw [List.drop_eq_getElem_cons ha]; exact List.mem_cons_self)
      obtain ⟨j, hj, hjv⟩ := List.getElem_of_mem hm
      rw [List.length_drop] at hj
      rw [List.getElem_drop] at hjv
      refine ⟨j, List.mem_range.2 (by omega), ?_⟩
      have hl := swap_length q (q.length - (d + 1)) (q.length - (d + 1) + j)
      refine (mem_visits d _ p (by rw [hl]; omega)).2 ?_
      rw [hl, ← hsub, swap_take q (by omega) (by omega)]
      refine ⟨?_, h2.trans (swap_perm _ _ _).symm⟩
      rw [List.take_succ_eq_append_getElem ha, h1, hjv]
/-! ### how many different ones -/
/-- The different elements. -/
def dd : List α → List α
  | [] => []
  | x :: l => if x ∈ l then dd l else x :: dd l
theorem mem_dd (y : α) : ∀ l : List α, y ∈ dd l ↔ y ∈ l
  | [] => Iff.rfl
  | x :: l => by
    unfold dd
    split
    · rename_i h
      rw [mem_dd y l]
      constructor
      · exact List.mem_cons_of_mem _
      · intro hy
        rcases List.mem_cons.1 hy with rfl | hy
        · exact h
        · exact hy
    · rw [List.mem_cons, List.mem_cons, mem_dd y l]
theorem nodup_dd : ∀ l : List α, (dd l).Nodup
  | [] => List.nodup_nil
  | x :: l => by
    unfold dd
    split
    · exact nodup_dd l
    · rename_i h
      exact List.nodup_cons.2 ⟨fun hx => h ((mem_dd x l).1 hx), nodup_dd l⟩
theorem sum_one {x : α} : ∀ {l : List α}, l.Nodup → x ∈ l → (l.map (fun y => if x = y then 1 else 0)).sum = 1
  | [], _, h => by cases h
  | y :: l, hn, h => by
    rw [List.nodup_cons] at hn
    rw [List.map_cons, List.sum_cons]
    by_cases c : x = y
    · subst c
      have : ∀ l : List α, x ∉ l → (l.map (fun y => if x = y then 1 else 0)).sum = 0 := by
        intro l
        induction l with
        | nil => intro _; rfl
        | cons z t ih =>
          intro hx
          rw [List.map_cons, List.sum_cons, ih (fun h => hx (List.mem_cons_of_mem _ h)), if_neg (fun e => hx (by rw [e]; exact List.mem_cons_self))]
      rw [if_pos rfl, this l hn.1]
    · rw [if_neg c, sum_one hn.2 ((List.mem_cons.1 h).resolve_left c), Nat.zero_add]
theorem sum_add (f g : α → Nat) : ∀ l : List α, (l.map (fun y => f y + g y)).sum = (l.map f).sum + (l.map g).sum
  | [] => rfl
  | x :: l => by simp only [List.map_cons, List.sum_cons, sum_add f g l]; omega
theorem sum_congr' {f g : α → Nat} : ∀ l : List α, (∀ y ∈ l, f y = g y) → (l.map f).sum = (l.map g).sum
  | [], _ => rfl
  | x :: l, h => by rw [List.map_cons, List.map_cons, List.sum_cons, List.sum_cons, h x List.mem_cons_self, sum_congr' l (fun y hy => h y (List.mem_cons_of_mem _ hy))]
theorem sum_count : ∀ l : List α, ((dd l).map (fun y => l.count y)).sum = l.length
  | [] => rfl
  | x :: l => by
    have e : ∀ y, (x :: l).count y = l.count y + (if x = y then 1 else 0) := by
      intro y
      rw [List.count_cons]
      simp
    unfold dd
    split
    · rename_i h
      rw [sum_congr' _ (fun y _ => e y), sum_add, sum_count l, sum_one (nodup_dd l) ((mem_dd x l).2 h)]
      rfl
    · rename_i h
      rw [List.map_cons, List.sum_cons, e x, if_pos rfl, List.count_eq_zero.2 h, sum_congr' (dd l) (fun y hy => show (x :: l).count y = l.count y from by rw [e y, if_neg (fun c => h (by rw [c]; exact (mem_dd y l).1 hy))]; rfl), sum_count l, List.length_cons]
      omega
/-- All different orders. -/
def dp : Nat → List α → List (List α)
  | 0, _ => [[]]
  | n + 1, l => (dd l).flatMap fun x => (dp n (l.erase x)).map (x :: ·)
theorem mem_dp : ∀ (n : Nat) (l p : List α), l.length = n → (p ∈ dp n l ↔ p.Perm l)
  | 0, l, p, hl => by
    have : l = [] := List.length_eq_zero_iff.1 hl
    subst this
    unfold dp
    rw [List.mem_singleton]
    exact ⟨fun h => by rw [h], fun h => List.perm_nil.1 h⟩
  | n + 1, l, p, hl => by
    unfold dp
    rw [List.mem_flatMap]
    constructor
    · rintro ⟨x, hx, hp⟩
      obtain ⟨q, hq, rfl⟩ := List.mem_map.1 hp
      have hxl := (mem_dd x l).1 hx
      have := (mem_dp n (l.erase x) q (by rw [List.length_erase_of_mem hxl]; omega)).1 hq
      exact (this.cons x).trans (List.perm_cons_erase hxl).symm
    · intro hp
      cases p with
      | nil => have := hp.length_eq; simp at this; omega
      | cons x q =>
        have hxl : x ∈ l := hp.mem_iff.1 List.mem_cons_self
        refine ⟨x, (mem_dd x l).2 hxl, List.mem_map.2 ⟨q, (mem_dp n (l.erase x) q (by rw [List.length_erase_of_mem hxl]; omega)).2 ?_, rfl⟩⟩
        exact (hp.trans (List.perm_cons_erase hxl)).cons_inv
theorem nodup_flat {β : Type} (f : α → List β) (tag : β → α) : ∀ l : List α, l.Nodup → (∀ x ∈ l, (f x).Nodup) → (∀ x ∈ l, ∀ y ∈ f x, tag y = x) → (l.flatMap f).Nodup
  | [], _, _, _ => List.nodup_nil
  | x :: l, hn, hf, ht => by
    rw [List.nodup_cons] at hn
    rw [List.flatMap_cons, List.nodup_append]
    refine ⟨hf x List.mem_cons_self, nodup_flat f tag l hn.2 (fun y hy => hf y (List.mem_cons_of_mem _ hy)) (fun y hy => ht y (List.mem_cons_of_mem _ hy)), ?_⟩
    intro a ha b hb e
    subst e
    obtain ⟨y, hy, hay⟩ := List.mem_flatMap.1 hb
    have h1 := ht x List.mem_cons_self a ha
    have h2 := ht y (List.mem_cons_of_mem _ hy) a hay
    rw [h1] at h2
    exact hn.1 (by rw [h2]; exact hy)
theorem nodup_dp [Inhabited α] : ∀ (n : Nat) (l : List α), (dp n l).Nodup
  | 0, _ => by simp [dp]
  | n + 1, l => by
    unfold dp
    refine nodup_flat _ (fun p => p.headD default) (dd l) (nodup_dd l) (fun x _ => ?_) (fun x _ y hy => ?_)
    · have := nodup_dp n (l.erase x)
      exact List.Pairwise.map (x :: ·) (fun a b hab e => hab (by injection e)) this
    · obtain ⟨q, _, rfl⟩ := List.mem_map.1 hy
      rfl
/-- The product of the factorials of how often each one stands there. -/
def fac : List α → Nat
  | [] => 1
  | x :: l => fac l * (l.count x + 1)
theorem fac_cons (x : α) (l : List α) : fac (x :: l) = fac l * (l.count x + 1) := rfl
theorem fac_perm {l m : List α} (h : l.Perm m) : fac l = fac m := by
  induction h with
  | nil => rfl
  | cons x h ih => unfold fac; rw [ih, h.count_eq]
  | swap x y l =>
    unfold fac
    unfold fac
    rw [List.count_cons, List.count_cons]
    by_cases c : x = y
    · subst c; rfl
    · have c' : ¬ y = x := fun e => c e.symm
      simp [c, c']
      rw [Nat.mul_assoc, Nat.mul_assoc, Nat.mul_comm (l.count x + 1)]
  | trans _ _ ih1 ih2 => exact ih1.trans ih2
theorem fac_erase {l : List α} {x : α} (h : x ∈ l) : fac (l.erase x) * l.count x = fac l := by
  have h1 := fac_perm (List.perm_cons_erase h)
  have h2 := (List.perm_cons_erase h).count_eq x
  rw [h1, h2, List.count_cons_self]
  rfl
def fact : Nat → Nat
  | 0 => 1
  | n + 1 => (n + 1) * fact n
theorem flat_length {β : Type} (f : α → List β) : ∀ l : List α, (l.flatMap f).length = (l.map (fun x => (f x).length)).sum
  | [] => rfl
  | x :: l => by rw [List.flatMap_cons, List.length_append, flat_length f l]; rfl
theorem sum_mul (f : α → Nat) (c : Nat) : ∀ l : List α, (l.map f).sum * c = (l.map (fun y => f y * c)).sum
  | [] => by simp
  | x :: l => by simp only [List.map_cons, List.sum_cons, Nat.add_mul, sum_mul f c l]
theorem dp_count : ∀ (n : Nat) (l : List α), l.length = n → (dp n l).length * fac l = fact n
  | 0, l, hl => by
    have : l = [] := List.length_eq_zero_iff.1 hl
    subst this
    rfl
  | n + 1, l, hl => by
    unfold dp
    rw [flat_length, sum_mul, sum_congr' (g := fun x => l.count x * fact n) _ (fun x hx => ?_), ← sum_mul, sum_count, hl]
    · rfl
    · have hxl := (mem_dd x l).1 hx
      rw [List.length_map, ← fac_erase hxl, ← Nat.mul_assoc, dp_count n (l.erase x) (by rw [List.length_erase_of_mem hxl]; omega), Nat.mul_comm]
theorem fac_snoc (l : List α) (x : α) : fac (l ++ [x]) = fac l * (l ++ [x]).count x := by
  have h1 : fac (l ++ [x]) = fac (x :: l) := fac_perm (List.perm_append_comm (l₁ := l) (l₂ := [x]))
  rw [h1, fac_cons, List.count_append, List.count_singleton_self]
theorem fac_pos : ∀ l : List α, 0 < fac l
  | [] => Nat.one_pos
  | x :: l => Nat.mul_pos (fac_pos l) (Nat.succ_pos _)
theorem fac_map {β : Type} [DecidableEq β] {f : α → β} (hf : ∀ a b, f a = f b → a = b) : ∀ l : List α, fac (l.map f) = fac l
  | [] => rfl
  | x :: l => by
    have : (l.map f).count (f x) = l.count x := by
      rw [List.count_eq_countP, List.countP_map, List.count_eq_countP]
      refine List.countP_congr fun y _ => ?_
      simp only [Function.comp_apply, beq_iff_eq]
      exact ⟨fun e => hf _ _ e, fun e => by rw [e]⟩
    rw [List.map_cons, fac_cons, fac_cons, fac_map hf l, this]
/-- How many orders a list has, from its first i elements to i + 1. -/
theorem dp_next {l : List α} {i : Nat} (h : i < l.length) (c : Nat) (hc : c = (l.take (i + 1)).count l[i]) : 0 < c ∧ (dp i (l.take i)).length * (i + 1) / c = (dp (i + 1) (l.take (i + 1))).length := by
  have e : l.take (i + 1) = l.take i ++ [l[i]] := List.take_succ_eq_append_getElem h
  have h1 := dp_count i (l.take i) (by simp; omega)
  have h2 := dp_count (i + 1) (l.take (i + 1)) (by simp; omega)
  rw [e, fac_snoc, ← e, ← hc] at h2
  have hp : 0 < c := by
    rw [hc]
    exact List.count_pos_iff.2 (by rw [e]; exact List.mem_append_right _ (List.mem_singleton.2 rfl))
  refine ⟨hp, ?_⟩
  have h3 : (dp (i + 1) (l.take (i + 1))).length * c * fac (l.take i) = (dp i (l.take i)).length * (i + 1) * fac (l.take i) := by
    rw [Nat.mul_assoc, Nat.mul_comm c, ← e] at *
    rw [show (dp i (l.take i)).length * (i + 1) * fac (l.take i) = (i + 1) * ((dp i (l.take i)).length * fac (l.take i)) by rw [Nat.mul_comm ((dp i (l.take i)).length) (i + 1), Nat.mul_assoc], h1]
    exact h2
  have h4 := Nat.eq_of_mul_eq_mul_right (fac_pos _) h3
  rw [← h4]
  exact Nat.mul_div_cancel _ hp
/-- Two lists with the same elements, each once. -/
theorem nodup_le : ∀ (l m : List α), l.Nodup → (∀ x ∈ l, x ∈ m) → l.length ≤ m.length
  | [], _, _, _ => Nat.zero_le _
  | x :: l, m, hn, h => by
    rw [List.nodup_cons] at hn
    have hx := h x List.mem_cons_self
    have := nodup_le l (m.erase x) hn.2 (fun y hy => (List.mem_erase_of_ne (fun e => hn.1 (by rw [← e]; exact hy))).2 (h y (List.mem_cons_of_mem _ hy)))
    rw [List.length_erase_of_mem hx] at this
    have := List.length_pos_of_mem hx
    rw [List.length_cons]
    omega
theorem nodup_same {l m : List α} (hl : l.Nodup) (hm : m.Nodup) (h : ∀ x, x ∈ l ↔ x ∈ m) : l.length = m.length :=
  Nat.le_antisymm (nodup_le l m hl (fun x hx => (h x).1 hx)) (nodup_le m l hm (fun x hx => (h x).2 hx))
end Go.Proofs.Ytdjddfeokpmfaaa.Perm
