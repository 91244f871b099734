import Derived.Test.YtdjddfeokpmfaaaHOrd
/- All orders of a list: those that are visited by changing places, and how many different ones there are. No program in sight. -/
set_option linter.unusedVariables false
set_option linter.unusedSimpArgs false
namespace Go.Proofs.Ytdjddfeokpmfaaa.Perm
open Go.Proofs.Ytdjddfeokpmfaaa.HOrd
variable {α : Type} [DecidableEq α]
set_option linter.unusedSectionVars false

/-- The orders that are visited. -/
def visits {α : Type} : Nat → List α → List (List α)
  | 0, q => [q]
  | d + 1, q => (List.range (d + 1)).flatMap fun j => visits d (swap q (q.length - (d + 1)) (q.length - (d + 1) + j))
/-! ### how many different ones -/
/-- The different elements. -/
def dd : List α → List α
  | [] => []
  | x :: l => if x ∈ l then dd l else x :: dd l
theorem mem_dd (y : α) : ∀ l : List α, y ∈ dd l ↔ y ∈ l
  | [] => Iff.rfl
  | x :: l => by
    unfold dd
    split
    · rename_i h
      rw [mem_dd y l]
      constructor
      · exact List.mem_cons_of_mem _
      · intro hy
        rcases List.mem_cons.1 hy with rfl | hy
        · exact h
        · exact hy
    · rw [List.mem_cons, List.mem_cons, mem_dd y l]
theorem nodup_dd : ∀ l : List α, (dd l).Nodup
  | [] => List.nodup_nil
  | x :: l => by
    unfold dd
    split
    · exact nodup_dd l
    · rename_i h
      exact List.nodup_cons.2 ⟨fun hx => h ((mem_dd x l).1 hx), nodup_dd l⟩
theorem sum_one {x : α} : ∀ {l : List α}, l.Nodup → x ∈ l → (l.map (fun y => if x = y then 1 else 0)).sum = 1
  | [], _, h => by cases h
  | y :: l, hn, h => by
    rw [List.nodup_cons] at hn
    rw [List.map_cons, List.sum_cons]
    by_cases c : x = y
    · subst c
      have : ∀ l : List α, x ∉ l → (l.map (fun y => if x = y then 1 else 0)).sum = 0 := by
        intro l
        induction l with
        | nil => intro _; rfl
        | cons z t ih =>
          intro hx
          rw [List.map_cons, List.sum_cons, ih (fun h => hx (List.mem_cons_of_mem _ h)), if_neg (fun e => hx (by rw [e]; exact List.mem_cons_self))]
      rw [if_pos rfl, this l hn.1]
    · rw [if_neg c, sum_one hn.2 ((List.mem_cons.1 h).resolve_left c), Nat.zero_add]
theorem sum_add (f g : α → Nat) : ∀ l : List α, (l.map (fun y => f y + g y)).sum = (l.map f).sum + (l.map g).sum
  | [] => rfl
  | x :: l => by simp only [List.map_cons, List.sum_cons, sum_add f g l]; omega
theorem sum_congr' {f g : α → Nat} : ∀ l : List α, (∀ y ∈ l, f y = g y) → (l.map f).sum = (l.map g).sum
  | [], _ => rfl
  | x :: l, h => by rw [List.map_cons, List.map_cons, List.sum_cons, List.sum_cons, h x List.mem_cons_self, sum_congr' l (fun y hy => h y (List.mem_cons_of_mem _ hy))]
theorem sum_count : ∀ l : List α, ((dd l).map (fun y => l.count y)).sum = l.length
  | [] => rfl
  | x :: l => by
    have e : ∀ y, (x :: l).count y = l.count y + (if x = y then 1 else 0) := by
      intro y
      rw [List.count_cons]
      simp
    unfold dd
    split
    · rename_i h
      rw [sum_congr' _ (fun y _ => e y), sum_add, sum_count l, sum_one (nodup_dd l) ((mem_dd x l).2 h)]
      rfl
    · rename_i h
      rw [List.map_cons, List.sum_cons, e x, if_pos rfl, List.count_eq_zero.2 h, sum_congr' (dd l) (fun y hy => show (x :: l).count y = l.count y from by rw [e y, if_neg (fun c => h (by rw [c]; exact (mem_dd y l).1 hy))]; rfl), sum_count l, List.length_cons]
      omega
/-- All different orders. -/
def dp : Nat → List α → List (List α)
  | 0, _ => [[]]
  | n + 1, l => (dd l).flatMap fun x => (dp n (l.erase x)).map (x :: ·)
theorem mem_dp : ∀ (n : Nat) (l p : List α), l.length = n → (p ∈ dp n l ↔ p.Perm l)
  | 0, l, p, hl => by
    have : l = [] := List.length_eq_zero_iff.1 hl
    subst this
    unfold dp
    rw [List.mem_singleton]
    exact ⟨fun h => by rw [h], fun h => List.perm_nil.1 h⟩
  | n + 1, l, p, hl => by
    unfold dp
    rw [List.mem_flatMap]
    constructor
    · rintro ⟨x, hx, hp⟩
      obtain ⟨q, hq, rfl⟩ := List.mem_map.1 hp
      have hxl := (mem_dd x l).1 hx
      have := (mem_dp n (l.erase x) q (by rw [List.length_erase_of_mem hxl]; omega)).1 hq
      exact (this.cons x).trans (List.perm_cons_erase hxl).symm
    · intro hp
      cases p with
      | nil => have := hp.length_eq; simp at this; omega
      | cons x q =>
        have hxl : x ∈ l := hp.mem_iff.1 List.mem_cons_self
        refine ⟨x, (mem_dd x l).2 hxl, List.mem_map.2 ⟨q, (mem_dp n (l.erase x) q (by rw [List.length_erase_of_mem hxl]; omega)).2 ?_, rfl⟩⟩
        exact (hp.trans (List.perm_cons_erase hxl)).cons_inv
/-- The product of the factorials of how often each one stands there. -/
def fac : List α → Nat
  | [] => 1
  | x :: l => fac l * (l.count x + 1)
theorem fac_perm {l m : List α} (h : l.Perm m) : fac l = fac m := by
  induction h with
  | nil => rfl
  | cons x h ih => unfold fac; rw [ih, h.count_eq]
  | swap x y l =>
    unfold fac
    unfold fac
    rw [List.count_cons, List.count_cons]
    by_cases c : x = y
    · subst c; rfl
    · have c' : ¬ y = x := fun e => c e.symm
      simp [c, c']
      rw [Nat.mul_assoc, Nat.mul_assoc, Nat.mul_comm (l.count x + 1)]
  | trans _ _ ih1 ih2 => exact ih1.trans ih2
theorem fac_erase {l : List α} {x : α} (h : x ∈ l) : fac (l.erase x) * l.count x = fac l := by
  have h1 := fac_perm (List.perm_cons_erase h)
  have h2 := (List.perm_cons_erase h).count_eq x
  rw [h1, h2, List.count_cons_self]
  rfl
def fact : Nat → Nat
  | 0 => 1
  | n + 1 => (n + 1) * fact n
theorem flat_length {β : Type} (f : α → List β) : ∀ l : List α, (l.flatMap f).length = (l.map (fun x => (f x).length)).sum
  | [] => rfl
  | x :: l => by rw [List.flatMap_cons, List.length_append, flat_length f l]; rfl
theorem sum_mul (f : α → Nat) (c : Nat) : ∀ l : List α, (l.map f).sum * c = (l.map (fun y => f y * c)).sum
  | [] => by simp
  | x :: l => by simp only [List.map_cons, List.sum_cons, Nat.add_mul, sum_mul f c l]
theorem dp_count : ∀ (n : Nat) (l : List α), l.length = n → (dp n l).length * fac l = fact n
  | 0, l, hl => by
    have : l = [] := List.length_eq_zero_iff.1 hl
    subst this
    rfl
  | n + 1, l, hl => by
    unfold dp
    rw [flat_length, sum_mul, sum_congr' (g := fun x => l.count x * fact n) _ (fun x hx => ?_), ← sum_mul, sum_count, hl]
    · rfl
    · have hxl := (mem_dd x l).1 hx
      rw [List.length_map, ← fac_erase hxl, ← Nat.mul_assoc, dp_count n (l.erase x) (by rw [List.length_erase_of_mem hxl]; omega), Nat.mul_comm]
theorem fac_pos : ∀ l : List α, 0 < fac l
  | [] => Nat.one_pos
  | x :: l => Nat.mul_pos (fac_pos l) (Nat.succ_pos _)
/-- Two lists with the same elements, each once. -/
theorem nodup_le : ∀ (l m : List α), l.Nodup → (∀ x ∈ l, x ∈ m) → l.length ≤ m.length
  | [], _, _, _ => Nat.zero_le _
  | x :: l, m, hn, h => by
    rw [List.nodup_cons] at hn
    have hx := h x List.mem_cons_self
    have := nodup_le l (m.erase x) hn.2 (fun y hy => (List.mem_erase_of_ne (fun e => hn.1 (by rw [← e]; exact hy))).2 (h y (List.mem_cons_of_mem _ hy)))
    rw [List.length_erase_of_mem hx] at this
    have := List.length_pos_of_mem hx
    rw [List.length_cons]
    omega
end Go.Proofs.Ytdjddfeokpmfaaa.Perm
