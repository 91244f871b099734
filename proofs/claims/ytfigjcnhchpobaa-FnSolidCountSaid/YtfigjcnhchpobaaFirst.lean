import Derived.Test.YtfigjcnhchpobaaBase
import Derived.Test.YtfigjcnhchpobaaSol
/- The first of the names of a solid: the least of its 24 names. No program in sight. -/
set_option linter.unusedVariables false
set_option linter.unusedSimpArgs false
namespace Go.Proofs.Ytfigjcnhchpobaa.First
open Go.Proofs.Ytfigjcnhchpobaa.Sol
/-- Less, place by place. -/
def lx : List Int → List Int → Bool
  | a :: s, b :: t => if a = b then lx s t else decide (a < b)
  | _, _ => false
theorem lx_irrefl (s : List Int) : lx s s = false := by
  induction s with
  | nil => rfl
  | cons a s ih => simp only [lx]; rw [if_pos trivial]; exact ih
theorem lx_trans : ∀ (s t u : List Int), lx s t = true → lx t u = true → lx s u = true
  | a :: s, b :: t, c :: u, h1, h2 => by
    simp only [lx] at h1 h2 ⊢
    by_cases ab : a = b
    · rw [if_pos ab] at h1
      by_cases bc : b = c
      · rw [if_pos bc] at h2
        rw [if_pos (ab.trans bc)]
        exact lx_trans s t u h1 h2
      · rw [if_neg bc] at h2
        rw [if_neg (by rw [ab]; exact bc), ab]
        exact h2
    · rw [if_neg ab] at h1
      have h1 := of_decide_eq_true h1
      by_cases bc : b = c
      · rw [← bc, if_neg ab]; exact decide_eq_true h1
      · rw [if_neg bc] at h2
        have h2 := of_decide_eq_true h2
        rw [if_neg (by omega)]; exact decide_eq_true (by omega)
  | [], _, _, h1, _ => by simp [lx] at h1
  | _ :: _, [], _, h1, _ => by simp [lx] at h1
  | _ :: _, _ :: _, [], _, h2 => by simp [lx] at h2
theorem lx_total : ∀ (s t : List Int), s.length = t.length → lx s t = false → lx t s = false → s = t
  | [], [], _, _, _ => rfl
  | a :: s, b :: t, hl, h1, h2 => by
    simp only [lx] at h1 h2
    by_cases ab : a = b
    · rw [if_pos ab] at h1
      rw [if_pos ab.symm] at h2
      rw [ab, lx_total s t (by simpa using hl) h1 h2]
    · rw [if_neg ab] at h1
      rw [if_neg (fun h => ab h.symm)] at h2
      have h1 := of_decide_eq_false h1
      have h2 := of_decide_eq_false h2
      omega
  | [], _ :: _, hl, _, _ => by simp at hl
  | _ :: _, [], hl, _, _ => by simp at hl
/-- One name tried. -/
def upd (l best x : List Int) : List Int := if lx (named l x) best = true then named l x else best
def firstOf (l : List Int) : List Int := perms.foldl (upd l) l
theorem named_length (l x : List Int) : (named l x).length = 6 := rfl
theorem upd_length {l best x : List Int} (h : best.length = 6) : (upd l best x).length = 6 := by
  unfold upd; split
  · rfl
  · exact h
theorem foldl_keep {P : List Int → Prop} {l : List Int} : ∀ (xs : List (List Int)) (b : List Int), P b → (∀ b x, x ∈ xs → P b → P (upd l b x)) → P (xs.foldl (upd l) b)
  | [], b, hb, _ => hb
  | x :: xs, b, hb, hs => foldl_keep xs (upd l b x) (hs b x (by simp) hb) (fun b y hy hb => hs b y (by simp [hy]) hb)
theorem first_length {l : List Int} (h : l.length = 6) : (firstOf l).length = 6 := foldl_keep (P := fun b => b.length = 6) perms l h (fun b x _ hb => upd_length hb)
theorem first_of {l : List Int} : firstOf l = l ∨ ∃ x ∈ perms, firstOf l = named l x := by
  refine foldl_keep (P := fun b => b = l ∨ ∃ x ∈ perms, b = named l x) perms l (Or.inl rfl) (fun b x hx hb => ?_)
  unfold upd; split
  · exact Or.inr ⟨x, hx, rfl⟩
  · exact hb
theorem not_less {p b c : List Int} (h : lx p b = false) (hc : lx c b = true) : lx p c = false := by
  refine Bool.eq_false_iff.2 fun h2 => ?_
  rw [lx_trans p c b h2 hc] at h
  cases h
theorem upd_le (l b x p : List Int) (h : lx p b = false) : lx p (upd l b x) = false := by
  unfold upd
  by_cases c : lx (named l x) b = true
  · rw [if_pos c]; exact not_less h c
  · rw [if_neg c]; exact h
theorem fold_le (l p : List Int) : ∀ (xs : List (List Int)) (b : List Int), lx p b = false → lx p (xs.foldl (upd l) b) = false
  | [], b, h => h
  | x :: xs, b, h => fold_le l p xs (upd l b x) (upd_le l b x p h)
theorem fold_least (l : List Int) : ∀ (xs : List (List Int)) (b x : List Int), x ∈ xs → lx (named l x) (xs.foldl (upd l) b) = false
  | y :: ys, b, x, hx => by
    rw [List.foldl_cons]
    rcases List.mem_cons.1 hx with rfl | hx
    · refine fold_le l _ ys _ ?_
      unfold upd
      by_cases c : lx (named l x) b = true
      · rw [if_pos c]; exact lx_irrefl _
      · rw [if_neg c]; exact Bool.eq_false_iff.2 c
    · exact fold_least l ys _ x hx
theorem first_least (l : List Int) {x : List Int} (hx : x ∈ perms) : lx (named l x) (firstOf l) = false := fold_least l perms l x hx
/-! ### the names of the names -/
def iota : List Int := [0, 1, 2, 3, 4, 5]
def comp (x y : List Int) : List Int := y.map fun i => x.getD i.toNat 0
def at6 (l : List Int) (i : Int) : Int := l.getD i.toNat 0
theorem named_iota (l : List Int) {x : List Int} (hx : x ∈ perms) : named l x = (named iota x).map (at6 l) := by
  simp only [perms, List.mem_cons, List.not_mem_nil, or_false] at hx
  rcases hx with rfl | rfl | rfl | rfl | rfl | rfl | rfl | rfl | rfl | rfl | rfl | rfl | rfl | rfl | rfl | rfl | rfl | rfl | rfl | rfl | rfl | rfl | rfl | rfl <;> rfl
theorem comp_perm : ∀ x ∈ perms, ∀ y ∈ perms, comp x y ∈ perms := by decide +kernel
theorem comp_iota : ∀ x ∈ perms, ∀ y ∈ perms, (named iota y).map (at6 (named iota x)) = named iota (comp x y) := by decide +kernel
theorem iota_in : ∀ y ∈ perms, ∀ i ∈ named iota y, 0 ≤ i ∧ i < 6 := by decide +kernel
theorem at6_map (g : Int → Int) (l : List Int) (hl : l.length = 6) {i : Int} (h : 0 ≤ i ∧ i < 6) : at6 (l.map g) i = g (at6 l i) := by
  unfold at6
  have hi : i.toNat < l.length := by omega
  rw [List.getD_eq_getElem?_getD, List.getD_eq_getElem?_getD, List.getElem?_map, List.getElem?_eq_getElem hi]; rfl
theorem named_named (l : List Int) {x y : List Int} (hx : x ∈ perms) (hy : y ∈ perms) : named (named l x) y = named l (comp x y) := by
  rw [named_iota (named l x) hy, named_iota l (comp_perm x hx y hy), ← comp_iota x hx y hy, List.map_map]
  refine List.map_congr_left fun i hi => ?_
  rw [named_iota l hx, at6_map _ _ (named_length _ _) (iota_in y hy i hi)]
  rfl
theorem named_id {l : List Int} (h : l.length = 6) : named l [0, 1, 2, 3] = l := by
  match l, h with
  | [a, b, c, d, e, f], _ => rfl
theorem fold_same (m : List Int) : ∀ (xs : List (List Int)), (∀ x ∈ xs, lx (named m x) m = false) → xs.foldl (upd m) m = m
  | [], _ => rfl
  | x :: xs, h => by
    have e : upd m m x = m := by unfold upd; rw [if_neg (by rw [h x (by simp)]; decide)]
    rw [List.foldl_cons, e]
    exact fold_same m xs (fun y hy => h y (by simp [hy]))
theorem first_named {l : List Int} (h : l.length = 6) : ∃ x ∈ perms, firstOf l = named l x := by
  rcases first_of (l := l) with e | e
  · exact ⟨[0, 1, 2, 3], by decide, by rw [e, named_id h]⟩
  · exact e
theorem first_first {l : List Int} (h : l.length = 6) : firstOf (firstOf l) = firstOf l := by
  obtain ⟨x, hx, e⟩ := first_named h
  have key : ∀ y ∈ perms, lx (named (firstOf l) y) (firstOf l) = false := by
    intro y hy
    have : named (firstOf l) y = named l (comp x y) := by rw [e, named_named l hx hy]
    rw [this]
    exact first_least l (comp_perm x hx y hy)
  exact fold_same _ perms key
theorem perm_sum {s t : List Int} (h : s.Perm t) : s.sum = t.sum := by
  induction h with
  | nil => rfl
  | cons a _ ih => rw [List.sum_cons, List.sum_cons, ih]
  | swap a b s => simp only [List.sum_cons]; omega
  | trans _ _ h1 h2 => rw [h1, h2]
theorem iota_perm : ∀ x ∈ perms, (named iota x).isPerm iota = true := by decide +kernel
theorem at6_iota {l : List Int} (h : l.length = 6) : iota.map (at6 l) = l := by
  match l, h with
  | [a, b, c, d, e, f], _ => rfl
theorem named_perm {l : List Int} (h : l.length = 6) {x : List Int} (hx : x ∈ perms) : (named l x).Perm l := by
  have := (List.isPerm_iff.1 (iota_perm x hx)).map (at6 l)
  rw [at6_iota h, ← named_iota l hx] at this
  exact this
theorem named_sum {l : List Int} (h : l.length = 6) {x : List Int} (hx : x ∈ perms) : (named l x).sum = l.sum := perm_sum (named_perm h hx)
theorem first_sum {l : List Int} (h : l.length = 6) : (firstOf l).sum = l.sum := by
  obtain ⟨x, hx, e⟩ := first_named h
  rw [e, named_sum h hx]
theorem named_mem {l : List Int} (h : l.length = 6) {x : List Int} (hx : x ∈ perms) : ∀ z ∈ named l x, z ∈ l := by
  intro z hz
  rw [named_iota l hx] at hz
  obtain ⟨i, hi, rfl⟩ := List.mem_map.1 hz
  have := iota_in x hx i hi
  have hl : i.toNat < l.length := by omega
  unfold at6
  rw [List.getD_eq_getElem?_getD, List.getElem?_eq_getElem hl]
  exact List.getElem_mem _
theorem at_front : ∀ i ∈ iota, ∃ x ∈ perms, (named iota x).getD 0 0 = i := by decide +kernel
theorem first_min {l : List Int} (h : l.length = 6) (i : Nat) (hi : i < 6) : (firstOf l).getD 0 0 ≤ l.getD i 0 := by
  obtain ⟨x, hx, e⟩ := at_front (i : Int) (by
    have : i = 0 ∨ i = 1 ∨ i = 2 ∨ i = 3 ∨ i = 4 ∨ i = 5 := by omega
    rcases this with rfl | rfl | rfl | rfl | rfl | rfl <;> decide)
  have hn := first_least l hx
  have hv : (named l x).getD 0 0 = l.getD i 0 := by
    rw [named_iota l hx]
    have e0 : at6 ((named iota x).map (at6 l)) 0 = at6 l (at6 (named iota x) 0) := at6_map _ _ (named_length _ _) (by omega)
    have e1 : at6 (named iota x) 0 = (i : Int) := e
    rw [e1] at e0
    unfold at6 at e0
    exact e0
  have hf := first_length h
  match hm : named l x, named_length l x, hp : firstOf l, hf with
  | a :: s, _, b :: t, _ =>
    rw [hm, hp] at hn
    rw [hm] at hv
    simp only [List.getD_cons_zero] at hv ⊢
    rw [← hv]
    simp only [lx] at hn
    by_cases c : a = b
    · omega
    · rw [if_neg c] at hn
      have := of_decide_eq_false hn
      omega
/-! ### the loops' shapes -/
def quad (i : Nat) : List Int := [((i / 64 : Nat) : Int), ((i / 16 % 4 : Nat) : Int), ((i / 4 % 4 : Nat) : Int), ((i % 4 : Nat) : Int)]
def from256 (i : Nat) : List (List Int) := ((List.range' i (256 - i)).map quad).filter (fun x => perms.contains x)
theorem from256_zero : from256 0 = perms := by decide +kernel
theorem from256_end : from256 256 = [] := rfl
theorem from256_step {i : Nat} (h : i < 256) : from256 i = if perms.contains (quad i) = true then quad i :: from256 (i + 1) else from256 (i + 1) := by
  unfold from256
  rw [show 256 - i = (256 - (i + 1)) + 1 from by omega, List.range'_succ, List.map_cons, List.filter_cons]
def trio (a b c : Nat) : List Int := [(a : Int), (b : Int), (c : Int), 6 - (a : Int) - (b : Int) - (c : Int)]
def skip (a b c : Nat) : Bool := a == b || (a == c || b == c)
def T2 (a b c : Nat) : List (List Int) := ((List.range' c (4 - c)).filter (fun c => !skip a b c)).map (trio a b)
def T1 (a b : Nat) : List (List Int) := (List.range' b (4 - b)).flatMap fun b => T2 a b 0
def T0 (a : Nat) : List (List Int) := (List.range' a (4 - a)).flatMap fun a => T1 a 0
theorem T0_zero : T0 0 = perms := by decide +kernel
theorem T2_step {a b c : Nat} (h : c < 4) : T2 a b c = if skip a b c = true then T2 a b (c + 1) else trio a b c :: T2 a b (c + 1) := by
  unfold T2
  rw [show 4 - c = (4 - (c + 1)) + 1 from by omega, List.range'_succ, List.filter_cons]
  cases skip a b c <;> simp
theorem T2_end (a b : Nat) : T2 a b 4 = [] := rfl
theorem T1_step {a b : Nat} (h : b < 4) : T1 a b = T2 a b 0 ++ T1 a (b + 1) := by
  unfold T1
  rw [show 4 - b = (4 - (b + 1)) + 1 from by omega, List.range'_succ, List.flatMap_cons]
theorem T1_end (a : Nat) : T1 a 4 = [] := rfl
theorem T0_step {a : Nat} (h : a < 4) : T0 a = T1 a 0 ++ T0 (a + 1) := by
  unfold T0
  rw [show 4 - a = (4 - (a + 1)) + 1 from by omega, List.range'_succ, List.flatMap_cons]
theorem T0_end : T0 4 = [] := rfl
theorem trio_perm' : ∀ a ∈ List.range 4, ∀ b ∈ List.range 4, ∀ c ∈ List.range 4, (skip a b c || perms.contains (trio a b c)) = true := by decide +kernel
theorem trio_perm {a b c : Nat} (ha : a < 4) (hb : b < 4) (hc : c < 4) (h : skip a b c = false) : trio a b c ∈ perms := by
  have := trio_perm' a (List.mem_range.2 ha) b (List.mem_range.2 hb) c (List.mem_range.2 hc)
  rw [h, Bool.false_or] at this
  exact List.contains_iff_mem.1 this
end Go.Proofs.Ytfigjcnhchpobaa.First
