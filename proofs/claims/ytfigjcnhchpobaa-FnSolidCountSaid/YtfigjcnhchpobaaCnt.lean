import Derived.Test.YtfigjcnhchpobaaBase
import Derived.Test.YtfigjcnhchpobaaSol
import Derived.Test.YtfigjcnhchpobaaFace
import Derived.Test.YtfigjcnhchpobaaStand
import Derived.Test.YtfigjcnhchpobaaFirst
/- How many lists of d lengths from 1 to n: counted with the first one slowest, or fastest. No program in sight. -/
set_option linter.unusedVariables false
set_option linter.unusedSimpArgs false
namespace Go.Proofs.Ytfigjcnhchpobaa.Cnt
open Go.RowKit Go.Proofs.YtfigjcnhchpobaaW.PrintWords Go.Proofs.YtfigjcnhchpobaaW.PrintMore Go.Proofs.Ytfigjcnhchpobaa.Sol Go.Proofs.Ytfigjcnhchpobaa.Base Go.Proofs.Ytfigjcnhchpobaa.Stand Go.Proofs.Ytfigjcnhchpobaa.First
def su : Nat → (Nat → Int) → Int
  | 0, _ => 0
  | n + 1, f => su n f + f n
theorem su_succ (f : Nat → Int) (n : Nat) : su (n + 1) f = su n f + f n := rfl
theorem su_congr {f g : Nat → Int} : ∀ n, (∀ i, i < n → f i = g i) → su n f = su n g
  | 0, _ => rfl
  | n + 1, h => by
    rw [su_succ, su_succ, su_congr n (fun i hi => h i (by omega)), h n (by omega)]
theorem su_front (f : Nat → Int) : ∀ n, su (n + 1) f = f 0 + su n (fun i => f (i + 1))
  | 0 => by simp [su]
  | n + 1 => by
    rw [su_succ, su_front f n, su_succ]
    omega
theorem su_add (f : Nat → Int) (a : Nat) : ∀ b, su (a + b) f = su a f + su b (fun i => f (a + i))
  | 0 => by simp [su]
  | b + 1 => by
    rw [show a + (b + 1) = (a + b) + 1 from rfl, su_succ, su_add f a b, su_succ]
    omega
theorem su_plus (f g : Nat → Int) : ∀ n, su n (fun i => f i + g i) = su n f + su n g
  | 0 => rfl
  | n + 1 => by
    rw [su_succ, su_plus f g n, su_succ, su_succ]
    show su n f + su n g + (f n + g n) = _
    omega
theorem su_zero : ∀ n, su n (fun _ => 0) = 0
  | 0 => rfl
  | n + 1 => by rw [su_succ, su_zero n]; rfl
theorem su_swap (f : Nat → Nat → Int) (m : Nat) : ∀ n, su n (fun i => su m (fun j => f i j)) = su m (fun j => su n (fun i => f i j))
  | 0 => (su_zero m).symm
  | n + 1 => by
    rw [su_succ, su_swap f m n]
    exact (su_plus _ _ m).symm
theorem su_mul (f : Nat → Int) (n : Nat) : ∀ m, su (n * m) f = su m (fun q => su n (fun r => f (n * q + r)))
  | 0 => rfl
  | m + 1 => by
    rw [Nat.mul_succ, su_add, su_mul f n m]
    rfl
theorem su_nonneg {f : Nat → Int} : ∀ n, (∀ i, i < n → 0 ≤ f i) → 0 ≤ su n f
  | 0, _ => Int.le_refl _
  | n + 1, h => by
    have := su_nonneg n (fun i hi => h i (by omega))
    have := h n (by omega)
    rw [su_succ]
    omega
theorem su_le {f : Nat → Int} : ∀ n, (∀ i, i < n → f i ≤ 1) → su n f ≤ n
  | 0, _ => Int.le_refl _
  | n + 1, h => by
    have := su_le n (fun i hi => h i (by omega))
    have := h n (by omega)
    rw [su_succ]
    omega
def cnt (n : Nat) : Nat → (List Int → Int) → Int
  | 0, h => h []
  | d + 1, h => su n (fun i => cnt n d (fun t => h (((i : Int) + 1) :: t)))
def dg (n : Nat) : Nat → Nat → List Int
  | 0, _ => []
  | d + 1, x => (1 + ((x % n : Nat) : Int)) :: dg n d (x / n)
theorem cnt_congr {n : Nat} : ∀ d {f g : List Int → Int}, (∀ t, f t = g t) → cnt n d f = cnt n d g
  | 0, _, _, h => h []
  | d + 1, _, _, h => su_congr n (fun i _ => cnt_congr d (fun t => h _))
theorem cnt_digits {n : Nat} (hn : 0 < n) : ∀ d (h : List Int → Int), cnt n d h = su (n ^ d) (fun x => h (dg n d x))
  | 0, h => by simp [cnt, su, dg]
  | d + 1, h => by
    have e : su (n ^ (d + 1)) (fun x => h (dg n (d + 1) x)) = su (n ^ d) (fun q => su n (fun r => h (((r : Int) + 1) :: dg n d q))) := by
      rw [Nat.pow_succ, Nat.mul_comm, su_mul]
      refine su_congr _ (fun q _ => su_congr _ (fun r hr => ?_))
      show h ((1 + (((n * q + r) % n : Nat) : Int)) :: dg n d ((n * q + r) / n)) = _
      rw [Nat.mul_add_mod, Nat.mod_eq_of_lt hr, Nat.mul_add_div hn, Nat.div_eq_of_lt hr, Nat.add_zero, Int.add_comm]
    rw [e, su_swap]
    exact su_congr n (fun i _ => cnt_digits hn d _)
def own (s : List Int) : Bool := standsB s && (firstOf s == s)
def own1 (s : List Int) : Int := if own s = true then 1 else 0
theorem own1_01 (s : List Int) : 0 ≤ own1 s ∧ own1 s ≤ 1 := by
  unfold own1
  split <;> decide
theorem own_less {s : List Int} (h : s.length = 6) : (firstOf s == s) = !lx (firstOf s) s := by
  have h1 : lx s (firstOf s) = false := by
    have := first_least s (x := [0, 1, 2, 3]) (by decide)
    rwa [named_id h] at this
  cases c : lx (firstOf s) s with
  | true =>
    have : firstOf s ≠ s := fun e => by rw [e, lx_irrefl] at c; cases c
    simpa using this
  | false =>
    have := lx_total _ _ (by rw [first_length h, h]) c h1
    simpa using this
theorem solB_of {s : List Int} (h : s.length = 6) (hb : ∀ x ∈ s, 1 ≤ x ∧ x ≤ 3) : solB s = true := by
  unfold solB
  rw [Bool.and_eq_true]
  refine ⟨List.all_eq_true.2 fun x hx => ?_, by rw [h]; rfl⟩
  have := hb x hx
  unfold inB
  simp
  omega
theorem dg_len (n : Nat) : ∀ d x, (dg n d x).length = d
  | 0, _ => rfl
  | d + 1, x => by unfold dg; rw [List.length_cons, dg_len n d]
theorem dg_in {n : Nat} (hn : 0 < n) (h3 : n ≤ 3) : ∀ d x, ∀ y ∈ dg n d x, 1 ≤ y ∧ y ≤ 3
  | 0, _, y, hy => by simp [dg] at hy
  | d + 1, x, y, hy => by
    unfold dg at hy
    rcases List.mem_cons.1 hy with rfl | hy
    · have := Nat.mod_lt x hn
      omega
    · exact dg_in hn h3 d _ y hy
def countA (n : Int) : Int × Bool := if 1 ≤ n ∧ n ≤ 3 then (cnt n.toNat 6 own1, true) else (0, false)
theorem cnt1 : cnt 1 6 own1 = 1 := by decide +kernel
theorem cnt2 : cnt 2 6 own1 = 5 := by decide +kernel
theorem cnt3 : cnt 3 6 own1 = 21 := by decide +kernel
theorem countA_cases (n : Int) : (countA n).2 = false ∨ (n = 1 ∧ countA n = (1, true)) ∨ (n = 2 ∧ countA n = (5, true)) ∨ (n = 3 ∧ countA n = (21, true)) := by
  by_cases h : 1 ≤ n ∧ n ≤ 3
  · rcases (show n = 1 ∨ n = 2 ∨ n = 3 by omega) with rfl | rfl | rfl
    · exact .inr (.inl ⟨rfl, by unfold countA; rw [if_pos (by decide)]; exact congrArg (·, true) cnt1⟩)
    · exact .inr (.inr (.inl ⟨rfl, by unfold countA; rw [if_pos (by decide)]; exact congrArg (·, true) cnt2⟩))
    · exact .inr (.inr (.inr ⟨rfl, by unfold countA; rw [if_pos (by decide)]; exact congrArg (·, true) cnt3⟩))
  · exact .inl (by unfold countA; rw [if_neg h])
end Go.Proofs.Ytfigjcnhchpobaa.Cnt
