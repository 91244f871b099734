import Derived.Test.YtnpaaaponjcmkaaBase
/- All ways to part the places 0 to n - 1 into threes, listed in two ways: by part lists, and by sets of places left over. No program in sight. -/
set_option linter.unusedVariables false
set_option linter.unusedSimpArgs false
namespace Go.Proofs.Ytnpaaaponjcmkaa.Thr
/-- The part lists that begin with l and have m threes begun; d places are left; all n places are in threes. -/
def leaves (n : Nat) : Nat → List Nat → Nat → List (List Nat × Nat)
  | 0, l, m => [(l, m)]
  | d + 1, l, m => (List.range' 0 (m + 1)).flatMap fun κ => bif Nat.beq (l.count κ) 3 then [] else bif Nat.ble (3 * (bif Nat.beq κ m then m + 1 else m)) n then leaves n d (l ++ [κ]) (bif Nat.beq κ m then m + 1 else m) else []
def idx (l : List Nat) (κ : Nat) : List Nat := (List.range l.length).filter (fun i => Nat.beq (l.getD i 0) κ)
def blocks (p : List Nat × Nat) : List (List Nat) := (List.range' 0 p.2).map (idx p.1)
def low (M : Nat) : Nat → Nat → Nat
  | 0, i => i
  | f + 1, i => bif M.testBit i then i else low M f (i + 1)
def enum (n : Nat) : Nat → Nat → List (List (List Nat))
  | 0, M => bif Nat.beq M 0 then [[]] else []
  | F + 1, M => bif Nat.beq M 0 then [[]] else (List.range' (low M n 0 + 1) (n - (low M n 0 + 1))).flatMap fun j => (List.range' (j + 1) (n - (j + 1))).flatMap fun k => bif M.testBit j && M.testBit k then (enum n F (M - (2 ^ low M n 0 + 2 ^ j + 2 ^ k))).map ([low M n 0, j, k] :: ·) else []
def all3 (b : List (List Nat)) : Bool := b.all fun t => Nat.beq t.length 3
def imp (n : Nat) : List (List (List Nat)) := ((leaves n n [] 0).map blocks).filter all3
set_option maxRecDepth 100000 in
theorem p9 : (imp 9).isPerm (enum 9 511 511) = true := by decide +kernel
set_option maxRecDepth 100000 in
theorem p8 : (imp 8).isPerm (enum 8 255 255) = true := by decide +kernel
set_option maxRecDepth 100000 in
theorem p7 : (imp 7).isPerm (enum 7 127 127) = true := by decide +kernel
theorem p6 : (imp 6).isPerm (enum 6 63 63) = true := by decide +kernel
theorem p5 : (imp 5).isPerm (enum 5 31 31) = true := by decide +kernel
theorem p4 : (imp 4).isPerm (enum 4 15 15) = true := by decide +kernel
theorem p3 : (imp 3).isPerm (enum 3 7 7) = true := by decide +kernel
theorem p2 : (imp 2).isPerm (enum 2 3 3) = true := by decide +kernel
theorem p1 : (imp 1).isPerm (enum 1 1 1) = true := by decide +kernel
theorem same {n : Nat} (h : 1 ≤ n ∧ n ≤ 9) : (imp n).Perm (enum n (2 ^ n - 1) (2 ^ n - 1)) := by
  refine List.isPerm_iff.1 ?_
  have : n = 1 ∨ n = 2 ∨ n = 3 ∨ n = 4 ∨ n = 5 ∨ n = 6 ∨ n = 7 ∨ n = 8 ∨ n = 9 := by omega
  rcases this with rfl | rfl | rfl | rfl | rfl | rfl | rfl | rfl | rfl
  · exact p1
  · exact p2
  · exact p3
  · exact p4
  · exact p5
  · exact p6
  · exact p7
  · exact p8
  · exact p9
/-! ### sets of places -/
def tr (P : Nat → Nat → Nat → Bool) : Bool := (List.range 9).all fun i => (List.range 9).all fun j => (List.range 9).all fun k => !(Nat.blt i j && Nat.blt j k) || P i j k
theorem tr_at {P : Nat → Nat → Nat → Bool} (h : tr P = true) {i j k : Nat} (hij : i < j) (hjk : j < k) (hk : k < 9) : P i j k = true := by
  have h1 := List.all_eq_true.1 h i (List.mem_range.2 (by omega))
  have h2 := List.all_eq_true.1 h1 j (List.mem_range.2 (by omega))
  have h3 := List.all_eq_true.1 h2 k (List.mem_range.2 hk)
  rw [show Nat.blt i j = true from Nat.ble_eq_true_of_le hij, show Nat.blt j k = true from Nat.ble_eq_true_of_le hjk] at h3
  simpa using h3
theorem c1 : (tr fun i j k => (List.range 512).all fun M => !M.testBit i || (Nat.beq (M &&& (2 ^ i + 2 ^ j + 2 ^ k)) (2 ^ i + 2 ^ j + 2 ^ k) == (M.testBit j && M.testBit k))) = true := by decide +kernel
theorem c2 : (tr fun i j k => (List.range 512).all fun M => !(M.testBit i && M.testBit j && M.testBit k) || (Nat.beq (M &&& (18446744073709551615 - (2 ^ i + 2 ^ j + 2 ^ k))) (M - (2 ^ i + 2 ^ j + 2 ^ k)))) = true := by decide +kernel
theorem c3 : (tr fun i j k => Nat.beq ((2 ^ i ||| 2 ^ j) ||| 2 ^ k) (2 ^ i + 2 ^ j + 2 ^ k)) = true := by decide +kernel
theorem c4 : ((List.range 512).all fun M => (List.range 9).all fun i => M.testBit i == Nat.beq (M / 2 ^ i % 2) 1) = true := by decide +kernel
theorem mask_in {M i j k : Nat} (hM : M < 512) (hij : i < j) (hjk : j < k) (hk : k < 9) (hi : M.testBit i = true) : (M &&& (2 ^ i + 2 ^ j + 2 ^ k) = 2 ^ i + 2 ^ j + 2 ^ k) ↔ (M.testBit j && M.testBit k) = true := by
  have h := List.all_eq_true.1 (tr_at c1 hij hjk hk) M (List.mem_range.2 hM)
  rw [hi] at h
  simp only [Bool.not_true, Bool.false_or, beq_iff_eq] at h
  rw [← h]
  exact ⟨fun e => by rw [e]; exact Nat.beq_refl _, Nat.eq_of_beq_eq_true⟩
theorem mask_out {M i j k : Nat} (hM : M < 512) (hij : i < j) (hjk : j < k) (hk : k < 9) (hi : M.testBit i = true) (hjk2 : (M.testBit j && M.testBit k) = true) : M &&& (18446744073709551615 - (2 ^ i + 2 ^ j + 2 ^ k)) = M - (2 ^ i + 2 ^ j + 2 ^ k) := by
  have h := List.all_eq_true.1 (tr_at c2 hij hjk hk) M (List.mem_range.2 hM)
  rw [hi, Bool.true_and, hjk2] at h
  simp only [Bool.not_true, Bool.false_or] at h
  exact Nat.eq_of_beq_eq_true h
theorem mask_or {i j k : Nat} (hij : i < j) (hjk : j < k) (hk : k < 9) : (2 ^ i ||| 2 ^ j) ||| 2 ^ k = 2 ^ i + 2 ^ j + 2 ^ k := Nat.eq_of_beq_eq_true (tr_at c3 hij hjk hk)
theorem bit_at {M i : Nat} (hM : M < 512) (hi : i < 9) : M.testBit i = true ↔ M / 2 ^ i % 2 = 1 := by
  have h := List.all_eq_true.1 (List.all_eq_true.1 c4 M (List.mem_range.2 hM)) i (List.mem_range.2 hi)
  simp only [beq_iff_eq] at h
  rw [h]
  exact ⟨Nat.eq_of_beq_eq_true, fun e => by rw [e]; rfl⟩
/-! ### what is told of -/
def okT (T : Nat → Nat → Nat → Bool) : List Nat → Bool
  | [i, j, k] => T i j k
  | _ => false
def fB (T : Nat → Nat → Nat → Bool) (b : List (List Nat)) : Bool := b.all (okT T)
theorem okT_three {T : Nat → Nat → Nat → Bool} {t : List Nat} (h : okT T t = true) : t.length = 3 := by
  match t, h with
  | [_, _, _], _ => rfl
theorem fB_three {T : Nat → Nat → Nat → Bool} {b : List (List Nat)} (h : fB T b = true) : all3 b = true := by
  unfold fB at h
  unfold all3
  rw [List.all_eq_true] at *
  intro t ht
  rw [okT_three (h t ht)]
  rfl
theorem ways {T : Nat → Nat → Nat → Bool} {n : Nat} (h : 1 ≤ n ∧ n ≤ 9) : ((leaves n n [] 0).map blocks).countP (fB T) = (enum n (2 ^ n - 1) (2 ^ n - 1)).countP (fB T) := by
  rw [← (same h).countP_eq]
  unfold imp
  rw [List.countP_filter]
  refine List.countP_congr (fun b _ => ?_)
  constructor
  · intro hb; rw [hb, fB_three hb]; rfl
  · intro hb; rw [Bool.and_eq_true] at hb; exact hb.1
/-- Too many threes for the places. -/
theorem count_le (g : Nat → Int) (X : List Nat) : ∀ m : Nat, (∀ κ, κ < m → (X.filter (fun i => g i == (κ : Int))).length = 3) → 3 * m ≤ X.countP (fun i => decide (0 ≤ g i ∧ g i < (m : Int)))
  | 0, _ => by omega
  | m + 1, h => by
    have h1 := count_le g X m (fun κ hk => h κ (by omega))
    have h2 := h m (by omega)
    rw [← List.countP_eq_length_filter] at h2
    have key : ∀ Y : List Nat, Y.countP (fun i => decide (0 ≤ g i ∧ g i < ((m + 1 : Nat) : Int))) = Y.countP (fun i => decide (0 ≤ g i ∧ g i < (m : Int))) + Y.countP (fun i => g i == (m : Int)) := by
      intro Y
      induction Y with
      | nil => rfl
      | cons y Y ih =>
        simp only [List.countP_cons, ih]
        by_cases c : g y = (m : Int)
        · rw [if_pos (by simp; omega), if_neg (by simp; omega), if_pos (by simpa using c)]; omega
        · by_cases e : 0 ≤ g y ∧ g y < (m : Int)
          · rw [if_pos (by simp; omega), if_pos (by simpa using e), if_neg (by simpa using c)]; omega
          · rw [if_neg (by simp; omega), if_neg (by simpa using e), if_neg (by simpa using c)]; omega
    rw [key]
    omega
theorem too_many {l : List Int} {m : Nat} (h : ∀ κ, κ < m → ((List.range l.length).filter (fun i => l.getD i 0 == (κ : Int))).length = 3) : 3 * m ≤ l.length := by
  have h1 := count_le (fun i => l.getD i 0) (List.range l.length) m h
  have h2 := List.countP_le_length (p := fun i => decide (0 ≤ l.getD i 0 ∧ l.getD i 0 < (m : Int))) (l := List.range l.length)
  rw [List.length_range] at h2
  omega
end Go.Proofs.Ytnpaaaponjcmkaa.Thr
