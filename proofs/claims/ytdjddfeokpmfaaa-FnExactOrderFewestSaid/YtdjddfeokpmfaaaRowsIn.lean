import Derived.Deep.Matrix
import Derived.Test.YtdjddfeokpmfaaaWNEv
import Derived.Test.YtdjddfeokpmfaaaWMore
/- A slice of slices of integers that comes in: read as a list of lists. -/
set_option linter.unusedVariables false
set_option linter.unusedSimpArgs false
namespace Go.Proofs.Ytdjddfeokpmfaaa.RowsIn
open Go.ChangeShapes Go.WideShapes Go.Deep Go.Proofs.YtdjddfeokpmfaaaW.PrintWords
theorem rows_in {H : Type} {enc : TypeId × Value → H} {P : Program} {W : World} {base : Nat} {held : Bool} {t e q : TypeId} {a : Option Addr} {len cap : Nat} {d : DataW H} {ps : List MemPlace}
    (ht : P.underlying t = some (.slice e)) (he : P.underlying e = some (.slice q)) (hq : P.underlying q = some (.int .i64)) (ce : P.cellsOf e = 1) (cq : P.cellsOf q = 1)
    (h : DataW.Trod enc P W base (fun _ => true) held t (.slice a len cap) d ps) :
    ∃ l : List (List Int), l.length = len ∧ Kd.C (Kd.slice q (Kd.int .i64)) W a l.length l ∧ l.length ≤ cap ∧ l.length ≤ 9223372036854775807 ∧ ∀ s ∈ l, s.length ≤ 9223372036854775807 := by
  obtain ⟨fuel, hf⟩ := h
  rcases open_int_rows ht he hq ce cq hf with ⟨hcs, _⟩ | ⟨x, n, c, A, L, C, Z, hcs, _, hl, hm, _, hr⟩
  · simp [Value.cells] at hcs
    obtain ⟨rfl, rfl, rfl⟩ := hcs
    exact ⟨[], rfl, Kd.C_nil _ _, Nat.le_refl _, Nat.zero_le _, fun s hs => by cases hs⟩
  · simp [Value.cells] at hcs
    obtain ⟨rfl, rfl, rfl⟩ := hcs
    unfold maxLen at hm hr
    have len_ : ((List.range len).map fun r => (Z r).take (L r)).length = len := by simp
    refine ⟨(List.range len).map fun r => (Z r).take (L r), len_, ?_, by rw [len_]; exact hl, by rw [len_]; exact Nat.le_trans hl hm, ?_⟩
    · rw [len_]
      refine ⟨len_, Nat.le_trans hl hm, fun hn => ⟨x, rfl, fun j p hj => ?_⟩⟩
      obtain ⟨hjl, hp⟩ := List.getElem?_eq_some_iff.1 hj
      rw [len_] at hjl
      have hp' : p = (Z j).take (L j) := by rw [← hp]; simp
      obtain ⟨c1, c2, c3, c4, c5, c6, c7⟩ := hr j (by omega)
      have lp : p.length = L j := by rw [hp', List.length_take]; omega
      refine ⟨[.slice (A j) (L j) (C j)], rfl, ⟨A j, C j, by rw [lp], by rw [lp]; exact c2, ?_⟩, fun i u hu => ?_⟩
      · refine ⟨rfl, by rw [lp]; exact Nat.le_trans c2 c3, fun hn2 => ?_⟩
        rw [lp] at hn2
        rcases hA : A j with _ | a'
        · have := c6 hA; omega
        · refine ⟨a', rfl, fun i p2 hi => ⟨[.int .i64 p2], rfl, rfl, fun m u hu => ?_⟩⟩
          obtain ⟨hil, hp2⟩ := List.getElem?_eq_some_iff.1 hi
          rw [lp] at hil
          have hcell := (c7 a' hA).2 i (by omega)
          have hz : (Z j).getD i 0 = p2 := by
            rw [← hp2]
            simp only [hp', List.getElem_take]
            rw [List.getD_eq_getElem?_getD, List.getElem?_eq_getElem (by omega), Option.getD_some]
          rw [hz] at hcell
          rcases m with _ | m
          · simp only [List.getElem?_cons_zero, Option.some.injEq] at hu
            rw [← hu]
            have : i * (Kd.int .i64).sz + 0 = i := by
              show i * 1 + 0 = i
              omega
            rw [this]; exact hcell
          · simp at hu
      · rcases i with _ | i
        · simp only [List.getElem?_cons_zero, Option.some.injEq] at hu
          rw [← hu]
          have : j * (Kd.slice q (Kd.int .i64)).sz + 0 = j := by
            show j * 1 + 0 = j
            omega
          rw [this]; exact c1
        · simp at hu
    · intro s hs
      obtain ⟨r, hr', rfl⟩ := List.mem_map.1 hs
      have hrl := List.mem_range.1 hr'
      obtain ⟨_, c2, c3, _⟩ := hr r (by omega)
      rw [List.length_take]
      omega
end Go.Proofs.Ytdjddfeokpmfaaa.RowsIn
