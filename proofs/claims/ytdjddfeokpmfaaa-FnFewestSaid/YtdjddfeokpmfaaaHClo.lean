import Derived.Test.YtdjddfeokpmfaaaWMore
import Derived.OneCell
import Derived.Laws.Rows
import Derived.Laws.EntriesVeiled
/- Blocks of a function value's variables: a cell that is stored leaves the others; a row of whole numbers read out of its block (no program's function in sight). -/
set_option linter.unusedVariables false
set_option linter.unusedSimpArgs false
namespace Go.Proofs.Ytdjddfeokpmfaaa.HClo
open Go.RowKit Go.Proofs.YtdjddfeokpmfaaaW.PrintWords Go.Proofs.YtdjddfeokpmfaaaW.PrintMore

/-- A block of whole numbers. -/
abbrev nums (xs : List Int) : Array Value := (xs.map (Value.int .i64)).toArray
theorem nums_set (xs : List Int) (i : Nat) (x : Int) : (nums xs).setIfInBounds i (.int .i64 x) = nums (xs.set i x) := by
  apply Array.ext'
  simp [nums, List.map_set]
theorem nums_C {W : World} {g : Nat} {e : TypeId} {xs : List Int} (hb : W.heap[g]? = some (.cells (nums xs) e (0, 0))) (hm : xs.length ≤ 9223372036854775807) : Kd.C (Kd.int .i64) W (some ⟨g, 0, none⟩) xs.length xs := by
  refine ⟨rfl, hm, fun _ => ⟨_, rfl, fun j x hx => ?_⟩⟩
  have hj : j < xs.length := (List.getElem?_eq_some_iff.1 hx).1
  refine ⟨[.int .i64 x], rfl, rfl, ?_⟩
  intro i u hu
  have hsz : (Kd.int .i64).sz = 1 := rfl
  rw [hsz, Nat.mul_one]
  match i with
  | 0 =>
    injection hu with hu
    subst hu
    have ea : Addr.add ⟨g, 0, none⟩ (j + 0) = ⟨g, j, none⟩ := by
      unfold Addr.add
      by_cases h0 : j = 0
      · subst h0; rfl
      · rw [if_neg (by omega)]; simp
    rw [ea]
    unfold World.cell?
    simp only [hb]
    simp [nums, hx]
  | i + 1 => simp at hu
theorem kind_C {q : IntKind} {W : World} {g : Nat} {e : TypeId} {xs : List Int} (hb : W.heap[g]? = some (.cells (xs.map (Value.int q)).toArray e (0, 0))) (hm : xs.length ≤ 9223372036854775807) : Kd.C (Kd.int q) W (some ⟨g, 0, none⟩) xs.length xs := by
  refine ⟨rfl, hm, fun _ => ⟨_, rfl, fun j x hx => ?_⟩⟩
  have hj : j < xs.length := (List.getElem?_eq_some_iff.1 hx).1
  refine ⟨[.int q x], rfl, rfl, ?_⟩
  intro i u hu
  have hsz : (Kd.int q).sz = 1 := rfl
  rw [hsz, Nat.mul_one]
  match i with
  | 0 =>
    injection hu with hu
    subst hu
    have ea : Addr.add ⟨g, 0, none⟩ (j + 0) = ⟨g, j, none⟩ := by
      unfold Addr.add
      by_cases h0 : j = 0
      · subst h0; rfl
      · rw [if_neg (by omega)]; simp
    rw [ea]
    unfold World.cell?
    simp only [hb]
    simp [hx]
  | i + 1 => simp at hu
theorem nums_V {W : World} {g base c : Nat} {e e' : TypeId} {xs : List Int} (hb : W.heap[g]? = some (.cells (nums xs) e (0, 0))) (hm : xs.length ≤ 9223372036854775807) (hc : xs.length ≤ c) : Kd.V (Kd.int .i64) e' W base (fun k => k = g) (.slice (some ⟨g, 0, none⟩) xs.length c) xs := by
  refine ⟨some ⟨g, 0, none⟩, c, rfl, hc, fun W' hW => ?_⟩
  have hlt : g < W.heap.size := lt_of_block hb
  exact nums_C ((hW g rfl hlt).trans hb) hm
theorem nums_cell {W : World} {g i : Nat} {e : TypeId} {xs : List Int} (hb : W.heap[g]? = some (.cells (nums xs) e (0, 0))) (hi : i < xs.length) : W.cell? ⟨g, i, none⟩ = some (.int .i64 (xs.getD i 0)) := by
  unfold World.cell?
  simp only [hb]
  simp [nums, hi]
theorem alloc_new (w : World) (o : Obj) (k : Nat) (h : k = w.heap.size) : (w.alloc o).heap[k]? = some o := by
  subst h
  show (w.heap.push o)[w.heap.size]? = some o
  simp
theorem alloc_old {w : World} {o : Obj} {k : Nat} {x : Option Obj} (hk : k < w.heap.size) (h : w.heap[k]? = x) : (w.alloc o).heap[k]? = x := (Below.heap_alloc w o k hk).trans h
end Go.Proofs.Ytdjddfeokpmfaaa.HClo
