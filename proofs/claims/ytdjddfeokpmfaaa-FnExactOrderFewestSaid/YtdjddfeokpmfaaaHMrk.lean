import Derived.Test.YtdjddfeokpmfaaaHSrt
/- Rows of rows of the call's own: read over whatever keeps their blocks; written row by row. -/
set_option linter.unusedVariables false
set_option linter.unusedSimpArgs false
namespace Go.Proofs.Ytdjddfeokpmfaaa.HMrk
open Go.RowKit Go.Shelf Go.Sort Go.Proofs.YtdjddfeokpmfaaaW.PrintWords Go.Proofs.YtdjddfeokpmfaaaW.PrintMore Go.Proofs.Ytdjddfeokpmfaaa.HRaw Go.Proofs.Ytdjddfeokpmfaaa.HSrt
theorem maxLen_le {n c : Nat} (h : n ≤ c) (hc : c ≤ maxLen) : n ≤ 9223372036854775807 := by unfold maxLen at hc; omega
/-- A row of rows of the call's own, read over whatever keeps its blocks. -/
theorem S_reads {w : World} {e3 e base : Nat} {ok : Nat → Prop} {v : Value} {xs : List (List Int)} (h : Kd.S (Kd.slice e3 (Kd.int .i64)) e w base ok v xs) :
    ∃ A c, v = .slice A xs.length c ∧ xs.length ≤ c ∧ ∀ W : World, (∀ k, ok k → base ≤ k → k < w.heap.size → W.heap[k]? = w.heap[k]?) → Kd.C (Kd.slice e3 (Kd.int .i64)) W A xs.length xs := by
  by_cases hn : 0 < xs.length
  · obtain ⟨g, cap, cur, hs, f, O⟩ := open_S h hn
    have hl := O.hlen
    refine ⟨some ⟨g, 0, none⟩, cap, O.val, O.len, fun W hW => ?_⟩
    have hb : W.heap[g]? = some (.cells cur e (0, 0)) := (hW g O.okg O.ge (Array.getElem?_eq_some_iff.1 O.blk).1).trans O.blk
    refine shut_C hb O.hlen (maxLen_le O.len O.cm) O.hd (fun j x h hx hh => ?_)
    have h2 := Kd.R_move (w1 := W) (Kd.R_bound (O.el j x h hx hh)) (fun k hk => hW k hk.1.1.1 hk.2.1 hk.2.2.1)
    have h3 : (Kd.slice e3 (Kd.int .i64)).M W base _ x [encH h] := ⟨_, rfl, h2⟩
    obtain ⟨A, c, e1, hc, hC⟩ := (Kd.slice e3 (Kd.int .i64)).K_of_M h3
    injection e1 with e1 _
    unfold encH at e1
    injection e1 with e2 e3' e4
    rw [e2, e3', e4]
    exact ⟨rfl, hc, hC⟩
  · obtain ⟨A, c, e1⟩ := Kd.S_slice h
    have h0 : xs = [] := List.eq_nil_of_length_eq_zero (by omega)
    subst h0
    exact ⟨A, c, e1, Nat.zero_le _, fun W _ => ⟨rfl, by decide, fun h => absurd h (by decide)⟩⟩
theorem N_reads {w : World} {e3 e base : Nat} {ok : Nat → Prop} {v : Value} {xs : List (List Int)} (h : Kd.N (Kd.slice e3 (Kd.int .i64)) e w base ok v xs) :
    ∃ A c, v = .slice A xs.length c ∧ xs.length ≤ c ∧ ∀ W : World, (∀ k, ok k → k < w.heap.size → W.heap[k]? = w.heap[k]?) → Kd.C (Kd.slice e3 (Kd.int .i64)) W A xs.length xs := by
  by_cases hn : 0 < xs.length
  · obtain ⟨g, cap, cur, hs, O⟩ := open_N h hn
    refine ⟨some ⟨g, 0, none⟩, cap, O.val, O.len, fun W hW => ?_⟩
    have hb : W.heap[g]? = some (.cells cur e (0, 0)) := (hW g O.okg (Array.getElem?_eq_some_iff.1 O.blk).1).trans O.blk
    refine shut_C hb O.hlen (maxLen_le O.len O.cm) O.hd (fun j x h hx hh => ?_)
    obtain ⟨e1, e2, hF⟩ := O.el j x h hx hh
    exact ⟨e1, e2, Kd.F_now (Kd.F_step (W1 := W) hF (fun k hk hlt => hW k hk.1 hlt))⟩
  · obtain ⟨A, c, e1⟩ := Kd.N_slice h
    have h0 : xs = [] := List.eq_nil_of_length_eq_zero (by omega)
    subst h0
    exact ⟨A, c, e1, Nat.zero_le _, fun W _ => ⟨rfl, by decide, fun h => absurd h (by decide)⟩⟩
/-- One inner row written by a call: all else is as it was. -/
theorem OpenS_wrote {w W : World} {e3 e base : Nat} {ok : Nat → Prop} {v : Value} {xs : List (List Int)} {g cap : Nat} {cur : Array Value} {hs : List Hd} {f : Nat → Nat} (O : OpenS w e3 e base ok v xs g cap cur hs f) {j : Nat} (hj : j < xs.length) (hj' : j < hs.length) {y : List Int} (hy : y.length = xs[j].length)
    (hR : ∃ ok2, Kd.R (Kd.int .i64) e3 W base ok2 (encH hs[j]) y) (hK : ∀ k, k < w.heap.size → ¬ ((ok k ∧ k ≠ g) ∧ f k = j) → W.heap[k]? = w.heap[k]?) :
    OpenS W e3 e base ok v (xs.set j y) g cap cur hs f where
  val := by rw [List.length_set]; exact O.val
  ge := O.ge
  len := by rw [List.length_set]; exact O.len
  cm := O.cm
  blk := by rw [hK g (Array.getElem?_eq_some_iff.1 O.blk).1 (fun h => h.1.2 rfl)]; exact O.blk
  size := O.size
  hlen := by rw [List.length_set]; exact O.hlen
  hd := O.hd
  okg := O.okg
  el := fun i x h hx hh => by
    by_cases hij : j = i
    · subst hij
      rw [List.getElem?_set_self hj] at hx
      injection hx with hx
      subst hx
      rw [List.getElem?_eq_getElem hj'] at hh
      injection hh with hh
      subst hh
      obtain ⟨ok2, hR⟩ := hR
      have h0 := O.el j xs[j] hs[j] (List.getElem?_eq_getElem hj) (List.getElem?_eq_getElem hj')
      exact Kd.R_mono (Kd.R_tight rfl hR) (fun k hk => h0.1 k hk.symm)
    · rw [List.getElem?_set_ne hij] at hx
      have h1 := Kd.R_move (w1 := W) (Kd.R_bound (O.el i x h hx hh)) (fun k hk => hK k hk.2.2.1 (fun h => hij (h.2.symm.trans hk.1.2)))
      exact Kd.R_mono h1 (fun k hk => hk.1)
end Go.Proofs.Ytdjddfeokpmfaaa.HMrk
