import Derived.Test.YtdjddfeokpmfaaaWFoot
import Derived.Test.YtdjddfeokpmfaaaHRaw
import Derived.Test.YtdjddfeokpmfaaaHClo
import Derived.Maps.OwnOps
import Derived.Maps.OwnSet
import Derived.Maps.Views
/- A row of rows whose headers change places, in the order of a function that calls itself: what is visited, and what lies where (no program's function in sight). -/
set_option linter.unusedVariables false
set_option linter.unusedSimpArgs false
namespace Go.Proofs.Ytdjddfeokpmfaaa.HOrd
open Go.RowKit Go.Proofs.YtdjddfeokpmfaaaW.PrintWords Go.Proofs.YtdjddfeokpmfaaaW.PrintMore Go.Proofs.Ytdjddfeokpmfaaa.HRaw Go.Proofs.Ytdjddfeokpmfaaa.HClo

/-- Two places changed. -/
def swap {α : Type} (l : List α) (a i : Nat) : List α := match l[a]?, l[i]? with
  | some x, some y => (l.set a y).set i x
  | _, _ => l
theorem swap_length {α : Type} (l : List α) (a i : Nat) : (swap l a i).length = l.length := by
  unfold swap
  split <;> simp
theorem swap_at {α : Type} {l : List α} {a i : Nat} (ha : a < l.length) (hi : i < l.length) : swap l a i = (l.set a l[i]).set i l[a] := by
  unfold swap
  rw [List.getElem?_eq_getElem ha, List.getElem?_eq_getElem hi]
/-- r rounds, one behind the other. -/
def row {σ : Type} (F : Nat → σ → Option σ) : Nat → Nat → σ → Option σ
  | 0, _, s => some s
  | r + 1, i, s => (F i s).bind fun s' => row F r (i + 1) s'
/-- All orders of the last d places, each told to step. -/
def vis {σ : Type} (step : σ → List (List Int) → Option σ) : Nat → List (List Int) → σ → Option σ
  | 0, q, s => step s q
  | d + 1, q, s => row (fun i s => vis step d (swap q (q.length - (d + 1)) i) s) (d + 1) (q.length - (d + 1)) s
/-- A header with the row that is read behind it. -/
abbrev Hr := Hd × List Int
abbrev pt (b : Nat) : Value := .pointer (some ⟨b, 0, none⟩)
/-- The blocks of a function value that puts a row of rows into all orders: E tell, g the headers, Q the slice, Q + 1 the function itself. -/
structure St (tq tt te : Nat) (me : Value) (tellv : Value) (w2 : World) (E Q g n cap : Nat) (ok : Nat → Prop) (W : World) (zs : List Hr) : Prop where
  be : W.heap[E]? = some (.cells #[tellv] tt (0, 0))
  bq : W.heap[Q]? = some (.cells #[.slice (some ⟨g, 0, none⟩) n cap] tq (0, 0))
  bt : W.heap[Q + 1]? = some (.cells #[me] te (0, 0))
  bg : ∃ cur : Array Value, W.heap[g]? = some (.cells cur 35 (0, 0)) ∧ cur.size = cap ∧ ∀ (j : Nat) (z : Hr), zs[j]? = some z → cur[j]? = some (encH z.1)
  len : zs.length = n
  cp : n ≤ cap
  cm : cap ≤ maxLen
  rows : ∀ z ∈ zs, z.1.2.1 = z.2.length ∧ z.2.length ≤ z.1.2.2 ∧ Kd.F (Kd.int .i64) w2 (fun k => ok k ∧ k ≠ g) z.1.1 z.2.length z.2
  kept : ∀ k, ok k → k ≠ g → k < w2.heap.size → W.heap[k]? = w2.heap[k]?
  eg : E < g
  gq : g < Q
namespace St
variable {tq tt te : Nat} {me tellv : Value} {w2 W W' : World} {E Q g n cap : Nat} {ok J : Nat → Prop} {zs : List Hr}
theorem lt (h : St tq tt te me tellv w2 E Q g n cap ok W zs) : Q + 2 ≤ W.heap.size := lt_of_block h.bt
theorem step (h : St tq tt te me tellv w2 E Q g n cap ok W zs) (hsz : w2.heap.size ≤ W.heap.size) (hJ : ∀ k, J k → ¬ ok k ∧ k < E) (hk : ∀ k, k < W.heap.size → ¬ J k → W'.heap[k]? = W.heap[k]?) : St tq tt te me tellv w2 E Q g n cap ok W' zs := by
  have hl := h.lt
  have h1 := h.eg
  have h2 := h.gq
  have nJ : ∀ k, E ≤ k → ¬ J k := fun k hk hj => by have := (hJ k hj).2; omega
  obtain ⟨cur, b1, b2, b3⟩ := h.bg
  exact ⟨(hk _ (by omega) (nJ _ (by omega))).trans h.be, (hk _ (by omega) (nJ _ (by omega))).trans h.bq, (hk _ (by omega) (nJ _ (by omega))).trans h.bt, ⟨cur, (hk _ (by omega) (nJ _ (by omega))).trans b1, b2, b3⟩, h.len, h.cp, h.cm, h.rows,
    fun k ho hg hlt => (hk k (by omega) (fun hj => (hJ k hj).1 ho)).trans (h.kept k ho hg hlt), h1, h2⟩
theorem swap (h : St tq tt te me tellv w2 E Q g n cap ok W zs) (hok : ∀ k, ok k → k ≠ E) {a i : Nat} (ha : a < zs.length) (hi : i < zs.length) :
    St tq tt te me tellv w2 E Q g n cap ok ((W.setCell ⟨g, a, none⟩ (encH zs[i].1)).setCell ⟨g, i, none⟩ (encH zs[a].1)) (HOrd.swap zs a i) := by
  have h1 := h.eg
  have h2 := h.gq
  have hne : ∀ k, k ≠ g → ((W.setCell ⟨g, a, none⟩ (encH zs[i].1)).setCell ⟨g, i, none⟩ (encH zs[a].1)).heap[k]? = W.heap[k]? := fun k hk =>
    (heap_setCell_other _ _ _ _ hk).trans (heap_setCell_other _ _ _ _ hk)
  obtain ⟨cur, b1, b2, b3⟩ := h.bg
  have hl := h.len
  have hcp := h.cp
  refine ⟨(hne _ (by omega)).trans h.be, (hne _ (by omega)).trans h.bq, (hne _ (by omega)).trans h.bt, ⟨_, heap_setCell_same _ _ _ _ _ _ (heap_setCell_same _ _ _ _ _ _ b1), by simp [b2], ?_⟩, by rw [swap_length]; exact h.len, h.cp, h.cm, ?_, fun k ho hg hlt => (hne k hg).trans (h.kept k ho hg hlt), h1, h2⟩
  · intro j z hz
    rw [swap_at ha hi] at hz
    simp only [List.getElem?_set, List.length_set] at hz
    rw [Array.getElem?_setIfInBounds, Array.getElem?_setIfInBounds]
    by_cases c1 : i = j
    · subst c1
      rw [if_pos rfl, if_pos (by simp; omega)]
      rw [if_pos rfl, if_pos hi] at hz
      injection hz with hz
      rw [hz]
    · rw [if_neg c1] at hz ⊢
      by_cases c2 : a = j
      · subst c2
        rw [if_pos rfl, if_pos (by omega)]
        rw [if_pos rfl, if_pos ha] at hz
        injection hz with hz
        rw [hz]
      · rw [if_neg c2] at hz ⊢
        exact b3 j z hz
  · intro z hz
    rw [swap_at ha hi] at hz
    rcases List.mem_or_eq_of_mem_set hz with hz | rfl
    · rcases List.mem_or_eq_of_mem_set hz with hz | rfl
      · exact h.rows z hz
      · exact h.rows _ (List.getElem_mem _)
    · exact h.rows _ (List.getElem_mem _)
theorem cell (h : St tq tt te me tellv w2 E Q g n cap ok W zs) {i : Nat} (hi : i < zs.length) : W.cell? ⟨g, i, none⟩ = some (.slice zs[i].1.1 zs[i].1.2.1 zs[i].1.2.2) := by
  obtain ⟨cur, b1, b2, b3⟩ := h.bg
  unfold World.cell?
  simp only [b1]
  exact b3 i _ (List.getElem?_eq_getElem hi)
theorem free (h : St tq tt te me tellv w2 E Q g n cap ok W zs) (i : Nat) : W.frozen? ⟨g, i, none⟩ = false := by
  obtain ⟨cur, b1, b2, b3⟩ := h.bg
  exact frozen_of_row _ _ _ _ _ b1
theorem C (h : St tq tt te me tellv w2 E Q g n cap ok W zs) : Kd.C (Kd.slice 3 (Kd.int .i64)) W (some ⟨g, 0, none⟩) n (zs.map (·.2)) := by
  obtain ⟨cur, b1, b2, b3⟩ := h.bg
  have hcm := h.cm
  have hcp := h.cp
  have := shut_C (d := Kd.int .i64) (e3 := 3) (xs := zs.map (·.2)) (hs := zs.map (·.1)) b1 (by simp) (by rw [List.length_map, h.len]; unfold maxLen at hcm; omega) (fun j hj => by
    have hj' : j < zs.length := by simpa using hj
    rw [b3 j zs[j] (List.getElem?_eq_getElem hj')]
    simp) (fun j x hh hx hhh => by
      rw [List.getElem?_map] at hx hhh
      obtain ⟨z, hz, rfl⟩ := Option.map_eq_some_iff.1 hx
      rw [hz] at hhh
      injection hhh with hhh
      subst hhh
      obtain ⟨r1, r2, r3⟩ := h.rows z (List.mem_of_getElem? hz)
      exact ⟨r1, r2, r3 W (fun k hk hlt => h.kept k hk.1 hk.2 hlt)⟩)
  rwa [List.length_map, h.len] at this
theorem below (h : St tq tt te me tellv w2 E Q g n cap ok W zs) (hsz : w2.heap.size ≤ W.heap.size) (hb : Below W.heap.size W W') : St tq tt te me tellv w2 E Q g n cap ok W' zs := h.step (J := fun _ => False) hsz (fun _ h => h.elim) (fun k hk _ => hb.block k hk)
theorem drewN (h : St tq tt te me tellv w2 E Q g n cap ok W zs) (j : Nat) : St tq tt te me tellv w2 E Q g n cap ok (W.drewN j) zs := ⟨h.be, h.bq, h.bt, h.bg, h.len, h.cp, h.cm, h.rows, h.kept, h.eg, h.gq⟩
theorem drew (h : St tq tt te me tellv w2 E Q g n cap ok W zs) : St tq tt te me tellv w2 E Q g n cap ok W.drew zs := ⟨h.be, h.bq, h.bt, h.bg, h.len, h.cp, h.cm, h.rows, h.kept, h.eg, h.gq⟩
theorem made {base : Nat} {cur : Array Value} {hs : List Hd} {l0 : List (List Int)} (O : HRaw.Open (Kd.int .i64) w2 35 base ok (.slice (some ⟨g, 0, none⟩) l0.length cap) l0 g cap cur hs) (hE : w2.heap[E]? = some (.cells #[tellv] tt (0, 0))) (hEb : E < base) :
    St tq tt te me tellv w2 E w2.heap.size g l0.length cap ok ((w2.alloc (.cells #[.slice (some ⟨g, 0, none⟩) l0.length cap] tq)).alloc (.cells #[me] te)) (hs.zip l0) := by
  have e : ∀ (w : World) (o : Obj), (w.alloc o).heap.size = w.heap.size + 1 := fun w o => by simp
  have hg := lt_of_block O.blk
  have hge := O.ge
  have hE' := lt_of_block hE
  have hzl : (hs.zip l0).length = l0.length := by rw [List.length_zip, O.hlen, Nat.min_self]
  have hz : ∀ (j : Nat) (z : Hr), (hs.zip l0)[j]? = some z → hs[j]? = some z.1 ∧ l0[j]? = some z.2 := by
    intro j z hj
    rw [List.getElem?_zip_eq_some] at hj
    exact hj
  have old : ∀ k, k < w2.heap.size → ((w2.alloc (.cells #[.slice (some ⟨g, 0, none⟩) l0.length cap] tq)).alloc (.cells #[me] te)).heap[k]? = w2.heap[k]? := fun k hk => alloc_old (by simp only [e]; omega) (alloc_old hk rfl)
  refine ⟨(old _ hE').trans hE, alloc_old (by simp only [e]; omega) (alloc_new _ _ _ rfl), alloc_new _ _ _ (by simp only [e]), ⟨cur, (old _ hg).trans O.blk, O.size, ?_⟩, hzl, O.len, O.cm, ?_, fun k _ _ hk => old k hk, by omega, hg⟩
  · intro j z hj
    have h1 := (hz j z hj).1
    obtain ⟨hj', e1⟩ := List.getElem?_eq_some_iff.1 h1
    rw [O.hd j hj', e1]
  · intro z hm
    obtain ⟨j, hj, rfl⟩ := List.getElem_of_mem hm
    obtain ⟨h1, h2⟩ := hz j _ (List.getElem?_eq_getElem hj)
    exact O.el j _ _ h2 h1
end St
end Go.Proofs.Ytdjddfeokpmfaaa.HOrd
