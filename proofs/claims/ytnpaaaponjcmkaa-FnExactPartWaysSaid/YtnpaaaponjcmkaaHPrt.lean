import Derived.Test.YtnpaaaponjcmkaaHClo
import Derived.Shelf.Abstract
import Derived.OwnWalk
/- A row of whole numbers that grows by one number and is cut again, within its capacity, and the variables beside it (no program's function in sight). -/
set_option linter.unusedVariables false
set_option linter.unusedSimpArgs false
namespace Go.Proofs.Ytnpaaaponjcmkaa.HPrt
open Go.RowKit Go.Proofs.YtnpaaaponjcmkaaW.PrintWords Go.Proofs.YtnpaaaponjcmkaaW.PrintMore Go.Proofs.Ytnpaaaponjcmkaa.HClo
/-- r rounds, one behind the other. -/
def row {σ : Type} (F : Int → σ → Option σ) : Nat → Int → σ → Option σ
  | 0, _, s => some s
  | r + 1, i, s => (F i s).bind fun s' => row F r (i + 1) s'
/-- All part lists that begin so, with so many threes begun; d places are left. -/
def vis {σ : Type} (fit : List Int → Nat → Option Bool) (cnt : List Int → Int → Option Int) (step : σ → List Int → Option σ) : Nat → List Int → Nat → σ → Option σ
  | 0, l, m, s => (fit l m).bind fun t => if t = true then step s l else some s
  | d + 1, l, m, s => row (fun κ s => if 0 ≤ κ then ((cnt l κ).bind fun c => if c = 3 then some s else vis fit cnt step d (l ++ [κ]) (if κ = (m : Int) then m + 1 else m) s) else vis fit cnt step d (l ++ [κ]) (if κ = (m : Int) then m + 1 else m) s) (m + 2) (-1) s
theorem mono_row {σ : Type} {F G : Int → σ → Option σ} (h : ∀ i s, LeO (F i s) (G i s)) : ∀ r i s, LeO (row F r i s) (row G r i s)
  | 0, _, _ => LeO.refl _
  | r + 1, i, s => LeO.bind (h i s) (fun s' => mono_row h r (i + 1) s')
theorem mono_vis {σ : Type} {f f' : List Int → Nat → Option Bool} {c c' : List Int → Int → Option Int} {g g' : σ → List Int → Option σ} (hf : ∀ l m, LeO (f l m) (f' l m)) (hc : ∀ l i, LeO (c l i) (c' l i)) (hg : ∀ s l, LeO (g s l) (g' s l)) : ∀ d l m s, LeO (vis f c g d l m s) (vis f' c' g' d l m s)
  | 0, l, m, s => LeO.bind (hf l m) (fun t => LeO.ite (hg s l) (LeO.refl _))
  | d + 1, l, m, s => mono_row (fun i s => LeO.ite (LeO.bind (hc l i) (fun _ => LeO.ite (LeO.refl _) (mono_vis hf hc hg d _ _ s))) (mono_vis hf hc hg d _ _ s)) _ _ s
abbrev pt (b : Nat) : Value := .pointer (some ⟨b, 0, none⟩)
abbrev enc (l : List Int) : List Value := l.map (Value.int .i64)
/-- What an owned row of whole numbers reads. -/
theorem own_C {W : World} {base g n : Nat} {l : List Int} (h : W.ownsRow base 3 1 (.slice (some ⟨g, 0, none⟩) l.length n) l.length (enc l)) : Kd.C (Kd.int .i64) W (some ⟨g, 0, none⟩) l.length l := by
  obtain ⟨h1, h2⟩ := h
  rcases h2 with ⟨h2, _⟩ | ⟨g', cap, cur, hv, hg, hb, hn, hm, hs, ht⟩
  · cases h2
  · injection hv with e1 e2 e3
    injection e1 with e1
    injection e1 with e1
    subst e1 e3
    have hm' : n ≤ 9223372036854775807 := by unfold maxLen at hm; exact hm
    refine ⟨rfl, by omega, fun _ => ⟨_, rfl, fun j x hx => ?_⟩⟩
    have hj : j < l.length := (List.getElem?_eq_some_iff.1 hx).1
    refine ⟨[.int .i64 x], rfl, rfl, ?_⟩
    intro i u hu
    have hsz : (Kd.int .i64).sz = 1 := rfl
    rw [hsz, Nat.mul_one]
    match i with
    | 0 =>
      injection hu with hu
      subst hu
      have ea : Addr.add ⟨g, 0, none⟩ (j + 0) = ⟨g, j, none⟩ := by
        unfold Addr.add
        by_cases h0 : j = 0
        · subst h0; rfl
        · rw [if_neg (by omega)]; simp
      rw [ea]
      unfold World.cell?
      simp only [hb]
      have : (cur.toList.take (l.length * 1))[j]? = some (.int .i64 x) := by rw [ht]; simp [enc, hx]
      rw [List.getElem?_take, if_pos (by omega)] at this
      simpa using this
    | i + 1 => simp at hu
theorem own_cut {W : World} {base g n : Nat} {l : List Int} {x : Int} (h : W.ownsRow base 3 1 (.slice (some ⟨g, 0, none⟩) (l.length + 1) n) (l.length + 1) (enc (l ++ [x]))) : W.ownsRow base 3 1 (.slice (some ⟨g, 0, none⟩) l.length n) l.length (enc l) := by
  obtain ⟨h1, h2⟩ := h
  rcases h2 with ⟨h2, _⟩ | ⟨g', cap, cur, hv, hg, hb, hn, hm, hs, ht⟩
  · cases h2
  · injection hv with e1 e2 e3
    injection e1 with e1
    injection e1 with e1
    subst e1 e3
    refine ⟨by simp [enc], .inr ⟨g, n, cur, rfl, hg, hb, by omega, hm, hs, ?_⟩⟩
    have := congrArg (fun t => t.take l.length) ht
    simp only [List.take_take] at this
    rw [show min l.length ((l.length + 1) * 1) = l.length by omega] at this
    rw [Nat.mul_one, this]
    simp [enc]
theorem own_made {W : World} {base n : Nat} (hb : base ≤ W.heap.size) (hn : n ≤ maxLen) : (W.alloc (.cells (madeCells #[.int .i64 0] n) 3)).ownsRow base 3 1 (.slice (some ⟨W.heap.size, 0, none⟩) ([] : List Int).length n) ([] : List Int).length (enc []) := by
  refine ⟨rfl, .inr ⟨W.heap.size, n, _, rfl, hb, alloc_new _ _ _ rfl, Nat.zero_le _, hn, ?_, ?_⟩⟩
  · simp [madeCells]
  · simp [enc]
theorem own_move {W W' : World} {base g n k : Nat} {xs : List Value} (h : W.ownsRow base 3 1 (.slice (some ⟨g, 0, none⟩) k n) k xs) (hb : W'.heap[g]? = W.heap[g]?) : W'.ownsRow base 3 1 (.slice (some ⟨g, 0, none⟩) k n) k xs := by
  obtain ⟨h1, h2⟩ := h
  refine ⟨h1, ?_⟩
  rcases h2 with h2 | ⟨g', cap, cur, hv, hg, hbl, r⟩
  · exact .inl h2
  · injection hv with e1 e2 e3
    injection e1 with e1
    injection e1 with e1
    subst e1 e3
    exact .inr ⟨g, n, cur, rfl, hg, hb.trans hbl, r⟩
/-- The blocks: E the bundle, E + 1 tell, E + 2 the row, E + 3 the list, E + 4 the function itself. -/
structure St (ta tt tf : Nat) (me tellv : Value) (w0 : World) (B E : Nat) (A : Option Addr) (n c : Nat) (W : World) (l : List Int) : Prop where
  ba : W.heap[E]? = some (.cells #[.slice A n c] ta (0, 0))
  bt : W.heap[E + 1]? = some (.cells #[tellv] tt (0, 0))
  bg : W.ownsRow (E + 2) 3 1 (.slice (some ⟨E + 2, 0, none⟩) l.length n) l.length (enc l)
  bl : W.heap[E + 3]? = some (.cells #[.slice (some ⟨E + 2, 0, none⟩) l.length n] ta (0, 0))
  bf : W.heap[E + 4]? = some (.cells #[me] tf (0, 0))
  len : l.length ≤ n
  kept : ∀ k, k < B → W.heap[k]? = w0.heap[k]?
  be : B ≤ E
namespace St
variable {ta tt tf : Nat} {me tellv : Value} {w0 W W' : World} {B E : Nat} {A : Option Addr} {n c : Nat} {l : List Int} {J : Nat → Prop}
theorem lt (h : St ta tt tf me tellv w0 B E A n c W l) : E + 5 ≤ W.heap.size := lt_of_block h.bf
theorem step (h : St ta tt tf me tellv w0 B E A n c W l) (hJ : ∀ k, J k → B ≤ k ∧ k < E) (hk : ∀ k, k < W.heap.size → ¬ J k → W'.heap[k]? = W.heap[k]?) : St ta tt tf me tellv w0 B E A n c W' l := by
  have hl := h.lt
  have hbe := h.be
  have nJ : ∀ k, (k < B ∨ E ≤ k) → ¬ J k := fun k hk hj => by have := hJ k hj; omega
  exact ⟨(hk _ (by omega) (nJ _ (by omega))).trans h.ba, (hk _ (by omega) (nJ _ (by omega))).trans h.bt, own_move h.bg (hk _ (by omega) (nJ _ (by omega))), (hk _ (by omega) (nJ _ (by omega))).trans h.bl, (hk _ (by omega) (nJ _ (by omega))).trans h.bf, h.len, fun k hb => (hk k (by omega) (nJ _ (by omega))).trans (h.kept k hb), hbe⟩
theorem below (h : St ta tt tf me tellv w0 B E A n c W l) (hb : Below W.heap.size W W') : St ta tt tf me tellv w0 B E A n c W' l := h.step (J := fun _ => False) (fun _ h => h.elim) (fun k hk _ => hb.block k hk)
theorem push (h : St ta tt tf me tellv w0 B E A n c W l) {o : Obj} {x : Int} (hn : l.length + 1 ≤ n) (hown : W'.ownsRow (E + 2) 3 1 (.slice (some ⟨E + 2, 0, none⟩) (l.length + 1) n) (l.length + 1) (enc l ++ [.int .i64 x])) (hg : (W.alloc o).grownBy W' (some (E + 2))) : St ta tt tf me tellv w0 B E A n c (W'.setCell ⟨E + 3, 0, none⟩ (.slice (some ⟨E + 2, 0, none⟩) (l.length + 1) n)) (l ++ [x]) := by
  have hl := h.lt
  have hbe := h.be
  have e : (l ++ [x]).length = l.length + 1 := by simp
  have e2 : enc (l ++ [x]) = enc l ++ [.int .i64 x] := by simp [enc]
  have hk : ∀ k, k < W.heap.size → k ≠ E + 2 → W'.heap[k]? = W.heap[k]? := fun k hk hne => (hg.block k (by simp; omega) (fun e => hne (Option.some.inj e))).trans (Below.heap_alloc _ _ _ hk)
  have hs : ∀ k, k ≠ E + 3 → (W'.setCell ⟨E + 3, 0, none⟩ (.slice (some ⟨E + 2, 0, none⟩) (l.length + 1) n)).heap[k]? = W'.heap[k]? := fun k hk => heap_setCell_other _ _ _ _ hk
  refine ⟨(hs _ (by omega)).trans ((hk _ (by omega) (by omega)).trans h.ba), (hs _ (by omega)).trans ((hk _ (by omega) (by omega)).trans h.bt), ?_, ?_, (hs _ (by omega)).trans ((hk _ (by omega) (by omega)).trans h.bf), by omega, fun k hb => (hs _ (by omega)).trans ((hk _ (by omega) (by omega)).trans (h.kept k hb)), hbe⟩
  · rw [e, e2]
    exact own_move hown (hs _ (by omega))
  · rw [e]
    exact one_setCell ((hk _ (by omega) (by omega)).trans h.bl)
theorem pop {x : Int} (h : St ta tt tf me tellv w0 B E A n c W (l ++ [x])) : St ta tt tf me tellv w0 B E A n c (W.setCell ⟨E + 3, 0, none⟩ (.slice (some ⟨E + 2, 0, none⟩) l.length n)) l := by
  have hbe := h.be
  have hs : ∀ k, k ≠ E + 3 → (W.setCell ⟨E + 3, 0, none⟩ (.slice (some ⟨E + 2, 0, none⟩) l.length n)).heap[k]? = W.heap[k]? := fun k hk => heap_setCell_other _ _ _ _ hk
  have hbg := h.bg
  have hl := h.len
  simp only [List.length_append, List.length_singleton] at hbg hl
  exact ⟨(hs _ (by omega)).trans h.ba, (hs _ (by omega)).trans h.bt, own_move (own_cut hbg) (hs _ (by omega)), one_setCell h.bl, (hs _ (by omega)).trans h.bf, by omega, fun k hb => (hs _ (by omega)).trans (h.kept k hb), hbe⟩
end St
theorem made {ta tt tf : Nat} {me tellv : Value} {w : World} {B : Nat} {A : Option Addr} {n c : Nat} (hB : B ≤ w.heap.size) (hn : n ≤ maxLen) :
    St ta tt tf me tellv w B w.heap.size A n c (((((w.alloc (.cells #[.slice A n c] ta)).alloc (.cells #[tellv] tt)).alloc (.cells (madeCells #[.int .i64 0] n) 3)).alloc (.cells #[.slice (some ⟨w.heap.size + 2, 0, none⟩) 0 n] ta)).alloc (.cells #[me] tf)) [] := by
  have e : ∀ (w : World) (o : Obj), (w.alloc o).heap.size = w.heap.size + 1 := fun w o => by simp
  refine ⟨?_, ?_, ?_, ?_, ?_, Nat.zero_le _, ?_, hB⟩
  · exact alloc_old (by simp only [e]; omega) (alloc_old (by simp only [e]; omega) (alloc_old (by simp only [e]; omega) (alloc_old (by simp only [e]; omega) (alloc_new _ _ _ (by simp only [e])))))
  · exact alloc_old (by simp only [e]; omega) (alloc_old (by simp only [e]; omega) (alloc_old (by simp only [e]; omega) (alloc_new _ _ _ (by simp only [e]))))
  · have h1 := own_made (W := (w.alloc (.cells #[.slice A n c] ta)).alloc (.cells #[tellv] tt)) (base := w.heap.size + 2) (n := n) (by simp only [e]; omega) hn
    rw [show ((w.alloc (.cells #[.slice A n c] ta)).alloc (.cells #[tellv] tt)).heap.size = w.heap.size + 2 from by simp only [e]] at h1
    exact (h1.alloc _).alloc _
  · exact alloc_old (by simp only [e]; omega) (alloc_new _ _ _ (by simp only [e]))
  · exact alloc_new _ _ _ (by simp only [e])
  · intro k hk
    exact alloc_old (by simp only [e]; omega) (alloc_old (by simp only [e]; omega) (alloc_old (by simp only [e]; omega) (alloc_old (by simp only [e]; omega) (alloc_old (by omega) rfl))))
theorem one_cell {W : World} {v : Value} {e : TypeId} : ∀ (j : Nat) (u : Value), ([v] : List Value)[j]? = some u → (W.alloc (.cells #[v] e)).cell? (Addr.add ⟨W.heap.size, 0, none⟩ j) = some u := by
  intro j u hj
  match j, hj with
  | 0, hj =>
    injection hj with hj
    subst hj
    exact cell_of_one (alloc_new W _ _ rfl)
  | j + 1, hj => simp at hj
theorem one_one {k : IntKind} {x : Int} : ∀ u ∈ ([.int k x] : List Value), u.oneCell' = true := by
  intro u hu
  rw [List.mem_singleton.1 hu]
  rfl
end Go.Proofs.Ytnpaaaponjcmkaa.HPrt
