import Derived.Test.YtdjddfeokpmfaaaHClo
import Derived.Test.YtdjddfeokpmfaaaHRaw
import Derived.Test.YtdjddfeokpmfaaaBase
import Derived.Shelf.SlicesE.IndexFunc
import Derived.OwnWalk
/- A row of paths that grows (each element a row of steps that lies elsewhere), told by what each reads (no program's function in sight). -/
set_option linter.unusedVariables false
set_option linter.unusedSimpArgs false
namespace Go.Proofs.Ytdjddfeokpmfaaa.HFew
open Go.RowKit Go.Proofs.YtdjddfeokpmfaaaW.PrintWords Go.Proofs.YtdjddfeokpmfaaaW.PrintMore Go.Proofs.Ytdjddfeokpmfaaa.HClo
abbrev Pt := List (List Int)
/-- A path's kind. -/
abbrev kp : Kd (List Int) := Kd.slice 3 (Kd.int .i64)
theorem own_step {W W' : World} {base e n size : Nat} {v : Value} {xs : List Value} (h : W.ownsRow base e size v n xs) (hb : ∀ g, v.ownBlock = some g → W'.heap[g]? = W.heap[g]?) : W'.ownsRow base e size v n xs := by
  obtain ⟨h1, h2⟩ := h
  refine ⟨h1, ?_⟩
  rcases h2 with h2 | ⟨g, cap, cur, hv, hg, hbl, r⟩
  · exact .inl h2
  · exact .inr ⟨g, cap, cur, hv, hg, (hb g (by rw [hv]; rfl)).trans hbl, r⟩
theorem own_lt {W : World} {base e n size : Nat} {v : Value} {xs : List Value} (h : W.ownsRow base e size v n xs) {g : Nat} (hg : v.ownBlock = some g) : base ≤ g ∧ g < W.heap.size := by
  rcases h.2 with ⟨hv, _⟩ | ⟨g', cap, cur, hv, hb, hbl, r⟩
  · rw [hv] at hg; cases hg
  · rw [hv] at hg
    injection hg with hg
    have hg' : g' = g := hg
    subst hg'
    exact ⟨hb, lt_of_block hbl⟩
/-- The row v of paths xs: its own block, apart from D; each element is read over what keeps D. -/
structure Lst (B e : Nat) (D : Nat → Prop) (W : World) (v : Value) (vs : List Value) (xs : List Pt) : Prop where
  own : W.ownsRow B e 1 v xs.length vs
  el : ∀ (j : Nat) (u : Value) (x : Pt), vs[j]? = some u → xs[j]? = some x → Kd.V kp 0 W 0 D u x
  apart : ∀ g, v.ownBlock = some g → ¬ D g
namespace Lst
variable {B e : Nat} {D D' : Nat → Prop} {W W' : World} {v v' u : Value} {vs : List Value} {xs : List Pt}
theorem len (h : Lst B e D W v vs xs) : vs.length = xs.length := by have := h.own.1; omega
theorem step (h : Lst B e D W v vs xs) (hD : ∀ k, k < W.heap.size → (D k ∨ v.ownBlock = some k) → W'.heap[k]? = W.heap[k]?) : Lst B e D W' v vs xs :=
  ⟨own_step h.own (fun g hg => hD g (own_lt h.own hg).2 (.inr hg)), fun j u x hu hx => Kd.V_step (h.el j u x hu hx) (fun k hk hlt => hD k hlt (.inl hk)), h.apart⟩
theorem below (h : Lst B e D W v vs xs) (hb : Below W.heap.size W W') : Lst B e D W' v vs xs := h.step (fun k hk _ => hb.block k hk)
theorem wider (h : Lst B e D W v vs xs) (hD : ∀ k, D k → D' k) (hn : ∀ k, D' k → D k ∨ W.heap.size ≤ k) : Lst B e D' W v vs xs :=
  ⟨h.own, fun j u x hu hx => Kd.V_mono (h.el j u x hu hx) hD, fun g hg hd => by
    rcases hn g hd with h1 | h1
    · exact h.apart g hg h1
    · have := (own_lt h.own hg).2; omega⟩
/-- One more path. -/
theorem push (h : Lst B e D W v vs xs) {x : Pt} (hu : Kd.V kp 0 W 0 D u x) (hown : W'.ownsRow B e 1 v' (xs.length + 1) (vs ++ [u])) (hg : W.grownBy W' v.ownBlock) (hat : v'.ownBlock = v.ownBlock ∨ v'.ownBlock = some W.heap.size) (hD : ∀ k, D k → k < W.heap.size) : Lst B e D W' v' (vs ++ [u]) (xs ++ [x]) := by
  have hk : ∀ k, D k → k < W.heap.size → W'.heap[k]? = W.heap[k]? := fun k hk hlt => hg.block k hlt (fun e => h.apart k e.symm hk)
  refine ⟨by rw [List.length_append]; exact hown, fun j u' x' hu' hx' => ?_, fun g hg' hd => ?_⟩
  · have hl := h.len
    by_cases hj : j < vs.length
    · rw [List.getElem?_append_left hj] at hu'
      rw [List.getElem?_append_left (by omega)] at hx'
      exact Kd.V_step (h.el j u' x' hu' hx') hk
    · rw [List.getElem?_append_right (by omega)] at hu'
      rw [List.getElem?_append_right (by omega)] at hx'
      have hj0 : j - vs.length = 0 := by
        have := (List.getElem?_eq_some_iff.1 hu').1
        simp at this
        omega
      rw [hj0] at hu'
      rw [show j - xs.length = 0 by omega] at hx'
      injection hu' with hu'
      injection hx' with hx'
      subst hu' hx'
      exact Kd.V_step hu hk
  · rcases hat with h1 | h1
    · exact h.apart g (by rw [← h1]; exact hg') hd
    · rw [h1] at hg'
      injection hg' with hg'
      have := hD g hd
      omega
theorem val (h : Lst B e D W v vs xs) : ∃ A c, v = .slice A xs.length c := by
  rcases h.own.2 with ⟨hv, h0⟩ | ⟨g, cap, cur, hv, _⟩
  · exact ⟨_, _, by rw [hv, h0]⟩
  · exact ⟨_, _, hv⟩
theorem le63 (h : Lst B e D W v vs xs) : xs.length ≤ 9223372036854775807 := by
  rcases h.own.2 with ⟨_, h1⟩ | ⟨g, cap, cur, _, _, _, hn, hm, _⟩
  · omega
  · have : cap ≤ 9223372036854775807 := by unfold maxLen at hm; exact hm
    omega
theorem fresh (e : Nat) (D : Nat → Prop) (W : World) (B : Nat) : Lst B e D W (.slice none 0 0) [] [] :=
  ⟨⟨rfl, .inl ⟨rfl, rfl⟩⟩, fun j u x hu _ => by simp at hu, fun g hg => by cases hg⟩
/-- An element's cell. -/
theorem cell (h : Lst B e D W v vs xs) {j : Nat} (hj : j < xs.length) : ∃ g cap u, v = .slice (some ⟨g, 0, none⟩) xs.length cap ∧ W.cell? ⟨g, j, none⟩ = some u ∧ vs[j]? = some u ∧ Kd.V kp 0 W 0 D u xs[j] := by
  have hl := h.len
  rcases h.own.2 with ⟨_, h0⟩ | ⟨g, cap, cur, hv, hg, hb, hn, hm, hs, ht⟩
  · omega
  · obtain ⟨u, hu⟩ : ∃ u, vs[j]? = some u := ⟨vs[j]'(by omega), List.getElem?_eq_getElem (by omega)⟩
    refine ⟨g, cap, u, hv, ?_, hu, h.el j _ _ hu (List.getElem?_eq_getElem hj)⟩
    unfold World.cell?
    simp only [hb]
    rw [← ht, List.getElem?_take, if_pos (by omega)] at hu
    simpa using hu
end Lst
/-- Three rows of paths beside each other: those of this level, all that were seen, those of the next level. -/
structure Sit (B e : Nat) (w W : World) (D : Nat → Prop) (nowv seenv nextv : Value) (vn vs vx : List Value) (now seen next : List Pt) : Prop where
  now : Lst B e D W nowv vn now
  seen : Lst B e D W seenv vs seen
  next : Lst B e D W nextv vx next
  a1 : ∀ g, seenv.ownBlock = some g → nowv.ownBlock ≠ some g ∧ nextv.ownBlock ≠ some g
  a2 : ∀ g, nextv.ownBlock = some g → nowv.ownBlock ≠ some g
  dlt : ∀ k, D k → k < W.heap.size
  be : B ≤ w.heap.size
  below : Below B w W
namespace Sit
variable {B e : Nat} {D D' : Nat → Prop} {w W W' : World} {nowv seenv nextv v' u : Value} {vn vs vx : List Value} {now seen next : List Pt}
theorem on (h : Sit B e w W D nowv seenv nextv vn vs vx now seen next) (hb : Below W.heap.size W W') : Sit B e w W' D nowv seenv nextv vn vs vx now seen next :=
  ⟨h.now.below hb, h.seen.below hb, h.next.below hb, h.a1, h.a2, fun k hk => Nat.lt_of_lt_of_le (h.dlt k hk) hb.size, h.be, h.below.trans (hb.mono (Nat.le_trans h.be h.below.size))⟩
theorem wider (h : Sit B e w W D nowv seenv nextv vn vs vx now seen next) (hb : Below W.heap.size W W') : Sit B e w W' (fun k => D k ∨ (W.heap.size ≤ k ∧ k < W'.heap.size)) nowv seenv nextv vn vs vx now seen next := by
  have ex : ∀ {v : Value} {zs : List Value} {xs : List Pt}, Lst B e D W v zs xs → Lst B e (fun k => D k ∨ (W.heap.size ≤ k ∧ k < W'.heap.size)) W' v zs xs := fun hl =>
    (hl.wider (D' := fun k => D k ∨ (W.heap.size ≤ k ∧ k < W'.heap.size)) (fun k hk => .inl hk) (fun k hk => hk.elim .inl (fun h2 => .inr h2.1))).below hb
  exact ⟨ex h.now, ex h.seen, ex h.next, h.a1, h.a2, fun k hk => hk.elim (fun h1 => Nat.lt_of_lt_of_le (h.dlt k h1) hb.size) (fun h1 => h1.2), h.be, h.below.trans (hb.mono (Nat.le_trans h.be h.below.size))⟩
theorem pushS (h : Sit B e w W D nowv seenv nextv vn vs vx now seen next) {x : Pt} (hu : Kd.V kp 0 W 0 D u x) (hown : W'.ownsRow B e 1 v' (seen.length + 1) (vs ++ [u])) (hg : W.grownBy W' seenv.ownBlock) (hat : v'.ownBlock = seenv.ownBlock ∨ v'.ownBlock = some W.heap.size) :
    Sit B e w W' D nowv v' nextv vn (vs ++ [u]) vx now (seen ++ [x]) next ∧ Kd.V kp 0 W' 0 D u x := by
  have hD : ∀ k, D k → k < W.heap.size → W'.heap[k]? = W.heap[k]? := fun k hk hlt => hg.block k hlt (fun e => h.seen.apart k e.symm hk)
  refine ⟨⟨h.now.step (fun k hlt hk => hk.elim (fun h1 => hD k h1 hlt) (fun h1 => hg.block k hlt (fun e => (h.a1 k e.symm).1 h1))), h.seen.push hu hown hg hat h.dlt, h.next.step (fun k hlt hk => hk.elim (fun h1 => hD k h1 hlt) (fun h1 => hg.block k hlt (fun e => (h.a1 k e.symm).2 h1))), fun g hg' => ?_, h.a2, fun k hk => Nat.lt_of_lt_of_le (h.dlt k hk) hg.size, h.be, ?_⟩, Kd.V_step hu hD⟩
  · rcases hat with h1 | h1
    · exact h.a1 g (by rw [← h1]; exact hg')
    · rw [h1] at hg'
      injection hg' with hg'
      subst hg'
      exact ⟨fun e => by have := (own_lt h.now.own e).2; omega, fun e => by have := (own_lt h.next.own e).2; omega⟩
  · exact h.below.grown hg (Nat.le_trans h.be h.below.size) (fun k hk => (own_lt h.seen.own hk).1)
theorem pushX (h : Sit B e w W D nowv seenv nextv vn vs vx now seen next) {x : Pt} (hu : Kd.V kp 0 W 0 D u x) (hown : W'.ownsRow B e 1 v' (next.length + 1) (vx ++ [u])) (hg : W.grownBy W' nextv.ownBlock) (hat : v'.ownBlock = nextv.ownBlock ∨ v'.ownBlock = some W.heap.size) :
    Sit B e w W' D nowv seenv v' vn vs (vx ++ [u]) now seen (next ++ [x]) := by
  have hD : ∀ k, D k → k < W.heap.size → W'.heap[k]? = W.heap[k]? := fun k hk hlt => hg.block k hlt (fun e => h.next.apart k e.symm hk)
  refine ⟨h.now.step (fun k hlt hk => hk.elim (fun h1 => hD k h1 hlt) (fun h1 => hg.block k hlt (fun e => h.a2 k e.symm h1))), h.seen.step (fun k hlt hk => hk.elim (fun h1 => hD k h1 hlt) (fun h1 => hg.block k hlt (fun e => (h.a1 k h1).2 e.symm))), h.next.push hu hown hg hat h.dlt, fun g hg' => ⟨(h.a1 g hg').1, fun e => ?_⟩, fun g hg' => ?_, fun k hk => Nat.lt_of_lt_of_le (h.dlt k hk) hg.size, h.be, ?_⟩
  · rcases hat with h1 | h1
    · exact (h.a1 g hg').2 (by rw [← h1]; exact e)
    · rw [h1] at e
      injection e with e
      have := (own_lt h.seen.own hg').2
      omega
  · rcases hat with h1 | h1
    · exact h.a2 g (by rw [← h1]; exact hg')
    · rw [h1] at hg'
      injection hg' with hg'
      subst hg'
      exact fun e => by have := (own_lt h.now.own e).2; omega
  · exact h.below.grown hg (Nat.le_trans h.be h.below.size) (fun k hk => (own_lt h.next.own hk).1)
theorem renew (h : Sit B e w W D nowv seenv nextv vn vs vx now seen next) : Sit B e w (W.alloc (.cells #[] e)) D nowv seenv (.slice (some ⟨W.heap.size, 0, none⟩) 0 0) vn vs [] now seen [] := by
  have h2 := h.on (W' := W.alloc (.cells #[] e)) ((Below.refl _ W).alloc (Nat.le_refl _) _)
  refine ⟨h2.now, h2.seen, ⟨⟨rfl, .inr ⟨W.heap.size, 0, #[], rfl, Nat.le_trans h.be h.below.size, alloc_new _ _ _ rfl, Nat.le_refl _, by unfold maxLen; omega, rfl, rfl⟩⟩, fun j u x hu _ => by simp at hu, fun g hg hd => ?_⟩, fun g hg => ⟨(h.a1 g hg).1, fun e => ?_⟩, fun g hg e => ?_, h2.dlt, h2.be, h2.below⟩
  · injection hg with hg
    have := h.dlt g hd
    have hg' : W.heap.size = g := hg
    omega
  · injection e with e
    have := (own_lt h.seen.own hg).2
    have hg' : W.heap.size = g := e
    omega
  · injection hg with hg
    have := (own_lt h.now.own e).2
    have hg' : W.heap.size = g := hg
    omega
theorem turn (h : Sit B e w W D nowv seenv nextv vn vs vx now seen next) : Sit B e w W D nextv seenv (.slice none 0 0) vx vs [] next seen [] :=
  ⟨h.next, h.seen, Lst.fresh _ _ _ _, fun g hg => ⟨(h.a1 g hg).2, fun e => by cases e⟩, fun g hg => (by cases hg), h.dlt, h.be, h.below⟩
theorem one_row {W : World} {u : Value} {x : Pt} {g : Nat} (hb : W.heap[g]? = some (.cells #[u] e (0, 0))) (hB : B ≤ g) (hu : Kd.V kp 0 W 0 D u x) (hD : ¬ D g) : Lst B e D W (.slice (some ⟨g, 0, none⟩) 1 1) [u] [x] := by
  refine ⟨⟨rfl, .inr ⟨g, 1, #[u], rfl, hB, hb, Nat.le_refl _, by unfold maxLen; omega, rfl, rfl⟩⟩, fun j u' x' hu' hx' => ?_, fun g' hg' hd => ?_⟩
  · match j with
    | 0 =>
      injection hu' with hu'
      injection hx' with hx'
      subst hu' hx'
      exact hu
    | j + 1 => simp at hu'
  · injection hg' with hg'
    have : g = g' := hg'
    subst this
    exact hD hd
theorem start {w0 : World} {x : Pt} (hb : Below w0.heap.size w0 w) (hsz : w.heap.size = w0.heap.size) (hu : Kd.V kp 0 w 0 (fun k => k < w0.heap.size) u x) :
    Sit w0.heap.size e w0 ((w.alloc (.cells #[u] e)).alloc (.cells #[u] e)) (fun k => k < w0.heap.size) (.slice (some ⟨w0.heap.size, 0, none⟩) 1 1) (.slice (some ⟨w0.heap.size + 1, 0, none⟩) 1 1) (.slice none 0 0) [u] [u] [] [x] [x] [] := by
  have e1 : (w.alloc (.cells #[u] e)).heap.size = w0.heap.size + 1 := by simp [hsz]
  have e2 : ((w.alloc (.cells #[u] e)).alloc (.cells #[u] e)).heap.size = w0.heap.size + 2 := by simp [hsz]
  have hu2 : Kd.V kp 0 ((w.alloc (.cells #[u] e)).alloc (.cells #[u] e)) 0 (fun k => k < w0.heap.size) u x := Kd.V_alloc (Kd.V_alloc hu _) _
  refine ⟨one_row (alloc_old (by omega) (alloc_new _ _ _ (by omega))) (Nat.le_refl _) hu2 (by omega), one_row (alloc_new _ _ _ (by omega)) (by omega) hu2 (by omega), Lst.fresh _ _ _ _, fun g hg => ⟨fun e => ?_, fun e => (by cases e)⟩, fun g hg => (by cases hg), fun k hk => by omega, Nat.le_refl _, (hb.alloc (by omega) _).alloc (by omega) _⟩
  injection hg with hg
  injection e with e
  have h1 : w0.heap.size + 1 = g := hg
  have h2 : w0.heap.size = g := e
  omega
end Sit
end Go.Proofs.Ytdjddfeokpmfaaa.HFew
