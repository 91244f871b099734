-- Made by hprint.py (wip/) out of the translation; not trusted: Lean checks it.
import Derived.Test.YtbcfgglcabeckaaPFnExactOrderMostx0
import Derived.Test.YtbcfgglcabeckaaPFnExactOrderMostx1
import Derived.Test.YtbcfgglcabeckaaPFnExactOrderMostx2
import Derived.Test.YtbcfgglcabeckaaPFnExactOrderMostx3
namespace Go.Proofs.Ytbcfgglcabeckaa.PFnExactOrderMost
open Go.RowKit Go.Proofs.YtbcfgglcabeckaaW.PrintWords Go.Proofs.YtbcfgglcabeckaaW.PrintLast Go.Proofs.YtbcfgglcabeckaaW.PrintMore
attribute [local go_sem] max2_int min2_int max_two min_two max_three min_three max_four min_four   -- for this text's walks alone
set_option linter.unusedVariables false
set_option linter.unusedSimpArgs false

/-! ### impl_orders: function 25, by hand -/
open Go.Proofs.Ytbcfgglcabeckaa.HOrd Go.Proofs.Ytbcfgglcabeckaa.HRaw in
def impl_orders.f {σ : Type} (step : σ → List (List Int) → Option σ) (s : σ) (l0 : List (List Int)) : Option σ := if 0 < l0.length then (if l0.length < 1000 then vis step l0.length l0 s else none) else none
abbrev impl_orders.try (E Q : Nat) : Value := .func (.func 41) #[] #[Go.Proofs.Ytbcfgglcabeckaa.HOrd.pt Q, Go.Proofs.Ytbcfgglcabeckaa.HOrd.pt E, Go.Proofs.Ytbcfgglcabeckaa.HOrd.pt (Q + 1)]
/-- What 'tell' answers, in every world in which its state lies. -/
def impl_orders.Tells {σ : Type} (tell : Nat) (tb B E : Nat) (J : Nat → Prop) (Inv : σ → World → Prop) (step : σ → List (List Int) → Option σ) : Prop :=
  ∀ (W : World) (A : Option Addr) (c : Nat) (ys : List (List Int)) (s s' : σ), Kd.C (Kd.slice 3 (Kd.int .i64)) W A ys.length ys → ys.length ≤ c → Inv s W → E ≤ W.heap.size → step s ys = some s' →
    Calls Try.prog tell #[.slice A ys.length c, Go.Proofs.Ytbcfgglcabeckaa.HOrd.pt tb] W fun e w' => e = .returned (.tuple #[]) ∧ Inv s' w' ∧ Below B W w' ∧ ∀ k, k < W.heap.size → ¬ J k → w'.heap[k]? = W.heap[k]?
open Go.Proofs.Ytbcfgglcabeckaa.HOrd in
set_option maxHeartbeats 8000000 in
set_option maxRecDepth 100000 in
theorem impl_orders.swap5 {K : Exit → Act → World → Prop} {w : World} {Q g n cap a i n1 c1 n2 c2 : Nat} {A1 A2 : Option Addr} {u2 u3 u4 u6 u7 u8 u9 u10 u11 u12 u13 u14 u15 u16 u17 u18 u19 u20 u21 u22 u23 u24 u25 u26 u27 u28 u29 u30 u31 u32 u33 u34 u35 u36 u37 u38 u39 u40 u41 u42 u43 u44 u45 u46 u47 u48 u49 u50 u51 : Value} (cQ : w.cell? ⟨Q, 0, none⟩ = some (.slice (some ⟨g, 0, none⟩) n cap))
    (ca : w.cell? ⟨g, a, none⟩ = some (.slice A1 n1 c1)) (ci : w.cell? ⟨g, i, none⟩ = some (.slice A2 n2 c2)) (fa : w.frozen? ⟨g, a, none⟩ = false) (fi : w.frozen? ⟨g, i, none⟩ = false) (ha : a < n) (hi : i < n) (hgq : g < Q)
    (h : K .normal { tmps := List.toArray ((.int .i64 (a : Int) : Value) :: (pt Q) :: (u2) :: (u3) :: (u4) :: (.int .i64 (i : Int)) :: (u6) :: (u7) :: (u8) :: (u9) :: (u10) :: (u11) :: (u12) :: (u13) :: (u14) :: (u15) :: (u16) :: (u17) :: (u18) :: (u19) :: (.slice (some ⟨g, 0, none⟩) n cap) :: (.int .i64 (a : Int)) :: (.slice (some ⟨g, 0, none⟩) n cap) :: (.int .i64 (i : Int)) :: (.slice (some ⟨g, 0, none⟩) n cap) :: (.int .i64 (i : Int)) :: (.pointer (some ⟨g, i, none⟩)) :: (.slice A2 n2 c2) :: (.slice (some ⟨g, 0, none⟩) n cap) :: (.int .i64 (a : Int)) :: (.pointer (some ⟨g, a, none⟩)) :: (.slice A1 n1 c1) :: (.pointer (some ⟨g, a, none⟩)) :: (.pointer (some ⟨g, i, none⟩)) :: (u34) :: (u35) :: (u36) :: (u37) :: (u38) :: (u39) :: (u40) :: (u41) :: (u42) :: (u43) :: (u44) :: (u45) :: (u46) :: (u47) :: (u48) :: (u49) :: (u50) :: (u51) :: []), defers := [] } ((w.setCell ⟨g, a, none⟩ (.slice A2 n2 c2)).setCell ⟨g, i, none⟩ (.slice A1 n1 c1)).drew) :
    (Code.region 5 #[{ dst := some 20, op := Go.Op.load 22 (Go.Operand.tmp 1), type := 22, pos := "l7_orders.go:154", after := #[], guard := none }, { dst := some 21, op := Go.Op.move (Go.Operand.tmp 0), type := 3, pos := "l7_orders.go:154", after := #[], guard := none }, { dst := some 22, op := Go.Op.load 22 (Go.Operand.tmp 1), type := 22, pos := "l7_orders.go:154", after := #[], guard := none }, { dst := some 23, op := Go.Op.move (Go.Operand.tmp 5), type := 3, pos := "l7_orders.go:154", after := #[{ on := 13, ground := Go.Ground.gcOnly Go.Departure.lateStores }], guard := none }, { dst := some 24, op := Go.Op.load 22 (Go.Operand.tmp 1), type := 22, pos := "l7_orders.go:154", after := #[], guard := none }, { dst := some 25, op := Go.Op.move (Go.Operand.tmp 5), type := 3, pos := "l7_orders.go:154", after := #[], guard := none }, { dst := some 26, op := Go.Op.indexAddr 22 (Go.Operand.tmp 24) (Go.Operand.tmp 25), type := 0, pos := "l7_orders.go:154", after := #[{ on := 4, ground := Go.Ground.data }, { on := 5, ground := Go.Ground.data }], guard := none }, { dst := some 27, op := Go.Op.load 35 (Go.Operand.tmp 26), type := 35, pos := "l7_orders.go:154", after := #[{ on := 6, ground := Go.Ground.data }], guard := none }, { dst := some 28, op := Go.Op.load 22 (Go.Operand.tmp 1), type := 22, pos := "l7_orders.go:154", after := #[], guard := none }, { dst := some 29, op := Go.Op.move (Go.Operand.tmp 0), type := 3, pos := "l7_orders.go:154", after := #[], guard := none }, { dst := some 30, op := Go.Op.indexAddr 22 (Go.Operand.tmp 28) (Go.Operand.tmp 29), type := 0, pos := "l7_orders.go:154", after := #[{ on := 8, ground := Go.Ground.data }, { on := 9, ground := Go.Ground.data }], guard := none }, { dst := some 31, op := Go.Op.load 35 (Go.Operand.tmp 30), type := 35, pos := "l7_orders.go:154", after := #[{ on := 10, ground := Go.Ground.data }], guard := none }, { dst := some 32, op := Go.Op.indexAddr 22 (Go.Operand.tmp 20) (Go.Operand.tmp 21), type := 0, pos := "l7_orders.go:154", after := #[{ on := 0, ground := Go.Ground.data }, { on := 1, ground := Go.Ground.data }, { on := 0, ground := Go.Ground.phase }, { on := 1, ground := Go.Ground.phase }, { on := 2, ground := Go.Ground.textOnly Go.Departure.inlinedCapture }, { on := 3, ground := Go.Ground.textOnly Go.Departure.lateStores }, { on := 4, ground := Go.Ground.phase }, { on := 5, ground := Go.Ground.phase }, { on := 6, ground := Go.Ground.phase }, { on := 7, ground := Go.Ground.phase }, { on := 8, ground := Go.Ground.textOnly Go.Departure.inlinedCapture }, { on := 9, ground := Go.Ground.textOnly Go.Departure.lateStores }, { on := 10, ground := Go.Ground.textOnly Go.Departure.lateStoresUnsure }, { on := 11, ground := Go.Ground.phase }], guard := none }, { dst := none, op := Go.Op.store 35 (Go.Operand.tmp 32) (Go.Operand.tmp 27), type := 0, pos := "l7_orders.go:154", after := #[{ on := 12, ground := Go.Ground.data }, { on := 7, ground := Go.Ground.data }, { on := 0, ground := Go.Ground.phase }, { on := 1, ground := Go.Ground.phase }, { on := 2, ground := Go.Ground.textOnly Go.Departure.inlinedCapture }, { on := 3, ground := Go.Ground.textOnly Go.Departure.lateStores }, { on := 4, ground := Go.Ground.phase }, { on := 5, ground := Go.Ground.phase }, { on := 6, ground := Go.Ground.phase }, { on := 7, ground := Go.Ground.phase }, { on := 8, ground := Go.Ground.textOnly Go.Departure.inlinedCapture }, { on := 9, ground := Go.Ground.textOnly Go.Departure.lateStores }, { on := 10, ground := Go.Ground.textOnly Go.Departure.lateStoresUnsure }, { on := 11, ground := Go.Ground.phase }], guard := none }, { dst := some 33, op := Go.Op.indexAddr 22 (Go.Operand.tmp 22) (Go.Operand.tmp 23), type := 0, pos := "l7_orders.go:154", after := #[{ on := 2, ground := Go.Ground.data }, { on := 3, ground := Go.Ground.data }, { on := 0, ground := Go.Ground.phase }, { on := 1, ground := Go.Ground.phase }, { on := 2, ground := Go.Ground.phase }, { on := 3, ground := Go.Ground.phase }, { on := 4, ground := Go.Ground.phase }, { on := 5, ground := Go.Ground.phase }, { on := 6, ground := Go.Ground.phase }, { on := 7, ground := Go.Ground.phase }, { on := 8, ground := Go.Ground.phase }, { on := 9, ground := Go.Ground.phase }, { on := 10, ground := Go.Ground.phase }, { on := 11, ground := Go.Ground.phase }, { on := 12, ground := Go.Ground.phase }, { on := 13, ground := Go.Ground.phase }], guard := none }, { dst := none, op := Go.Op.store 35 (Go.Operand.tmp 33) (Go.Operand.tmp 31), type := 0, pos := "l7_orders.go:154", after := #[{ on := 14, ground := Go.Ground.data }, { on := 11, ground := Go.Ground.data }, { on := 13, ground := Go.Ground.chain }, { on := 0, ground := Go.Ground.phase }, { on := 1, ground := Go.Ground.phase }, { on := 2, ground := Go.Ground.phase }, { on := 3, ground := Go.Ground.phase }, { on := 4, ground := Go.Ground.phase }, { on := 5, ground := Go.Ground.phase }, { on := 6, ground := Go.Ground.phase }, { on := 7, ground := Go.Ground.phase }, { on := 8, ground := Go.Ground.phase }, { on := 9, ground := Go.Ground.phase }, { on := 10, ground := Go.Ground.phase }, { on := 11, ground := Go.Ground.phase }, { on := 12, ground := Go.Ground.phase }, { on := 13, ground := Go.Ground.phase }], guard := none }] true).wp Try.prog K { tmps := List.toArray ((.int .i64 (a : Int) : Value) :: (pt Q) :: (u2) :: (u3) :: (u4) :: (.int .i64 (i : Int)) :: (u6) :: (u7) :: (u8) :: (u9) :: (u10) :: (u11) :: (u12) :: (u13) :: (u14) :: (u15) :: (u16) :: (u17) :: (u18) :: (u19) :: (u20) :: (u21) :: (u22) :: (u23) :: (u24) :: (u25) :: (u26) :: (u27) :: (u28) :: (u29) :: (u30) :: (u31) :: (u32) :: (u33) :: (u34) :: (u35) :: (u36) :: (u37) :: (u38) :: (u39) :: (u40) :: (u41) :: (u42) :: (u43) :: (u44) :: (u45) :: (u46) :: (u47) :: (u48) :: (u49) :: (u50) :: (u51) :: []), defers := [] } w := by
  have q3 : (0 : Int) ≤ (a : Int) := by omega
  have q4 : (a : Int) < (n : Int) := by omega
  have q5 : (0 : Int) ≤ (i : Int) := by omega
  have q6 : (i : Int) < (n : Int) := by omega
  have cQ2 : (w.setCell ⟨g, a, none⟩ (.slice A2 n2 c2)).cell? ⟨Q, 0, none⟩ = some (.slice (some ⟨g, 0, none⟩) n cap) := (World.cell?_setCell_other _ _ _ _ (by intro e; injection e with e1 _ _; omega)).trans cQ
  obtain ⟨vi, ci2⟩ := cell?_setCell_some (w := w) (p := ⟨g, a, none⟩) (x := .slice A2 n2 c2) (q := ⟨g, i, none⟩) ci
  clear ha hi hgq
  refine Code.wp_mono (Q := Exit.then (K .normal) (fun _ _ _ => False)) (fun e a w hq => by cases e <;> first | exact hq | exact (hq : False).elim) ?_
  go_region
  exact h
open Go.Proofs.Ytbcfgglcabeckaa.HOrd in
set_option maxHeartbeats 8000000 in
set_option maxRecDepth 100000 in
theorem impl_orders.swap7 {K : Exit → Act → World → Prop} {w : World} {Q g n cap a i n1 c1 n2 c2 : Nat} {A1 A2 : Option Addr} {u2 u3 u4 u6 u7 u8 u9 u10 u11 u12 u13 u14 u15 u16 u17 u18 u19 u20 u21 u22 u23 u24 u25 u26 u27 u28 u29 u30 u31 u32 u33 u34 u35 u36 u37 u38 u39 u40 u41 u42 u43 u44 u45 u46 u47 u48 u49 u50 u51 : Value} (cQ : w.cell? ⟨Q, 0, none⟩ = some (.slice (some ⟨g, 0, none⟩) n cap))
    (ca : w.cell? ⟨g, a, none⟩ = some (.slice A1 n1 c1)) (ci : w.cell? ⟨g, i, none⟩ = some (.slice A2 n2 c2)) (fa : w.frozen? ⟨g, a, none⟩ = false) (fi : w.frozen? ⟨g, i, none⟩ = false) (ha : a < n) (hi : i < n) (hgq : g < Q)
    (h : K .normal { tmps := List.toArray ((.int .i64 (a : Int) : Value) :: (pt Q) :: (u2) :: (u3) :: (u4) :: (.int .i64 (i : Int)) :: (u6) :: (u7) :: (u8) :: (u9) :: (u10) :: (u11) :: (u12) :: (u13) :: (u14) :: (u15) :: (u16) :: (u17) :: (u18) :: (u19) :: (u20) :: (u21) :: (u22) :: (u23) :: (u24) :: (u25) :: (u26) :: (u27) :: (u28) :: (u29) :: (u30) :: (u31) :: (u32) :: (u33) :: (u34) :: (u35) :: (u36) :: (u37) :: (.slice (some ⟨g, 0, none⟩) n cap) :: (.int .i64 (a : Int)) :: (.slice (some ⟨g, 0, none⟩) n cap) :: (.int .i64 (i : Int)) :: (.slice (some ⟨g, 0, none⟩) n cap) :: (.int .i64 (i : Int)) :: (.pointer (some ⟨g, i, none⟩)) :: (.slice A2 n2 c2) :: (.slice (some ⟨g, 0, none⟩) n cap) :: (.int .i64 (a : Int)) :: (.pointer (some ⟨g, a, none⟩)) :: (.slice A1 n1 c1) :: (.pointer (some ⟨g, a, none⟩)) :: (.pointer (some ⟨g, i, none⟩)) :: []), defers := [] } ((w.setCell ⟨g, a, none⟩ (.slice A2 n2 c2)).setCell ⟨g, i, none⟩ (.slice A1 n1 c1)).drew) :
    (Code.region 7 #[{ dst := some 38, op := Go.Op.load 22 (Go.Operand.tmp 1), type := 22, pos := "l7_orders.go:156", after := #[], guard := none }, { dst := some 39, op := Go.Op.move (Go.Operand.tmp 0), type := 3, pos := "l7_orders.go:156", after := #[], guard := none }, { dst := some 40, op := Go.Op.load 22 (Go.Operand.tmp 1), type := 22, pos := "l7_orders.go:156", after := #[], guard := none }, { dst := some 41, op := Go.Op.move (Go.Operand.tmp 5), type := 3, pos := "l7_orders.go:156", after := #[{ on := 13, ground := Go.Ground.gcOnly Go.Departure.lateStores }], guard := none }, { dst := some 42, op := Go.Op.load 22 (Go.Operand.tmp 1), type := 22, pos := "l7_orders.go:156", after := #[], guard := none }, { dst := some 43, op := Go.Op.move (Go.Operand.tmp 5), type := 3, pos := "l7_orders.go:156", after := #[], guard := none }, { dst := some 44, op := Go.Op.indexAddr 22 (Go.Operand.tmp 42) (Go.Operand.tmp 43), type := 0, pos := "l7_orders.go:156", after := #[{ on := 4, ground := Go.Ground.data }, { on := 5, ground := Go.Ground.data }], guard := none }, { dst := some 45, op := Go.Op.load 35 (Go.Operand.tmp 44), type := 35, pos := "l7_orders.go:156", after := #[{ on := 6, ground := Go.Ground.data }], guard := none }, { dst := some 46, op := Go.Op.load 22 (Go.Operand.tmp 1), type := 22, pos := "l7_orders.go:156", after := #[], guard := none }, { dst := some 47, op := Go.Op.move (Go.Operand.tmp 0), type := 3, pos := "l7_orders.go:156", after := #[], guard := none }, { dst := some 48, op := Go.Op.indexAddr 22 (Go.Operand.tmp 46) (Go.Operand.tmp 47), type := 0, pos := "l7_orders.go:156", after := #[{ on := 8, ground := Go.Ground.data }, { on := 9, ground := Go.Ground.data }], guard := none }, { dst := some 49, op := Go.Op.load 35 (Go.Operand.tmp 48), type := 35, pos := "l7_orders.go:156", after := #[{ on := 10, ground := Go.Ground.data }], guard := none }, { dst := some 50, op := Go.Op.indexAddr 22 (Go.Operand.tmp 38) (Go.Operand.tmp 39), type := 0, pos := "l7_orders.go:156", after := #[{ on := 0, ground := Go.Ground.data }, { on := 1, ground := Go.Ground.data }, { on := 0, ground := Go.Ground.phase }, { on := 1, ground := Go.Ground.phase }, { on := 2, ground := Go.Ground.textOnly Go.Departure.inlinedCapture }, { on := 3, ground := Go.Ground.textOnly Go.Departure.lateStores }, { on := 4, ground := Go.Ground.phase }, { on := 5, ground := Go.Ground.phase }, { on := 6, ground := Go.Ground.phase }, { on := 7, ground := Go.Ground.phase }, { on := 8, ground := Go.Ground.textOnly Go.Departure.inlinedCapture }, { on := 9, ground := Go.Ground.textOnly Go.Departure.lateStores }, { on := 10, ground := Go.Ground.textOnly Go.Departure.lateStoresUnsure }, { on := 11, ground := Go.Ground.phase }], guard := none }, { dst := none, op := Go.Op.store 35 (Go.Operand.tmp 50) (Go.Operand.tmp 45), type := 0, pos := "l7_orders.go:156", after := #[{ on := 12, ground := Go.Ground.data }, { on := 7, ground := Go.Ground.data }, { on := 0, ground := Go.Ground.phase }, { on := 1, ground := Go.Ground.phase }, { on := 2, ground := Go.Ground.textOnly Go.Departure.inlinedCapture }, { on := 3, ground := Go.Ground.textOnly Go.Departure.lateStores }, { on := 4, ground := Go.Ground.phase }, { on := 5, ground := Go.Ground.phase }, { on := 6, ground := Go.Ground.phase }, { on := 7, ground := Go.Ground.phase }, { on := 8, ground := Go.Ground.textOnly Go.Departure.inlinedCapture }, { on := 9, ground := Go.Ground.textOnly Go.Departure.lateStores }, { on := 10, ground := Go.Ground.textOnly Go.Departure.lateStoresUnsure }, { on := 11, ground := Go.Ground.phase }], guard := none }, { dst := some 51, op := Go.Op.indexAddr 22 (Go.Operand.tmp 40) (Go.Operand.tmp 41), type := 0, pos := "l7_orders.go:156", after := #[{ on := 2, ground := Go.Ground.data }, { on := 3, ground := Go.Ground.data }, { on := 0, ground := Go.Ground.phase }, { on := 1, ground := Go.Ground.phase }, { on := 2, ground := Go.Ground.phase }, { on := 3, ground := Go.Ground.phase }, { on := 4, ground := Go.Ground.phase }, { on := 5, ground := Go.Ground.phase }, { on := 6, ground := Go.Ground.phase }, { on := 7, ground := Go.Ground.phase }, { on := 8, ground := Go.Ground.phase }, { on := 9, ground := Go.Ground.phase }, { on := 10, ground := Go.Ground.phase }, { on := 11, ground := Go.Ground.phase }, { on := 12, ground := Go.Ground.phase }, { on := 13, ground := Go.Ground.phase }], guard := none }, { dst := none, op := Go.Op.store 35 (Go.Operand.tmp 51) (Go.Operand.tmp 49), type := 0, pos := "l7_orders.go:156", after := #[{ on := 14, ground := Go.Ground.data }, { on := 11, ground := Go.Ground.data }, { on := 13, ground := Go.Ground.chain }, { on := 0, ground := Go.Ground.phase }, { on := 1, ground := Go.Ground.phase }, { on := 2, ground := Go.Ground.phase }, { on := 3, ground := Go.Ground.phase }, { on := 4, ground := Go.Ground.phase }, { on := 5, ground := Go.Ground.phase }, { on := 6, ground := Go.Ground.phase }, { on := 7, ground := Go.Ground.phase }, { on := 8, ground := Go.Ground.phase }, { on := 9, ground := Go.Ground.phase }, { on := 10, ground := Go.Ground.phase }, { on := 11, ground := Go.Ground.phase }, { on := 12, ground := Go.Ground.phase }, { on := 13, ground := Go.Ground.phase }], guard := none }] true).wp Try.prog K { tmps := List.toArray ((.int .i64 (a : Int) : Value) :: (pt Q) :: (u2) :: (u3) :: (u4) :: (.int .i64 (i : Int)) :: (u6) :: (u7) :: (u8) :: (u9) :: (u10) :: (u11) :: (u12) :: (u13) :: (u14) :: (u15) :: (u16) :: (u17) :: (u18) :: (u19) :: (u20) :: (u21) :: (u22) :: (u23) :: (u24) :: (u25) :: (u26) :: (u27) :: (u28) :: (u29) :: (u30) :: (u31) :: (u32) :: (u33) :: (u34) :: (u35) :: (u36) :: (u37) :: (u38) :: (u39) :: (u40) :: (u41) :: (u42) :: (u43) :: (u44) :: (u45) :: (u46) :: (u47) :: (u48) :: (u49) :: (u50) :: (u51) :: []), defers := [] } w := by
  have q3 : (0 : Int) ≤ (a : Int) := by omega
  have q4 : (a : Int) < (n : Int) := by omega
  have q5 : (0 : Int) ≤ (i : Int) := by omega
  have q6 : (i : Int) < (n : Int) := by omega
  have cQ2 : (w.setCell ⟨g, a, none⟩ (.slice A2 n2 c2)).cell? ⟨Q, 0, none⟩ = some (.slice (some ⟨g, 0, none⟩) n cap) := (World.cell?_setCell_other _ _ _ _ (by intro e; injection e with e1 _ _; omega)).trans cQ
  obtain ⟨vi, ci2⟩ := cell?_setCell_some (w := w) (p := ⟨g, a, none⟩) (x := .slice A2 n2 c2) (q := ⟨g, i, none⟩) ci
  clear ha hi hgq
  refine Code.wp_mono (Q := Exit.then (K .normal) (fun _ _ _ => False)) (fun e a w hq => by cases e <;> first | exact hq | exact (hq : False).elim) ?_
  go_region
  exact h

open Go.Proofs.Ytbcfgglcabeckaa.HOrd Go.Proofs.Ytbcfgglcabeckaa.HRaw in
set_option maxHeartbeats 8000000 in
set_option maxRecDepth 100000 in
theorem impl_orders.try_calls {σ : Type} {tell tb B E Q g n cap : Nat} {J ok : Nat → Prop} {Inv : σ → World → Prop} {step : σ → List (List Int) → Option σ} {w2 : World} (eg : ∀ args w, (callFunc tell args).run Try.prog w = .ok (.enter tell args) w)
    (hT : impl_orders.Tells tell tb B E J Inv step) (hJ : ∀ k, J k → ¬ ok k ∧ k < E) (hok : ∀ k, ok k → k ≠ E) (hBE : B ≤ E) (hn : n < 1000) (hI : ∀ s W W', Inv s W → (∀ k, J k → W'.heap[k]? = W.heap[k]?) → Inv s W') :
    ∀ (d a : Nat), a + d = n → ∀ (v : Int) (zs : List Hr) (s s' : σ) (w : World), v = a → St 22 40 53 (impl_orders.try E Q) (.func (.func tell) #[] #[pt tb]) w2 E Q g n cap ok w zs → w2.heap.size ≤ w.heap.size → Inv s w → vis step d (zs.map (·.2)) s = some s' →
    Calls Try.prog 41 #[.int .i64 v, pt Q, pt E, pt (Q + 1)] w fun e w' => e = .returned (.tuple #[]) ∧ St 22 40 53 (impl_orders.try E Q) (.func (.func tell) #[] #[pt tb]) w2 E Q g n cap ok w' zs ∧ Inv s' w' ∧ Below B w w' := by
  intro d
  induction d with
  | zero =>
    intro a ha v zs s s' w hv hst hsz hinv h
    have ha : a = n := by omega
    subst ha
    subst hv
    have hl := hst.lt
    have h1 := hst.eg
    have h2 := hst.gq
    have cQ := cell_of_one hst.bq
    have cE := cell_of_one hst.be
    have hq1 : ((a : Int) == (a : Int)) = true := beq_self_eq_true _
    have kt : Calls Try.prog tell #[.slice (some ⟨g, 0, none⟩) a cap, pt tb] w fun e w' => e = .returned (.tuple #[]) ∧ Inv s' w' ∧ Below B w w' ∧ ∀ k, k < w.heap.size → ¬ J k → w'.heap[k]? = w.heap[k]? := by
      have h' : step s (zs.map (·.2)) = some s' := h
      have := hT w (some ⟨g, 0, none⟩) cap (zs.map (·.2)) s s' (by rw [List.length_map, hst.len]; exact hst.C) (by rw [List.length_map, hst.len]; exact hst.cp) hinv (by omega) h'
      rwa [List.length_map, hst.len] at this
    have HST := Aside0.mk hst
    clear hst hT hI h hinv
    go_enter Try.func41, Try.ntmps41
    go_wp2_with (go_at_fn tell; refine kt.mono ?_; rintro e w1 ⟨rfl, hi, hb, hk⟩; have HI := Aside0.mk hi; have HB := Aside0.mk hb; have HS1 := Aside0.mk (HST.out.step hsz hJ hk); clear kt hi hb hk)
    first | go_end0 | refine bodyPost_ret (results_none rfl _ _ _) rfl ?_
    exact ⟨rfl, HS1.out, HI.out, HB.out⟩
  | succ d ih =>
    intro a ha v zs s s' w hv hst hsz hinv h
    have han : a < n := by omega
    have q1 : ((a : Int) == (n : Int)) = false := beq_eq_false_iff_ne.mpr (by omega)
    subst hv
    have hl := hst.lt
    have h1 := hst.eg
    have h2 := hst.gq
    have cQ := cell_of_one hst.bq
    have hlen := hst.len
    have H : row (fun i s => vis step d (swap (zs.map (·.2)) a i) s) (d + 1) a s = some s' := by
      have h3 : row (fun i s => vis step d (swap (zs.map (·.2)) ((zs.map (·.2)).length - (d + 1)) i) s) (d + 1) ((zs.map (·.2)).length - (d + 1)) s = some s' := h
      rw [List.length_map, hlen, show n - (d + 1) = a by omega] at h3
      exact h3
    have HH := Aside0.mk H
    have HST := Aside0.mk hst
    have HV := Aside0.mk hinv
    have IH := Aside0.mk ih
    clear h H hst hinv ih hT
    go_enter Try.func41, Try.ntmps41
    go_wp2
    go_loopg [5] (d + 1) (fun kq v5 w' => ∃ (i : Nat) (s1 : σ), v5 = .int .i64 (i : Int) ∧ Aside0 (kq + i = n ∧ a ≤ i) ∧ Aside0 (row (fun i s => vis step d (swap (zs.map (·.2)) a i) s) kq i s1 = some s') ∧ Aside0 (St 22 40 53 (impl_orders.try E Q) (.func (.func tell) #[] #[pt tb]) w2 E Q g n cap ok w' zs ∧ w2.heap.size ≤ w'.heap.size) ∧ Aside0 (Inv s1 w') ∧ Aside0 (Below B w w'))
    case atStart => exact ⟨a, s, rfl, ⟨by omega⟩, HH, ⟨HST.out, hsz⟩, HV, ⟨Below.refl _ _⟩⟩
    case round =>
      clear HH HST HV
      obtain ⟨i, s1, rfl, HN, HR, HS, HV, HB⟩ := hrel
      have hn1 := HN.out
      have cQ1 := cell_of_one HS.out.1.bq
      cases gk with
      | zero =>
        have hi : i = n := by omega
        subst hi
        have hR := Option.some.inj HR.out
        subst hR
        clear HR
        have q2 : ((i : Int) < (i : Int)) = False := eq_false (by omega)
        go_wp2
        go_end0
        exact ⟨rfl, HS.out.1, HV.out, HB.out⟩
      | succ g1 =>
        have hin : i < n := by omega
        obtain ⟨s2, R1, R2⟩ := Option.bind_eq_some_iff.mp HR.out
        clear HR
        have hza : a < zs.length := by omega
        have hzi : i < zs.length := by omega
        have cT := cell_of_one HS.out.1.bt
        have ca := HS.out.1.cell hza
        have ci := HS.out.1.cell hzi
        obtain ⟨A1, n1, c1, ea⟩ : ∃ A n c, zs[a].1 = (A, n, c) := ⟨_, _, _, rfl⟩
        obtain ⟨A2, n2, c2, ei⟩ : ∃ A n c, zs[i].1 = (A, n, c) := ⟨_, _, _, rfl⟩
        rw [ea] at ca
        rw [ei] at ci
        have EA := Aside0.mk ea
        have EI := Aside0.mk ei
        clear ea ei
        dsimp only at ca ci
        have fa := HS.out.1.free a
        have fi := HS.out.1.free i
        have q2 : ((i : Int) < (n : Int)) = True := eq_true (by omega)
        have q3 : (0 : Int) ≤ (a : Int) := by omega
        have q4 : (a : Int) < (n : Int) := by omega
        have q5 : (0 : Int) ≤ (i : Int) := by omega
        have q6 : (i : Int) < (n : Int) := by omega
        go_wp2
        refine impl_orders.swap5 cQ1 ca ci fa fi han hin h2 ?_
        have hS1 := (HS.out.1.swap hok hza hzi).drew
        have hV1 : Inv s1 ((wr.setCell ⟨g, a, none⟩ (encH zs[i].1)).setCell ⟨g, i, none⟩ (encH zs[a].1)).drew := hI _ wr _ HV.out (fun k hk => by
          have := (hJ k hk).2
          exact (heap_setCell_other _ _ _ _ (by simp; omega)).trans (heap_setCell_other _ _ _ _ (by simp; omega)))
        have hB1 : Below B w ((wr.setCell ⟨g, a, none⟩ (encH zs[i].1)).setCell ⟨g, i, none⟩ (encH zs[a].1)).drew := ((HB.out.setCell (p := ⟨g, a, none⟩) (by simp; omega) _).setCell (p := ⟨g, i, none⟩) (by simp; omega) _).drew
        have hz1 : w2.heap.size ≤ ((wr.setCell ⟨g, a, none⟩ (encH zs[i].1)).setCell ⟨g, i, none⟩ (encH zs[a].1)).drew.heap.size := by
          have := HS.out.2
          simpa using this
        rw [EA.out, EI.out] at hS1 hV1 hB1 hz1
        simp only [encH] at hS1 hV1 hB1 hz1
        generalize ((wr.setCell ⟨g, a, none⟩ (.slice A2 n2 c2)).setCell ⟨g, i, none⟩ (.slice A1 n1 c1)).drew = W1 at hS1 hV1 hB1 hz1 ⊢
        have kc : Calls Try.prog 41 #[.int .i64 ((a : Int) + 1), pt Q, pt E, pt (Q + 1)] W1 fun e w' => e = .returned (.tuple #[]) ∧ St 22 40 53 (impl_orders.try E Q) (.func (.func tell) #[] #[pt tb]) w2 E Q g n cap ok w' (swap zs a i) ∧ Inv s2 w' ∧ Below B W1 w' :=
          IH.out (a + 1) (by omega) _ (swap zs a i) s1 s2 W1 (by omega) hS1 hz1 hV1 (by rw [swap_map]; exact R1)
        have HB1 := Aside0.mk hB1
        have HZ1 := Aside0.mk hz1
        have cT1 := cell_of_one hS1.bt
        clear hS1 hV1 hB1 hz1 ca ci fa fi cQ1 cT IH
        go_wp2_with (go_at_call 41; refine kc.mono ?_; rintro e w3 ⟨rfl, hs, hi, hb⟩; have HI3 := Aside0.mk hi; have HB3 := Aside0.mk (HB1.out.trans hb); have HZ3 := Aside0.mk (Nat.le_trans HZ1.out hb.size); have HS3 := Aside0.mk hs; clear kc hi hb cT1 hs)
        have yza : a < (swap zs a i).length := by rw [swap_length]; exact hza
        have yzi : i < (swap zs a i).length := by rw [swap_length]; exact hzi
        obtain ⟨ys, hys⟩ : ∃ ys, ys = swap zs a i := ⟨_, rfl⟩
        have hback : swap ys a i = zs := by rw [hys]; exact swap_swap hza hzi
        have HBK := Aside0.mk hback
        rw [← hys] at HS3 yza yzi
        clear hys hback
        have cQ3 := cell_of_one HS3.out.bq
        have ya := HS3.out.cell yza
        have yi := HS3.out.cell yzi
        obtain ⟨A3, n3, c3, ea⟩ : ∃ A n c, ys[a].1 = (A, n, c) := ⟨_, _, _, rfl⟩
        obtain ⟨A4, n4, c4, ei⟩ : ∃ A n c, ys[i].1 = (A, n, c) := ⟨_, _, _, rfl⟩
        rw [ea] at ya
        rw [ei] at yi
        have YA := Aside0.mk ea
        have YI := Aside0.mk ei
        clear ea ei
        dsimp only at ya yi
        have ga := HS3.out.free a
        have gi := HS3.out.free i
        refine impl_orders.swap7 cQ3 ya yi ga gi han hin h2 ?_
        have hS4 := (HS3.out.swap hok yza yzi).drew
        rw [HBK.out] at hS4
        have hV4 : Inv s2 ((w3.setCell ⟨g, a, none⟩ (encH ys[i].1)).setCell ⟨g, i, none⟩ (encH ys[a].1)).drew := hI _ w3 _ HI3.out (fun k hk => by
          have := (hJ k hk).2
          exact (heap_setCell_other _ _ _ _ (by simp; omega)).trans (heap_setCell_other _ _ _ _ (by simp; omega)))
        have hB4 : Below B w ((w3.setCell ⟨g, a, none⟩ (encH ys[i].1)).setCell ⟨g, i, none⟩ (encH ys[a].1)).drew := ((HB3.out.setCell (p := ⟨g, a, none⟩) (by simp; omega) _).setCell (p := ⟨g, i, none⟩) (by simp; omega) _).drew
        have hz4 : w2.heap.size ≤ ((w3.setCell ⟨g, a, none⟩ (encH ys[i].1)).setCell ⟨g, i, none⟩ (encH ys[a].1)).drew.heap.size := by
          have := HZ3.out
          simpa using this
        rw [YA.out, YI.out] at hS4 hV4 hB4 hz4
        simp only [encH] at hS4 hV4 hB4 hz4
        generalize ((w3.setCell ⟨g, a, none⟩ (.slice A4 n4 c4)).setCell ⟨g, i, none⟩ (.slice A3 n3 c3)).drew = W4 at hS4 hV4 hB4 hz4 ⊢
        have HS4 := Aside0.mk hS4
        have HV4 := Aside0.mk hV4
        have HB4 := Aside0.mk hB4
        have HZ4 := Aside0.mk hz4
        have HR2 := Aside0.mk R2
        clear hS4 hV4 hB4 hz4 ya yi ga gi cQ3 R1 R2
        go_wp2
        go_roundg g1
        case measure => omega
        case rel => exact ⟨i + 1, s2, by go_num, ⟨by omega⟩, HR2, ⟨HS4.out, HZ4.out⟩, HV4, HB4⟩
open Go.Proofs.Ytbcfgglcabeckaa.HOrd Go.Proofs.Ytbcfgglcabeckaa.HRaw in
set_option maxHeartbeats 8000000 in
set_option maxRecDepth 100000 in
theorem impl_orders.calls {σ : Type} {tell tb B : Nat} {J : Nat → Prop} {Inv : σ → World → Prop} {step : σ → List (List Int) → Option σ} (eg : ∀ args w, (callFunc tell args).run Try.prog w = .ok (.enter tell args) w) (w0 w : World) (A0 : Option Addr) (c0 : Nat) (l0 : List (List Int)) (s s' : σ)
    (hT : impl_orders.Tells tell tb B w.heap.size J Inv step) (hJ : ∀ k, J k → w0.heap.size ≤ k ∧ k < w.heap.size) (hB0 : B ≤ w0.heap.size) (hBw : w0.heap.size ≤ w.heap.size) (hI : ∀ s W W', Inv s W → (∀ k, J k → W'.heap[k]? = W.heap[k]?) → Inv s W')
    (hr0 : Kd.C (Kd.slice 3 (Kd.int .i64)) w0 A0 l0.length l0) (hc0 : l0.length ≤ c0) (hb0 : Below w0.heap.size w0 w) (hinv : Inv s w) (h : impl_orders.f step s l0 = some s') :
    Calls Try.prog 25 #[.slice A0 l0.length c0, .func (.func tell) #[] #[pt tb]] w fun e w' => e = .returned (.tuple #[]) ∧ Inv s' w' ∧ Below B w w' := by
  unfold impl_orders.f at h
  by_cases g0 : 0 < l0.length
  · rw [if_pos g0] at h
    by_cases g1 : l0.length < 1000
    · rw [if_pos g1] at h
      have hmf : ∀ (fn : Fn) (first cap : Array Value) (w : World), (Instr.makeFunc fn first cap).run Try.prog w = .ok (.func fn first cap) w := fun _ _ _ _ => rfl
      have hV := came_V (e := 35) (base := (w.alloc (.cells #[.func (.func tell) #[] #[pt tb]] 40)).heap.size) (Kd.heap_slice 3 (Kd.heap_int .i64)) hr0 (below_alloc hb0 (.cells #[.func (.func tell) #[] #[pt tb]] 40)) hc0
      have hcl : slices_Clone_int_int.f l0 = some l0 := by simp [slices_Clone_int_int.f]; omega
      have c1 := slices_Clone_int_int.calls _ A0 c0 l0 l0 _ hV hcl
      have kc : ∀ (w2 : World) (g cap : Nat) (cur : Array Value) (hs : List Hd), Below (w.heap.size + 1) (w.alloc (.cells #[.func (.func tell) #[] #[pt tb]] 40)) w2 → Go.Proofs.Ytbcfgglcabeckaa.HRaw.Open (Kd.int .i64) w2 35 (w.heap.size + 1) (fun k_ => k_ < w0.heap.size ∨ w.heap.size + 1 ≤ k_) (.slice (some ⟨g, 0, none⟩) l0.length cap) l0 g cap cur hs →
          Calls Try.prog 41 #[.int .i64 0, pt w2.heap.size, pt w.heap.size, pt (w2.heap.size + 1)] ((w2.alloc (.cells #[.slice (some ⟨g, 0, none⟩) l0.length cap] 22)).alloc (.cells #[impl_orders.try w.heap.size w2.heap.size] 53)) fun e w' => e = .returned (.tuple #[]) ∧ Inv s' w' ∧ Below B w w' := by
        intro w2 g cap cur hs hB O
        have hsz : w2.heap.size ≤ ((w2.alloc (.cells #[.slice (some ⟨g, 0, none⟩) l0.length cap] 22)).alloc (.cells #[impl_orders.try w.heap.size w2.heap.size] 53)).heap.size := by simp; omega
        have hE : w2.heap[w.heap.size]? = some (.cells #[.func (.func tell) #[] #[pt tb]] 40 (0, 0)) := (hB.block _ (by omega)).trans (Go.Proofs.Ytbcfgglcabeckaa.HClo.alloc_new _ _ _ rfl)
        have hS := St.made (tq := 22) (te := 53) (me := impl_orders.try w.heap.size w2.heap.size) O hE (by omega)
        have hsz2 : w.heap.size + 1 ≤ w2.heap.size := by have := hB.size; simpa using this
        have e : ∀ (w : World) (o : Obj), (w.alloc o).heap.size = w.heap.size + 1 := fun w o => by simp
        have hi2 : Inv s ((w2.alloc (.cells #[.slice (some ⟨g, 0, none⟩) l0.length cap] 22)).alloc (.cells #[impl_orders.try w.heap.size w2.heap.size] 53)) := hI _ w _ hinv (fun k hk => by
          have := (hJ k hk).2
          exact Go.Proofs.Ytbcfgglcabeckaa.HClo.alloc_old (by simp only [e]; omega) (Go.Proofs.Ytbcfgglcabeckaa.HClo.alloc_old (by omega) ((hB.block k (by omega)).trans (Below.heap_alloc _ _ _ this))))
        have hBB : Below B w ((w2.alloc (.cells #[.slice (some ⟨g, 0, none⟩) l0.length cap] 22)).alloc (.cells #[impl_orders.try w.heap.size w2.heap.size] 53)) := by
          have h1 : Below B w (w.alloc (.cells #[.func (.func tell) #[] #[pt tb]] 40)) := (Below.refl B w).alloc (by omega) _
          exact ((h1.trans (hB.mono (by omega))).alloc (by omega) _).alloc (by simp only [e]; omega) _
        refine (impl_orders.try_calls (B := B) (E := w.heap.size) (Q := w2.heap.size) (n := l0.length) (J := J) (Inv := Inv) (step := step) eg hT (fun k hk => ⟨fun ho => ?_, (hJ k hk).2⟩) (fun k ho => ?_) (by omega) g1 hI l0.length 0 (by omega) 0 _ s s' _ rfl hS hsz hi2 (by rw [zip_snd O.hlen]; exact h)).mono ?_
        · have := hJ k hk; omega
        · omega
        · rintro e w' ⟨rfl, _, h2, h3⟩
          exact ⟨rfl, h2, hBB.trans h3⟩
      clear hT hJ hI hV hcl hinv h eg hr0 hb0
      go_enter Try.func25, Try.ntmps25
      go_wp2_with (first | (go_at_call 40; refine c1.mono ?_; rintro e w2 ⟨v0, rfl, hN, hB⟩; clear c1; obtain ⟨g, cap, cur, hs, O⟩ := open_N hN g0; obtain rfl := O.val; have kd := kc w2 g cap cur hs (by simpa using hB) (by simpa using O); clear kc O hN hB) | (go_at_call 41; refine kd.mono ?_; rintro e w3 ⟨rfl, hi, hb⟩; have HI := Aside0.mk hi; have HB := Aside0.mk hb; clear kd hi hb))
      go_end0
      exact ⟨rfl, HI.out, HB.out⟩
    · rw [if_neg g1] at h; cases h
  · rw [if_neg g0] at h; cases h

-- NOT PRINTED: function 26 (impl_OrderMost_1)

/-! ### impl_OrderMost: function 10, by hand -/
def impl_OrderMost.step (k : Nat) (m : Int) (q : List (List Int)) : Option Int := (impl_areaOf.f k q).bind fun a => some (mx m a)
def impl_OrderMost.f (k : Nat) (l0 : List (List Int)) : Option (Int × Bool) := (impl_PathIn.f k l0).bind fun t => if t = true then (if (l0.length : Int) > 6 then some (0, false) else (impl_areaOf.f k l0).bind fun a => (impl_orders.f (impl_OrderMost.step k) a l0).bind fun r => some (r, true)) else some (0, false)
theorem impl_OrderMost.mono : ∀ a0 k, LeO (impl_OrderMost.f k a0) (impl_OrderMost.f (k + 1) a0) := by
  intro a0 k
  unfold impl_OrderMost.f
  refine LeO.bind (impl_PathIn.mono _ _) (fun t => LeO.ite (LeO.ite (LeO.refl _) (LeO.bind (impl_areaOf.mono _ _) (fun a => LeO.bind ?_ (fun _ => LeO.refl _)))) (LeO.refl _))
  unfold impl_orders.f
  exact LeO.ite (LeO.ite (Go.Proofs.Ytbcfgglcabeckaa.HOrd.mono_vis (fun s q => LeO.bind (impl_areaOf.mono _ _) (fun _ => LeO.refl _)) _ _ _) (LeO.refl _)) (LeO.refl _)
open Go.Proofs.Ytbcfgglcabeckaa.HOrd in
set_option maxHeartbeats 8000000 in
set_option maxRecDepth 100000 in
theorem impl_OrderMost.tells (k bm B E : Nat) (hB : B ≤ bm) : impl_orders.Tells 26 bm B E (fun j => j = bm) (fun m W => W.heap[bm]? = some (.cells #[.int .i64 m] 3 (0, 0))) (impl_OrderMost.step k) := by
  intro W A c ys s s' hC hc hinv hE h
  obtain ⟨a, h1, h⟩ := Option.bind_eq_some_iff.mp h
  obtain rfl := Option.some.inj h
  clear h
  have kA := impl_areaOf.calls k A c ys a W.drew (Kd.C_drew hC) hc h1
  have c1 := cell_of_one hinv
  have f1 := free_of_one hinv
  have HI := Aside0.mk hinv
  clear hinv hC h1
  go_enter Try.func26, Try.ntmps26
  go_wp2
  go_region_with (go_at_call 24; refine kA.mono ?_; rintro e w1 ⟨rfl, ⟨nd, rfl⟩⟩; clear kA)
  all_goals go_end0
  all_goals exact ⟨rfl, one_setCell (w := W.drewN (1 + nd)) HI.out, ((pw_below_drewN (Below.refl B W) (1 + nd)).setCell (p := ⟨bm, 0, none⟩) hB _), fun j hj hne => (heap_setCell_other _ _ _ _ hne).trans rfl⟩
open Go.Proofs.Ytbcfgglcabeckaa.HOrd in
set_option maxHeartbeats 8000000 in
set_option maxRecDepth 100000 in
theorem impl_OrderMost.calls (k : Nat) (A0 : Option Addr) (c0 : Nat) (l0 : List (List Int)) (r1 : Int) (r2 : Bool) (w : World) (hr0 : Kd.C (Kd.slice 3 (Kd.int .i64)) w A0 l0.length l0) (hc0 : l0.length ≤ c0) (h : impl_OrderMost.f k l0 = some (r1, r2)) :
    Calls Try.prog 10 #[.slice A0 l0.length c0] w fun e w' => e = .returned (.tuple #[.int .i64 r1, .bool r2]) ∧ Below w.heap.size w w' := by
  have hmf : ∀ (fn : Fn) (first cap : Array Value) (w : World), (Instr.makeFunc fn first cap).run Try.prog w = .ok (.func fn first cap) w := fun _ _ _ _ => rfl
  unfold impl_OrderMost.f at h
  obtain ⟨t, h1, h⟩ := Option.bind_eq_some_iff.mp h
  have k1 := impl_PathIn.calls k A0 c0 l0 t w hr0 hc0 h1
  clear h1
  cases t with
  | false =>
    rw [if_neg (by decide)] at h
    injection h with h
    injection h with h2 h3
    subst h2 h3
    go_enter Try.func10, Try.ntmps10
    go_wp2_with (go_at_call 23; refine k1.mono ?_; rintro e w1 ⟨rfl, ⟨nd, rfl⟩⟩; clear k1)
    go_ret2
    exact ⟨rfl, pw_below_drewN (Below.refl _ _) _⟩
  | true =>
    rw [if_pos rfl] at h
    by_cases c6 : (l0.length : Int) > 6
    · rw [if_pos c6] at h
      injection h with h
      injection h with h2 h3
      subst h2 h3
      have q6 : decide ((6 : Int) < (l0.length : Int)) = true := decide_eq_true c6
      have q7 : decide (6 < l0.length) = true := decide_eq_true (by omega)
      go_enter Try.func10, Try.ntmps10
      go_wp2_with (go_at_call 23; refine k1.mono ?_; rintro e w1 ⟨rfl, ⟨nd, rfl⟩⟩; clear k1)
      go_ret2
      exact ⟨rfl, pw_below_drewN (Below.refl _ _) _⟩
    · rw [if_neg c6] at h
      obtain ⟨a, h2, h⟩ := Option.bind_eq_some_iff.mp h
      obtain ⟨r, h3, h⟩ := Option.bind_eq_some_iff.mp h
      injection h with h
      injection h with h4 h5
      subst h4 h5
      have q6 : decide ((6 : Int) < (l0.length : Int)) = false := decide_eq_false c6
      have q7 : decide (6 < l0.length) = false := decide_eq_false (by omega)
      have k2 : ∀ nd, Calls Try.prog 24 #[.slice A0 l0.length c0] (w.drewN nd) _ := fun nd => impl_areaOf.calls k A0 c0 l0 a (w.drewN nd) (Kd.C_drewN hr0 nd) hc0 h2
      have k3 : ∀ nd, Calls Try.prog 25 #[.slice A0 l0.length c0, .func (.func 26) #[] #[pt w.heap.size]] ((w.drewN nd).alloc (.cells #[.int .i64 a] 3)) fun e w' => e = .returned (.tuple #[]) ∧ w'.heap[w.heap.size]? = some (.cells #[.int .i64 r] 3 (0, 0)) ∧ Below w.heap.size ((w.drewN nd).alloc (.cells #[.int .i64 a] 3)) w' := fun nd => by
        have e1 : ((w.drewN nd).alloc (.cells #[.int .i64 a] 3)).heap.size = w.heap.size + 1 := by simp
        exact impl_orders.calls (tell := 26) (tb := w.heap.size) (B := w.heap.size) (J := fun j => j = w.heap.size) (Inv := fun m W => W.heap[w.heap.size]? = some (.cells #[.int .i64 m] 3 (0, 0))) (step := impl_OrderMost.step k) (enters_of Try.func26 (by kernel_rfl) rfl) w _ A0 c0 l0 a r
          (impl_OrderMost.tells k _ _ _ (Nat.le_refl _)) (fun j hj => by rw [e1]; have : j = w.heap.size := hj; omega) (Nat.le_refl _) (by rw [e1]; omega) (fun s W W' hI hJ => (hJ _ rfl).trans hI) hr0 hc0 ((pw_below_drewN (Below.refl _ w) nd).alloc (Nat.le_refl _) _) (Go.Proofs.Ytbcfgglcabeckaa.HClo.alloc_new _ _ _ rfl) h3
      have fc : ∀ j, ((w.drewN j).alloc (.cells #[.int .i64 0] 3)).cell? ⟨w.heap.size, 0, none⟩ = some (.int .i64 0) := fun j => cell_of_one (Go.Proofs.Ytbcfgglcabeckaa.HClo.alloc_new (w.drewN j) _ _ rfl)
      have ff : ∀ j, ((w.drewN j).alloc (.cells #[.int .i64 0] 3)).frozen? ⟨w.heap.size, 0, none⟩ = false := fun j => free_of_one (Go.Proofs.Ytbcfgglcabeckaa.HClo.alloc_new (w.drewN j) _ _ rfl)
      have fs : ∀ j v, ((w.drewN j).alloc (.cells #[.int .i64 0] 3)).setCell ⟨w.heap.size, 0, none⟩ v = (w.drewN j).alloc (.cells #[v] 3) := fun j v => World.setCell_alloc_at _ _ _ _ _ rfl
      clear h2 h3 hr0
      go_enter Try.func10, Try.ntmps10
      go_wp2_with (first | (go_at_call 23; refine k1.mono ?_; rintro e w1 ⟨rfl, ⟨nd, rfl⟩⟩; clear k1) | (go_at_call 24; refine (k2 _).mono ?_; rintro e w1 ⟨rfl, ⟨nd2, rfl⟩⟩; clear k2) | (go_at_call 25; refine (k3 _).mono ?_; rintro e w1 ⟨rfl, hi, hb⟩; have c1 := cell_of_one hi; have HB := Aside0.mk hb; clear k3 hi hb))
      go_ret2
      exact ⟨rfl, ((pw_below_drewN (Below.refl _ w) _).alloc (Nat.le_refl _) _).trans HB.out⟩

/-! ### laws_eqIntS: function 27 -/
def laws_eqIntS.l0 : Nat → List Int → List Int → Int → Option (Bool)
  | 0, _, _, _ => none
  | k + 1, x0, x1, x5 => if x5 < (x0.length : Int) then (if 0 ≤ x5 then (if x5 < (x1.length : Int) then (if (rd x0 x5) = (rd x1 x5) then (laws_eqIntS.l0 k x0 x1 (wrap64 (x5 + 1))) else (some false)) else (none)) else (none)) else (some true)
def laws_eqIntS.f (k : Nat) (l0 : List Int) (l1 : List Int) : Option (Bool) := if (l0.length : Int) = (l1.length : Int) then (laws_eqIntS.l0 k l0 l1 0) else (some false)
theorem laws_eqIntS.mono_l : ∀ k, (∀ y0 y1 y2, LeO (laws_eqIntS.l0 k y0 y1 y2) (laws_eqIntS.l0 (k + 1) y0 y1 y2))
  | 0 => fun _ _ _ r h => by simp [laws_eqIntS.l0] at h
  | k + 1 => by
    have ih0 := laws_eqIntS.mono_l k
    · intro y0 y1 y2
      unfold laws_eqIntS.l0
      repeat' first
      | (with_reducible exact ih0 _ _ _)
      | (with_reducible exact LeO.refl _)
      | (with_reducible exact LeO.none _)
      | (with_reducible refine LeO.ite ?_ ?_)
      | (with_reducible refine LeO.bind ?_ (fun _ => ?_))
      | exact ih0 _ _ _
      | exact LeO.none _
      | refine LeO.ite ?_ ?_
      | refine LeO.bind ?_ (fun _ => ?_)
theorem laws_eqIntS.mono : ∀ a0 a1 k, LeO (laws_eqIntS.f k a0 a1) (laws_eqIntS.f (k + 1) a0 a1) := by
  intro a0 a1 k
  have ih0 := laws_eqIntS.mono_l k
  unfold laws_eqIntS.f
  repeat' first
      | (with_reducible exact ih0 _ _ _)
      | (with_reducible exact LeO.refl _)
      | (with_reducible exact LeO.none _)
      | (with_reducible refine LeO.ite ?_ ?_)
      | (with_reducible refine LeO.bind ?_ (fun _ => ?_))
      | exact ih0 _ _ _
      | exact LeO.none _
      | refine LeO.ite ?_ ?_
      | refine LeO.bind ?_ (fun _ => ?_)
set_option maxHeartbeats 8000000 in
set_option maxRecDepth 100000 in
theorem laws_eqIntS.calls (k : Nat) (A0 : Option Addr) (c0 : Nat) (l0 : List Int) (A1 : Option Addr) (c1 : Nat) (l1 : List Int) (r : Bool) (w : World) (hr0 : Kd.C (Kd.int .i64) w A0 l0.length l0) (hc0 : l0.length ≤ c0) (hr1 : Kd.C (Kd.int .i64) w A1 l1.length l1) (hc1 : l1.length ≤ c1) (h : laws_eqIntS.f k l0 l1 = some r) :
    Calls Try.prog 27 #[.slice A0 l0.length c0, .slice A1 l1.length c1] w fun e w' => e = .returned (.bool r) ∧ Drawn0 w w' := by
  have HR0 := Aside0.mk hr0
  have HC0 := Aside0.mk hc0
  clear hr0 hc0
  have HR1 := Aside0.mk hr1
  have HC1 := Aside0.mk hc1
  clear hr1 hc1
  have H : (if (l0.length : Int) = (l1.length : Int) then (laws_eqIntS.l0 k l0 l1 0) else (some false)) = some r := h
  clear h
  by_cases c3 : (l0.length : Int) = (l1.length : Int)
  · rw [if_pos c3] at H
    have c3b0 : ((l0.length : Int) == (l1.length : Int)) = true := beq_iff_eq.mpr c3
    have c3b1 : ((l0.length : Int) != (l1.length : Int)) = false := bne_eq_false_iff_eq.mpr c3
    have c3b2 : (l0.length == l1.length) = true := by first | simpa using c3 | (simp at c3 ⊢; omega)
    clear c3
    have H' := Aside0.mk H
    clear H
    go_enter Try.func27, Try.ntmps27
    go_wp2
    repeat (go_quiet (fail); try go_wp2)
    go_loopg [5] k (fun kq v5 w' => ∃ (x5_1 : Int), v5 = .int .i64 x5_1 ∧ Aside0 (laws_eqIntS.l0 kq l0 l1 x5_1 = some r) ∧ Aside0 (kq ≤ k) ∧ Drawn0 w w')
    case atStart => exact ⟨(0), (by first | rfl | (simp; done) | (simp [*]; done)), H', ⟨Nat.le_refl _⟩, by repeat (first | exact Drawn0.refl _ | apply Drawn0.step)⟩
    case round =>
      clear H'
      try clear c1
      try clear c2
      try clear p2
      try clear c3
      try clear c3b0
      try clear c3b1
      try clear c3b2
      obtain ⟨x5_1, rfl, HA, HK1, ⟨m1, rfl⟩⟩ := hrel
      cases gk with
      | zero => exact absurd HA.out (by simp [laws_eqIntS.l0])
      | succ k1 =>
        have H := HA.out
        clear HA
        simp only [laws_eqIntS.l0] at H
        by_cases c4 : x5_1 < (l0.length : Int)
        · rw [if_pos c4] at H
          have c4b0 : decide (x5_1 < (l0.length : Int)) = true := decide_eq_true c4
          clear c4
          by_cases c5 : 0 ≤ x5_1
          · rw [if_pos c5] at H
            have c5b0 : decide (0 ≤ x5_1) = true := decide_eq_true c5
            clear c5
            by_cases c6 : x5_1 < (l1.length : Int)
            · rw [if_pos c6] at H
              have c6b0 : decide (x5_1 < (l1.length : Int)) = true := decide_eq_true c6
              clear c6
              by_cases c7 : (rd l0 x5_1) = (rd l1 x5_1)
              · rw [if_pos c7] at H
                have c7b0 : ((rd l0 x5_1) == (rd l1 x5_1)) = true := beq_iff_eq.mpr c7
                have c7b1 : ((rd l0 x5_1) != (rd l1 x5_1)) = false := bne_eq_false_iff_eq.mpr c7
                clear c7
                have H' := Aside0.mk H
                clear H
                have p175 : 0 ≤ (x5_1 : Int) := of_decide_eq_true (by first | (with_reducible assumption) | assumption)
                have q175 : x5_1 < (l0.length : Int) := of_decide_eq_true (by first | (with_reducible assumption) | assumption)
                obtain ⟨ad175, e175, hx175_0⟩ := Kd.at_int HR0.out x5_1 p175 q175
                cases e175
                replace p175 := eq_true p175
                replace q175 := eq_true q175
                have p176 : 0 ≤ (x5_1 : Int) := of_decide_eq_true (by first | (with_reducible assumption) | assumption)
                have q176 : x5_1 < (l1.length : Int) := of_decide_eq_true (by first | (with_reducible assumption) | assumption)
                obtain ⟨ad176, e176, hx176_0⟩ := Kd.at_int HR1.out x5_1 p176 q176
                cases e176
                replace p176 := eq_true p176
                replace q176 := eq_true q176
                go_wp2
                repeat (go_quiet (fail); try go_wp2)
                go_roundg k1
                case measure => have := HK1.out; omega
                case rel => exact ⟨(wrap64 (x5_1 + 1)), (by first | rfl | (simp; done) | (simp [*]; done)), H', ⟨by have := HK1.out; omega⟩, by repeat (first | exact Drawn0.refl _ | apply Drawn0.step)⟩
              · rw [if_neg c7] at H
                have c7b0 : ((rd l0 x5_1) == (rd l1 x5_1)) = false := beq_eq_false_iff_ne.mpr c7
                have c7b1 : ((rd l0 x5_1) != (rd l1 x5_1)) = true := bne_iff_ne.mpr c7
                obtain rfl := Option.some.inj H
                have p175 : 0 ≤ (x5_1 : Int) := of_decide_eq_true (by first | (with_reducible assumption) | assumption)
                have q175 : x5_1 < (l0.length : Int) := of_decide_eq_true (by first | (with_reducible assumption) | assumption)
                obtain ⟨ad175, e175, hx175_0⟩ := Kd.at_int HR0.out x5_1 p175 q175
                cases e175
                replace p175 := eq_true p175
                replace q175 := eq_true q175
                have p176 : 0 ≤ (x5_1 : Int) := of_decide_eq_true (by first | (with_reducible assumption) | assumption)
                have q176 : x5_1 < (l1.length : Int) := of_decide_eq_true (by first | (with_reducible assumption) | assumption)
                obtain ⟨ad176, e176, hx176_0⟩ := Kd.at_int HR1.out x5_1 p176 q176
                cases e176
                replace p176 := eq_true p176
                replace q176 := eq_true q176
                go_wp2
                repeat (go_quiet (fail); try go_wp2)
                go_ret
                exact ⟨by first | rfl | (simp; done) | (simp [*]; done), by repeat (first | exact Drawn0.refl _ | apply Drawn0.step)⟩
            · rw [if_neg c6] at H
              exact absurd H (by simp)
          · rw [if_neg c5] at H
            exact absurd H (by simp)
        · rw [if_neg c4] at H
          have c4b0 : decide (x5_1 < (l0.length : Int)) = false := decide_eq_false c4
          clear c4
          obtain rfl := Option.some.inj H
          go_wp2
          repeat (go_quiet (fail); try go_wp2)
          go_ret
          exact ⟨by first | rfl | (simp; done) | (simp [*]; done), by repeat (first | exact Drawn0.refl _ | apply Drawn0.step)⟩
  · rw [if_neg c3] at H
    have c3b0 : ((l0.length : Int) == (l1.length : Int)) = false := beq_eq_false_iff_ne.mpr c3
    have c3b1 : ((l0.length : Int) != (l1.length : Int)) = true := bne_iff_ne.mpr c3
    have c3b2 : (l0.length == l1.length) = false := by first | simpa using c3 | (simp at c3 ⊢; omega)
    obtain rfl := Option.some.inj H
    go_enter Try.func27, Try.ntmps27
    go_wp2
    repeat (go_quiet (fail); try go_wp2)
    go_ret
    exact ⟨by first | rfl | (simp; done) | (simp [*]; done), by repeat (first | exact Drawn0.refl _ | apply Drawn0.step)⟩

/-! ### laws_eqIntSS: function 11 -/
def laws_eqIntSS.l0 : Nat → List (List Int) → List (List Int) → Int → Option (Bool)
  | 0, _, _, _ => none
  | k + 1, x0, x1, x5 => if x5 < (x0.length : Int) then (if 0 ≤ x5 then (if x5 < (x1.length : Int) then ((laws_eqIntS.f k (rd_L1 x0 x5) (rd_L1 x1 x5)).bind fun t179 => (if t179 = true then (laws_eqIntSS.l0 k x0 x1 (wrap64 (x5 + 1))) else (some false))) else (none)) else (none)) else (some true)
def laws_eqIntSS.f (k : Nat) (l0 : List (List Int)) (l1 : List (List Int)) : Option (Bool) := if (l0.length : Int) = (l1.length : Int) then (laws_eqIntSS.l0 k l0 l1 0) else (some false)
theorem laws_eqIntSS.mono_l : ∀ k, (∀ y0 y1 y2, LeO (laws_eqIntSS.l0 k y0 y1 y2) (laws_eqIntSS.l0 (k + 1) y0 y1 y2))
  | 0 => fun _ _ _ r h => by simp [laws_eqIntSS.l0] at h
  | k + 1 => by
    have ih0 := laws_eqIntSS.mono_l k
    · intro y0 y1 y2
      unfold laws_eqIntSS.l0
      repeat' first
      | (with_reducible exact ih0 _ _ _)
      | (with_reducible exact laws_eqIntS.mono _ _ _)
      | (with_reducible exact LeO.refl _)
      | (with_reducible exact LeO.none _)
      | (with_reducible refine LeO.ite ?_ ?_)
      | (with_reducible refine LeO.bind ?_ (fun _ => ?_))
      | exact ih0 _ _ _
      | exact laws_eqIntS.mono _ _ _
      | exact LeO.none _
      | refine LeO.ite ?_ ?_
      | refine LeO.bind ?_ (fun _ => ?_)
theorem laws_eqIntSS.mono : ∀ a0 a1 k, LeO (laws_eqIntSS.f k a0 a1) (laws_eqIntSS.f (k + 1) a0 a1) := by
  intro a0 a1 k
  have ih0 := laws_eqIntSS.mono_l k
  unfold laws_eqIntSS.f
  repeat' first
      | (with_reducible exact ih0 _ _ _)
      | (with_reducible exact laws_eqIntS.mono _ _ _)
      | (with_reducible exact LeO.refl _)
      | (with_reducible exact LeO.none _)
      | (with_reducible refine LeO.ite ?_ ?_)
      | (with_reducible refine LeO.bind ?_ (fun _ => ?_))
      | exact ih0 _ _ _
      | exact laws_eqIntS.mono _ _ _
      | exact LeO.none _
      | refine LeO.ite ?_ ?_
      | refine LeO.bind ?_ (fun _ => ?_)
set_option maxHeartbeats 8000000 in
set_option maxRecDepth 100000 in
theorem laws_eqIntSS.calls (k : Nat) (A0 : Option Addr) (c0 : Nat) (l0 : List (List Int)) (A1 : Option Addr) (c1 : Nat) (l1 : List (List Int)) (r : Bool) (w : World) (hr0 : Kd.C (Kd.slice 3 (Kd.int .i64)) w A0 l0.length l0) (hc0 : l0.length ≤ c0) (hr1 : Kd.C (Kd.slice 3 (Kd.int .i64)) w A1 l1.length l1) (hc1 : l1.length ≤ c1) (h : laws_eqIntSS.f k l0 l1 = some r) :
    Calls Try.prog 11 #[.slice A0 l0.length c0, .slice A1 l1.length c1] w fun e w' => e = .returned (.bool r) ∧ Drawn0 w w' := by
  have HR0 := Aside0.mk hr0
  have HC0 := Aside0.mk hc0
  clear hr0 hc0
  have HR1 := Aside0.mk hr1
  have HC1 := Aside0.mk hc1
  clear hr1 hc1
  have H : (if (l0.length : Int) = (l1.length : Int) then (laws_eqIntSS.l0 k l0 l1 0) else (some false)) = some r := h
  clear h
  by_cases c3 : (l0.length : Int) = (l1.length : Int)
  · rw [if_pos c3] at H
    have c3b0 : ((l0.length : Int) == (l1.length : Int)) = true := beq_iff_eq.mpr c3
    have c3b1 : ((l0.length : Int) != (l1.length : Int)) = false := bne_eq_false_iff_eq.mpr c3
    have c3b2 : (l0.length == l1.length) = true := by first | simpa using c3 | (simp at c3 ⊢; omega)
    clear c3
    have H' := Aside0.mk H
    clear H
    go_enter Try.func11, Try.ntmps11
    go_wp2
    repeat (go_quiet (fail); try go_wp2)
    go_loopg [5] k (fun kq v5 w' => ∃ (x5_1 : Int), v5 = .int .i64 x5_1 ∧ Aside0 (laws_eqIntSS.l0 kq l0 l1 x5_1 = some r) ∧ Aside0 (kq ≤ k) ∧ Drawn0 w w')
    case atStart => exact ⟨(0), (by first | rfl | (simp; done) | (simp [*]; done)), H', ⟨Nat.le_refl _⟩, by repeat (first | exact Drawn0.refl _ | apply Drawn0.step)⟩
    case round =>
      clear H'
      try clear c1
      try clear p2
      try clear c3
      try clear c3b0
      try clear c3b1
      try clear c3b2
      obtain ⟨x5_1, rfl, HA, HK1, ⟨m1, rfl⟩⟩ := hrel
      cases gk with
      | zero => exact absurd HA.out (by simp [laws_eqIntSS.l0])
      | succ k1 =>
        have H := HA.out
        clear HA
        simp only [laws_eqIntSS.l0] at H
        by_cases c4 : x5_1 < (l0.length : Int)
        · rw [if_pos c4] at H
          have c4b0 : decide (x5_1 < (l0.length : Int)) = true := decide_eq_true c4
          clear c4
          by_cases c5 : 0 ≤ x5_1
          · rw [if_pos c5] at H
            have c5b0 : decide (0 ≤ x5_1) = true := decide_eq_true c5
            clear c5
            by_cases c6 : x5_1 < (l1.length : Int)
            · rw [if_pos c6] at H
              have c6b0 : decide (x5_1 < (l1.length : Int)) = true := decide_eq_true c6
              clear c6
              replace H := Option.bind_eq_some_iff.mp H
              obtain ⟨t179, A70, H⟩ := H
              replace H : (if t179 = true then (laws_eqIntSS.l0 k1 l0 l1 (wrap64 (x5_1 + 1))) else (some false)) = some r := H
              have A7 := Aside0.mk A70
              clear A70
              by_cases c8 : t179 = true
              · subst c8
                have H1 : (laws_eqIntSS.l0 k1 l0 l1 (wrap64 (x5_1 + 1))) = some r := by rw [if_pos rfl] at H; exact H
                clear H
                have H := H1
                clear H1
                have H' := Aside0.mk H
                clear H
                have p177 : 0 ≤ (x5_1 : Int) := of_decide_eq_true (by first | (with_reducible assumption) | assumption)
                have q177 : x5_1 < (l0.length : Int) := of_decide_eq_true (by first | (with_reducible assumption) | assumption)
                obtain ⟨ad177, A177_0, c177_0, e177, hx177_0, hl177_0, hi177_0⟩ := at_L1 HR0.out x5_1 p177 q177
                cases e177
                have HR177_0 := Aside0.mk hi177_0
                have HC177_0 := Aside0.mk hl177_0
                clear hi177_0 hl177_0
                replace p177 := eq_true p177
                replace q177 := eq_true q177
                have p178 : 0 ≤ (x5_1 : Int) := of_decide_eq_true (by first | (with_reducible assumption) | assumption)
                have q178 : x5_1 < (l1.length : Int) := of_decide_eq_true (by first | (with_reducible assumption) | assumption)
                obtain ⟨ad178, A178_0, c178_0, e178, hx178_0, hl178_0, hi178_0⟩ := at_L1 HR1.out x5_1 p178 q178
                cases e178
                have HR178_0 := Aside0.mk hi178_0
                have HC178_0 := Aside0.mk hl178_0
                clear hi178_0 hl178_0
                replace p178 := eq_true p178
                replace q178 := eq_true q178
                go_wp2_with (first | (go_at_call 27; (with_reducible refine (laws_eqIntS.calls k1 _ _ (rd_L1 l0 x5_1) _ _ (rd_L1 l1 x5_1) true _ ?side1 ?side2 ?side3 ?side4 A7.out).mono ?_); (case side1 => repeat (first | exact HR177_0.out | (with_reducible refine Kd.C_alloc ?_ _) | (with_reducible refine Kd.C_drewN ?_ _) | (with_reducible refine Kd.C_drew ?_))); (case side2 => exact HC177_0.out); (case side3 => repeat (first | exact HR178_0.out | (with_reducible refine Kd.C_alloc ?_ _) | (with_reducible refine Kd.C_drewN ?_ _) | (with_reducible refine Kd.C_drew ?_))); (case side4 => exact HC178_0.out); rintro e w' ⟨rfl, ⟨nd, rfl⟩⟩; (try first | exact ⟨rfl, _, World.drewN_drewN _ _ _⟩ | exact ⟨rfl, _, Eq.trans (World.drewN_drewN _ _ _) (congrArg (World.drewN _) (Nat.add_assoc _ _ _))⟩)))
                repeat (go_quiet (first | (go_at_call 27; (with_reducible refine (laws_eqIntS.calls k1 _ _ (rd_L1 l0 x5_1) _ _ (rd_L1 l1 x5_1) true _ ?side1 ?side2 ?side3 ?side4 A7.out).mono ?_); (case side1 => repeat (first | exact HR177_0.out | (with_reducible refine Kd.C_alloc ?_ _) | (with_reducible refine Kd.C_drewN ?_ _) | (with_reducible refine Kd.C_drew ?_))); (case side2 => exact HC177_0.out); (case side3 => repeat (first | exact HR178_0.out | (with_reducible refine Kd.C_alloc ?_ _) | (with_reducible refine Kd.C_drewN ?_ _) | (with_reducible refine Kd.C_drew ?_))); (case side4 => exact HC178_0.out); rintro e w' ⟨rfl, ⟨nd, rfl⟩⟩; (try first | exact ⟨rfl, _, World.drewN_drewN _ _ _⟩ | exact ⟨rfl, _, Eq.trans (World.drewN_drewN _ _ _) (congrArg (World.drewN _) (Nat.add_assoc _ _ _))⟩))); try go_wp2_with (first | (go_at_call 27; (with_reducible refine (laws_eqIntS.calls k1 _ _ (rd_L1 l0 x5_1) _ _ (rd_L1 l1 x5_1) true _ ?side1 ?side2 ?side3 ?side4 A7.out).mono ?_); (case side1 => repeat (first | exact HR177_0.out | (with_reducible refine Kd.C_alloc ?_ _) | (with_reducible refine Kd.C_drewN ?_ _) | (with_reducible refine Kd.C_drew ?_))); (case side2 => exact HC177_0.out); (case side3 => repeat (first | exact HR178_0.out | (with_reducible refine Kd.C_alloc ?_ _) | (with_reducible refine Kd.C_drewN ?_ _) | (with_reducible refine Kd.C_drew ?_))); (case side4 => exact HC178_0.out); rintro e w' ⟨rfl, ⟨nd, rfl⟩⟩; (try first | exact ⟨rfl, _, World.drewN_drewN _ _ _⟩ | exact ⟨rfl, _, Eq.trans (World.drewN_drewN _ _ _) (congrArg (World.drewN _) (Nat.add_assoc _ _ _))⟩))))
                go_roundg k1
                case measure => have := HK1.out; omega
                case rel => exact ⟨(wrap64 (x5_1 + 1)), (by first | rfl | (simp; done) | (simp [*]; done)), H', ⟨by have := HK1.out; omega⟩, by repeat (first | exact Drawn0.refl _ | apply Drawn0.step)⟩
              · replace c8 := Bool.eq_false_iff.mpr c8
                subst c8
                have H1 : (some false) = some r := by rw [if_neg (show ¬ (false = true) by decide)] at H; exact H
                clear H
                have H := H1
                clear H1
                obtain rfl := Option.some.inj H
                have p177 : 0 ≤ (x5_1 : Int) := of_decide_eq_true (by first | (with_reducible assumption) | assumption)
                have q177 : x5_1 < (l0.length : Int) := of_decide_eq_true (by first | (with_reducible assumption) | assumption)
                obtain ⟨ad177, A177_0, c177_0, e177, hx177_0, hl177_0, hi177_0⟩ := at_L1 HR0.out x5_1 p177 q177
                cases e177
                have HR177_0 := Aside0.mk hi177_0
                have HC177_0 := Aside0.mk hl177_0
                clear hi177_0 hl177_0
                replace p177 := eq_true p177
                replace q177 := eq_true q177
                have p178 : 0 ≤ (x5_1 : Int) := of_decide_eq_true (by first | (with_reducible assumption) | assumption)
                have q178 : x5_1 < (l1.length : Int) := of_decide_eq_true (by first | (with_reducible assumption) | assumption)
                obtain ⟨ad178, A178_0, c178_0, e178, hx178_0, hl178_0, hi178_0⟩ := at_L1 HR1.out x5_1 p178 q178
                cases e178
                have HR178_0 := Aside0.mk hi178_0
                have HC178_0 := Aside0.mk hl178_0
                clear hi178_0 hl178_0
                replace p178 := eq_true p178
                replace q178 := eq_true q178
                go_wp2_with (first | (go_at_call 27; (with_reducible refine (laws_eqIntS.calls k1 _ _ (rd_L1 l0 x5_1) _ _ (rd_L1 l1 x5_1) false _ ?side1 ?side2 ?side3 ?side4 A7.out).mono ?_); (case side1 => repeat (first | exact HR177_0.out | (with_reducible refine Kd.C_alloc ?_ _) | (with_reducible refine Kd.C_drewN ?_ _) | (with_reducible refine Kd.C_drew ?_))); (case side2 => exact HC177_0.out); (case side3 => repeat (first | exact HR178_0.out | (with_reducible refine Kd.C_alloc ?_ _) | (with_reducible refine Kd.C_drewN ?_ _) | (with_reducible refine Kd.C_drew ?_))); (case side4 => exact HC178_0.out); rintro e w' ⟨rfl, ⟨nd, rfl⟩⟩; (try first | exact ⟨rfl, _, World.drewN_drewN _ _ _⟩ | exact ⟨rfl, _, Eq.trans (World.drewN_drewN _ _ _) (congrArg (World.drewN _) (Nat.add_assoc _ _ _))⟩)))
                repeat (go_quiet (first | (go_at_call 27; (with_reducible refine (laws_eqIntS.calls k1 _ _ (rd_L1 l0 x5_1) _ _ (rd_L1 l1 x5_1) false _ ?side1 ?side2 ?side3 ?side4 A7.out).mono ?_); (case side1 => repeat (first | exact HR177_0.out | (with_reducible refine Kd.C_alloc ?_ _) | (with_reducible refine Kd.C_drewN ?_ _) | (with_reducible refine Kd.C_drew ?_))); (case side2 => exact HC177_0.out); (case side3 => repeat (first | exact HR178_0.out | (with_reducible refine Kd.C_alloc ?_ _) | (with_reducible refine Kd.C_drewN ?_ _) | (with_reducible refine Kd.C_drew ?_))); (case side4 => exact HC178_0.out); rintro e w' ⟨rfl, ⟨nd, rfl⟩⟩; (try first | exact ⟨rfl, _, World.drewN_drewN _ _ _⟩ | exact ⟨rfl, _, Eq.trans (World.drewN_drewN _ _ _) (congrArg (World.drewN _) (Nat.add_assoc _ _ _))⟩))); try go_wp2_with (first | (go_at_call 27; (with_reducible refine (laws_eqIntS.calls k1 _ _ (rd_L1 l0 x5_1) _ _ (rd_L1 l1 x5_1) false _ ?side1 ?side2 ?side3 ?side4 A7.out).mono ?_); (case side1 => repeat (first | exact HR177_0.out | (with_reducible refine Kd.C_alloc ?_ _) | (with_reducible refine Kd.C_drewN ?_ _) | (with_reducible refine Kd.C_drew ?_))); (case side2 => exact HC177_0.out); (case side3 => repeat (first | exact HR178_0.out | (with_reducible refine Kd.C_alloc ?_ _) | (with_reducible refine Kd.C_drewN ?_ _) | (with_reducible refine Kd.C_drew ?_))); (case side4 => exact HC178_0.out); rintro e w' ⟨rfl, ⟨nd, rfl⟩⟩; (try first | exact ⟨rfl, _, World.drewN_drewN _ _ _⟩ | exact ⟨rfl, _, Eq.trans (World.drewN_drewN _ _ _) (congrArg (World.drewN _) (Nat.add_assoc _ _ _))⟩))))
                go_ret
                exact ⟨by first | rfl | (simp; done) | (simp [*]; done), by repeat (first | exact Drawn0.refl _ | apply Drawn0.step)⟩
            · rw [if_neg c6] at H
              exact absurd H (by simp)
          · rw [if_neg c5] at H
            exact absurd H (by simp)
        · rw [if_neg c4] at H
          have c4b0 : decide (x5_1 < (l0.length : Int)) = false := decide_eq_false c4
          clear c4
          obtain rfl := Option.some.inj H
          go_wp2
          repeat (go_quiet (fail); try go_wp2)
          go_ret
          exact ⟨by first | rfl | (simp; done) | (simp [*]; done), by repeat (first | exact Drawn0.refl _ | apply Drawn0.step)⟩
  · rw [if_neg c3] at H
    have c3b0 : ((l0.length : Int) == (l1.length : Int)) = false := beq_eq_false_iff_ne.mpr c3
    have c3b1 : ((l0.length : Int) != (l1.length : Int)) = true := bne_iff_ne.mpr c3
    have c3b2 : (l0.length == l1.length) = false := by first | simpa using c3 | (simp at c3 ⊢; omega)
    obtain rfl := Option.some.inj H
    go_enter Try.func11, Try.ntmps11
    go_wp2
    repeat (go_quiet (fail); try go_wp2)
    go_ret
    exact ⟨by first | rfl | (simp; done) | (simp [*]; done), by repeat (first | exact Drawn0.refl _ | apply Drawn0.step)⟩

/-! ### laws_FnExactOrderMost: function 3 -/
def laws_FnExactOrderMost.j0 : Nat → List (List Int) → List (List Int) → Bool → Option (Bool)
  | 0, _, _, _ => none
  | k + 1, x0, x6, x34 => if x34 = true then (some false) else ((laws_toIntSS.f k x0).bind fun t191 => ((laws_eqIntSS.f k x6 t191).bind fun t194 => (if t194 = true then (some true) else (some false))))
def laws_FnExactOrderMost.f (k : Nat) (l0 : List (List Int)) : Option (Bool) := (laws_szIntSS.f k l0 1048576).bind fun t180 => (if t180 < 0 then (some true) else ((laws_toIntSS.f k l0).bind fun t181 => ((spec_OrderMost.f k t181).bind fun bt184 => ((laws_toIntSS.f k l0).bind fun t186 => ((impl_OrderMost.f k t186).bind fun bt189 => (if bt189.1 = bt184.1 then (laws_FnExactOrderMost.j0 k l0 t186 (bt189.2 != bt184.2)) else (laws_FnExactOrderMost.j0 k l0 t186 true)))))))
theorem laws_FnExactOrderMost.mono_l : ∀ k, (∀ y0 y1 y2, LeO (laws_FnExactOrderMost.j0 k y0 y1 y2) (laws_FnExactOrderMost.j0 (k + 1) y0 y1 y2))
  | 0 => fun _ _ _ r h => by simp [laws_FnExactOrderMost.j0] at h
  | k + 1 => by
    have ih0 := laws_FnExactOrderMost.mono_l k
    · intro y0 y1 y2
      unfold laws_FnExactOrderMost.j0
      repeat' first
      | (with_reducible exact ih0 _ _ _)
      | (with_reducible exact impl_OrderMost.mono _ _)
      | (with_reducible exact laws_eqIntSS.mono _ _ _)
      | (with_reducible exact laws_szIntSS.mono _ _ _)
      | (with_reducible exact laws_toIntSS.mono _ _)
      | (with_reducible exact spec_OrderMost.mono _ _)
      | (with_reducible exact LeO.refl _)
      | (with_reducible exact LeO.none _)
      | (with_reducible refine LeO.ite ?_ ?_)
      | (with_reducible refine LeO.bind ?_ (fun _ => ?_))
      | exact ih0 _ _ _
      | exact impl_OrderMost.mono _ _
      | exact laws_eqIntSS.mono _ _ _
      | exact laws_szIntSS.mono _ _ _
      | exact laws_toIntSS.mono _ _
      | exact spec_OrderMost.mono _ _
      | exact LeO.none _
      | refine LeO.ite ?_ ?_
      | refine LeO.bind ?_ (fun _ => ?_)
theorem laws_FnExactOrderMost.mono : ∀ a0 k, LeO (laws_FnExactOrderMost.f k a0) (laws_FnExactOrderMost.f (k + 1) a0) := by
  intro a0 k
  have ih0 := laws_FnExactOrderMost.mono_l k
  unfold laws_FnExactOrderMost.f
  repeat' first
      | (with_reducible exact ih0 _ _ _)
      | (with_reducible exact impl_OrderMost.mono _ _)
      | (with_reducible exact laws_eqIntSS.mono _ _ _)
      | (with_reducible exact laws_szIntSS.mono _ _ _)
      | (with_reducible exact laws_toIntSS.mono _ _)
      | (with_reducible exact spec_OrderMost.mono _ _)
      | (with_reducible exact LeO.refl _)
      | (with_reducible exact LeO.none _)
      | (with_reducible refine LeO.ite ?_ ?_)
      | (with_reducible refine LeO.bind ?_ (fun _ => ?_))
      | exact ih0 _ _ _
      | exact impl_OrderMost.mono _ _
      | exact laws_eqIntSS.mono _ _ _
      | exact laws_szIntSS.mono _ _ _
      | exact laws_toIntSS.mono _ _
      | exact spec_OrderMost.mono _ _
      | exact LeO.none _
      | refine LeO.ite ?_ ?_
      | refine LeO.bind ?_ (fun _ => ?_)
set_option maxHeartbeats 8000000 in
set_option maxRecDepth 100000 in
theorem laws_FnExactOrderMost.calls (k : Nat) (A0 : Option Addr) (c0 : Nat) (l0 : List (List Int)) (r : Bool) (w : World) (hr0 : Kd.C (Kd.slice 3 (Kd.int .i64)) w A0 l0.length l0) (hc0 : l0.length ≤ c0) (h : laws_FnExactOrderMost.f k l0 = some r) :
    Calls Try.prog 3 #[.slice A0 l0.length c0] w fun e w' => e = .returned (.bool r) ∧ Below w.heap.size w w' := by
  have HR0 := Aside0.mk hr0
  have HC0 := Aside0.mk hc0
  clear hr0 hc0
  have HB := Aside0.mk (Below.refl w.heap.size w)
  have H : ((laws_szIntSS.f k l0 1048576).bind fun t180 => (if t180 < 0 then (some true) else ((laws_toIntSS.f k l0).bind fun t181 => ((spec_OrderMost.f k t181).bind fun bt184 => ((laws_toIntSS.f k l0).bind fun t186 => ((impl_OrderMost.f k t186).bind fun bt189 => (if bt189.1 = bt184.1 then (laws_FnExactOrderMost.j0 k l0 t186 (bt189.2 != bt184.2)) else (laws_FnExactOrderMost.j0 k l0 t186 true)))))))) = some r := h
  clear h
  replace H := Option.bind_eq_some_iff.mp H
  obtain ⟨t180, A20, H⟩ := H
  replace H : (if t180 < 0 then (some true) else ((laws_toIntSS.f k l0).bind fun t181 => ((spec_OrderMost.f k t181).bind fun bt184 => ((laws_toIntSS.f k l0).bind fun t186 => ((impl_OrderMost.f k t186).bind fun bt189 => (if bt189.1 = bt184.1 then (laws_FnExactOrderMost.j0 k l0 t186 (bt189.2 != bt184.2)) else (laws_FnExactOrderMost.j0 k l0 t186 true))))))) = some r := H
  have A2 := Aside0.mk A20
  clear A20
  by_cases c3 : t180 < 0
  · rw [if_pos c3] at H
    have c3b0 : decide (t180 < 0) = true := decide_eq_true c3
    clear c3
    obtain rfl := Option.some.inj H
    go_enter Try.func3, Try.ntmps3
    go_wp2_with (first | ((with_reducible refine gate_callee (f := 7) rfl ?_); refine goesL_ (some 11) rfl rfl Try.func7 (by kernel_rfl) rfl #[.slice A0 l0.length c0, .int .i64 1048576] rfl (by (try simp only [List.map_toArray, List.map_cons, List.map_nil]); first | done | rfl | (simp only [List.length_drop, List.length_take]; rfl)) ?_; (with_reducible refine (laws_szIntSS.calls k _ _ l0 1048576 t180 _ ?side1 ?side2 A2.out).mono ?_); (case side1 => repeat (first | exact HR0.out | (with_reducible refine Kd.C_alloc ?_ _) | (with_reducible refine Kd.C_drewN ?_ _) | (with_reducible refine Kd.C_drew ?_))); (case side2 => exact HC0.out); rintro e w' ⟨rfl, ⟨nd, rfl⟩⟩; refine ⟨_, rfl, ?_⟩))
    go_ret
    exact ⟨by first | rfl | (simp [errW_none, errW_some] <;> rfl) | (simp [*, errW_none, errW_some] <;> rfl), by repeat (first | (with_reducible first | exact HB.out | apply below_alloc | apply pw_below_drewN | apply below_drew1) | exact HB.out)⟩
  · rw [if_neg c3] at H
    have c3b0 : decide (t180 < 0) = false := decide_eq_false c3
    clear c3
    replace H := Option.bind_eq_some_iff.mp H
    obtain ⟨t181, A40, H⟩ := H
    replace H : ((spec_OrderMost.f k t181).bind fun bt184 => ((laws_toIntSS.f k l0).bind fun t186 => ((impl_OrderMost.f k t186).bind fun bt189 => (if bt189.1 = bt184.1 then (laws_FnExactOrderMost.j0 k l0 t186 (bt189.2 != bt184.2)) else (laws_FnExactOrderMost.j0 k l0 t186 true))))) = some r := H
    have A4 := Aside0.mk A40
    clear A40
    replace H := Option.bind_eq_some_iff.mp H
    obtain ⟨⟨t184, t185⟩, A50, H⟩ := H
    replace H : ((laws_toIntSS.f k l0).bind fun t186 => ((impl_OrderMost.f k t186).bind fun bt189 => (if bt189.1 = t184 then (laws_FnExactOrderMost.j0 k l0 t186 (bt189.2 != t185)) else (laws_FnExactOrderMost.j0 k l0 t186 true)))) = some r := H
    have A5 := Aside0.mk A50
    clear A50
    replace H := Option.bind_eq_some_iff.mp H
    obtain ⟨t186, A60, H⟩ := H
    replace H : ((impl_OrderMost.f k t186).bind fun bt189 => (if bt189.1 = t184 then (laws_FnExactOrderMost.j0 k l0 t186 (bt189.2 != t185)) else (laws_FnExactOrderMost.j0 k l0 t186 true))) = some r := H
    have A6 := Aside0.mk A60
    clear A60
    replace H := Option.bind_eq_some_iff.mp H
    obtain ⟨⟨t189, t190⟩, A70, H⟩ := H
    replace H : (if t189 = t184 then (laws_FnExactOrderMost.j0 k l0 t186 (t190 != t185)) else (laws_FnExactOrderMost.j0 k l0 t186 true)) = some r := H
    have A7 := Aside0.mk A70
    clear A70
    have HC8 := Aside0.mk H
    clear H
    go_enter Try.func3, Try.ntmps3
    go_upto_region 8 with (first | ((with_reducible refine gate_callee (f := 7) rfl ?_); refine goesL_ (some 11) rfl rfl Try.func7 (by kernel_rfl) rfl #[.slice A0 l0.length c0, .int .i64 1048576] rfl (by (try simp only [List.map_toArray, List.map_cons, List.map_nil]); first | done | rfl | (simp only [List.length_drop, List.length_take]; rfl)) ?_; (with_reducible refine (laws_szIntSS.calls k _ _ l0 1048576 t180 _ ?side1 ?side2 A2.out).mono ?_); (case side1 => repeat (first | exact HR0.out | (with_reducible refine Kd.C_alloc ?_ _) | (with_reducible refine Kd.C_drewN ?_ _) | (with_reducible refine Kd.C_drew ?_))); (case side2 => exact HC0.out); rintro e w' ⟨rfl, ⟨nd, rfl⟩⟩; refine ⟨_, rfl, ?_⟩) | ((with_reducible refine gate_callee (f := 9) rfl ?_); refine goesL_ (some 16) rfl rfl Try.func9 (by kernel_rfl) rfl #[.slice A0 l0.length c0] rfl (by (try simp only [List.map_toArray, List.map_cons, List.map_nil]); first | done | rfl | (simp only [List.length_drop, List.length_take]; rfl)) ?_; (with_reducible refine (laws_toIntSS.calls k _ _ l0 t181 _ ?side1 ?side2 A4.out).mono ?_); (case side1 => repeat (first | exact HR0.out | (with_reducible refine Kd.C_alloc ?_ _) | (with_reducible refine Kd.C_drewN ?_ _) | (with_reducible refine Kd.C_drew ?_))); (case side2 => exact HC0.out); rintro e w9 ⟨v182, rfl, ho0, hb⟩; refine ⟨_, rfl, ?_⟩; have n0_ := Aside0.mk (Kd.S_lower ho0 (below_size (by repeat (first | (with_reducible first | exact HB.out | apply below_alloc | apply pw_below_drewN | apply below_drew1) | exact HB.out)))); have n1_ := Aside0.mk (below_step (by repeat (first | (with_reducible first | exact HB.out | apply below_alloc | apply pw_below_drewN | apply below_drew1) | exact HB.out)) hb); clear HB; have HO183 := n0_; have HB := n1_; clear n0_ n1_; (try clear hb); (try clear hb2); (try clear hk); (try clear hi); (try clear ho0); obtain ⟨Ao10, co10, eo10⟩ := Kd.S_slice HO183.out; subst eo10) | ((with_reducible refine gate_callee (f := 8) rfl ?_); refine goesL_ (some 17) rfl rfl Try.func8 (by kernel_rfl) rfl #[.slice Ao10 t181.length co10] rfl (by (try simp only [List.map_toArray, List.map_cons, List.map_nil]); first | done | rfl | (simp only [List.length_drop, List.length_take]; rfl)) ?_; (with_reducible refine (spec_OrderMost.calls k _ _ t181 t184 t185 _ ?side1 ?side2 A5.out).mono ?_); (case side1 => repeat (first | exact (Kd.S_reads' HO183.out).2.2 | (with_reducible refine Kd.C_alloc ?_ _) | (with_reducible refine Kd.C_drewN ?_ _) | (with_reducible refine Kd.C_drew ?_))); (case side2 => exact (Kd.S_reads' HO183.out).2.1); rintro e w11 ⟨rfl, hb⟩; refine ⟨_, rfl, ?_⟩; have n0_ := Aside0.mk (Kd.S_below (by (with_reducible repeat (first | apply Kd.S_alloc | apply Kd.S_drewN | apply Kd.S_drew)); exact HO183.out) hb); have n1_ := Aside0.mk (below_step (by repeat (first | (with_reducible first | exact HB.out | apply below_alloc | apply pw_below_drewN | apply below_drew1) | exact HB.out)) hb); clear HO183; clear HB; have HO183 := n0_; have HB := n1_; clear n0_ n1_; (try clear hb); (try clear hb2); (try clear hk); (try clear hi)) | ((with_reducible refine gate_callee (f := 9) rfl ?_); refine goesL_ (some 21) rfl rfl Try.func9 (by kernel_rfl) rfl #[.slice A0 l0.length c0] rfl (by (try simp only [List.map_toArray, List.map_cons, List.map_nil]); first | done | rfl | (simp only [List.length_drop, List.length_take]; rfl)) ?_; (with_reducible refine (laws_toIntSS.calls k _ _ l0 t186 _ ?side1 ?side2 A6.out).mono ?_); (case side1 => repeat (first | exact (Kd.C_below HR0.out HB.out) | (with_reducible refine Kd.C_alloc ?_ _) | (with_reducible refine Kd.C_drewN ?_ _) | (with_reducible refine Kd.C_drew ?_))); (case side2 => exact HC0.out); rintro e w12 ⟨v187, rfl, ho0, hb⟩; refine ⟨_, rfl, ?_⟩; have n0_ := Aside0.mk (Kd.S_elder' (by (with_reducible repeat (first | apply Kd.S_alloc | apply Kd.S_drewN | apply Kd.S_drew)); exact HO183.out) (Kd.S_base ho0) hb); have n1_ := Aside0.mk (Kd.S_lower (Kd.S_new' ho0 (Kd.S_lt (by (with_reducible repeat (first | apply Kd.S_alloc | apply Kd.S_drewN | apply Kd.S_drew)); exact HO183.out))) (below_size (by repeat (first | (with_reducible first | exact HB.out | apply below_alloc | apply pw_below_drewN | apply below_drew1) | exact HB.out)))); have n2_ := Aside0.mk (below_step (by repeat (first | (with_reducible first | exact HB.out | apply below_alloc | apply pw_below_drewN | apply below_drew1) | exact HB.out)) hb); clear HO183; clear HB; have HO183 := n0_; have HO188 := n1_; have HB := n2_; clear n0_ n1_ n2_; (try clear hb); (try clear hb2); (try clear hk); (try clear hi); (try clear ho0); obtain ⟨Ao13, co13, eo13⟩ := Kd.S_slice HO188.out; subst eo13) | ((with_reducible refine gate_callee (f := 10) rfl ?_); refine goesL_ (some 24) rfl rfl Try.func10 (by kernel_rfl) rfl #[.slice Ao13 t186.length co13] rfl (by (try simp only [List.map_toArray, List.map_cons, List.map_nil]); first | done | rfl | (simp only [List.length_drop, List.length_take]; rfl)) ?_; (with_reducible refine (impl_OrderMost.calls k _ _ t186 t189 t190 _ ?side1 ?side2 A7.out).mono ?_); (case side1 => repeat (first | exact (Kd.S_reads' HO188.out).2.2 | (with_reducible refine Kd.C_alloc ?_ _) | (with_reducible refine Kd.C_drewN ?_ _) | (with_reducible refine Kd.C_drew ?_))); (case side2 => exact (Kd.S_reads' HO188.out).2.1); rintro e w14 ⟨rfl, hb⟩; refine ⟨_, rfl, ?_⟩; have n0_ := Aside0.mk (Kd.S_below (by (with_reducible repeat (first | apply Kd.S_alloc | apply Kd.S_drewN | apply Kd.S_drew)); exact HO183.out) hb); have n1_ := Aside0.mk (Kd.S_below (by (with_reducible repeat (first | apply Kd.S_alloc | apply Kd.S_drewN | apply Kd.S_drew)); exact HO188.out) hb); have n2_ := Aside0.mk (below_step (by repeat (first | (with_reducible first | exact HB.out | apply below_alloc | apply pw_below_drewN | apply below_drew1) | exact HB.out)) hb); clear HO183; clear HO188; clear HB; have HO183 := n0_; have HO188 := n1_; have HB := n2_; clear n0_ n1_ n2_; (try clear hb); (try clear hb2); (try clear hk); (try clear hi)))
    (try simp only [Act.put, List.setIfInBounds_toArray, List.set_cons_zero, List.set_cons_succ])
    go_cut [34] (fun v34 wc => ∃ (kq : Nat) (x34_7 : Bool), v34 = .bool x34_7 ∧ Aside0 (laws_FnExactOrderMost.j0 kq l0 t186 x34_7 = some r) ∧ Aside0 (kq ≤ k) ∧ Aside0 (Kd.S (Kd.slice 3 (Kd.int .i64)) 35 wc w.heap.size (fun _ => True) (.slice Ao13 t186.length co13) t186) ∧ Aside0 (Below w.heap.size w wc))
    case first =>
      have H := HC8.out
      clear HC8
      by_cases c15 : t189 = t184
      · rw [if_pos c15] at H
        have c15b0 : (t189 == t184) = true := beq_iff_eq.mpr c15
        have c15b1 : (t189 != t184) = false := bne_eq_false_iff_eq.mpr c15
        clear c15
        (first | rw [c15b0] | (simp only [i64_w, i32_w]; rw [c15b0]) | skip)
        have H' := Aside0.mk H
        clear H
        go_wp2
        go_meet
        case rel => exact ⟨_, ((t190 != t185)), (by first | rfl | (simp; done) | (simp [*]; done)), H', ⟨by first | omega | exact Nat.le_refl _⟩, ⟨by (with_reducible repeat (first | apply Kd.S_alloc | apply Kd.S_drewN | apply Kd.S_drew)); exact Kd.S_mono HO188.out (fun _ hk => trivial)⟩, ⟨by repeat (first | (with_reducible first | exact HB.out | apply below_alloc | apply pw_below_drewN | apply below_drew1) | exact HB.out)⟩⟩
      · rw [if_neg c15] at H
        have c15b0 : (t189 == t184) = false := beq_eq_false_iff_ne.mpr c15
        have c15b1 : (t189 != t184) = true := bne_iff_ne.mpr c15
        (first | rw [c15b0] | (simp only [i64_w, i32_w]; rw [c15b0]) | skip)
        have H' := Aside0.mk H
        clear H
        go_wp2
        go_meet
        case rel => exact ⟨_, (true), (by first | rfl | (simp; done) | (simp [*]; done)), H', ⟨by first | omega | exact Nat.le_refl _⟩, ⟨by (with_reducible repeat (first | apply Kd.S_alloc | apply Kd.S_drewN | apply Kd.S_drew)); exact Kd.S_mono HO188.out (fun _ hk => trivial)⟩, ⟨by repeat (first | (with_reducible first | exact HB.out | apply below_alloc | apply pw_below_drewN | apply below_drew1) | exact HB.out)⟩⟩
    case rest =>
      clear HC8
      try clear c1
      try clear p2
      try clear c3
      try clear c3b0
      try clear c7
      try clear c8
      try clear c9
      try clear c10
      try clear c15
      try clear c15b0
      try clear c15b1
      obtain ⟨kq, x34_7, rfl, HA, HJ7, HO_6, HB⟩ := hcut
      cases kq with
      | zero => exact absurd HA.out (by simp [laws_FnExactOrderMost.j0])
      | succ kj7 =>
        have H := HA.out
        clear HA
        simp only [laws_FnExactOrderMost.j0] at H
        by_cases c16 : x34_7 = true
        · subst c16
          have H1 : (some false) = some r := by rw [if_pos rfl] at H; exact H
          clear H
          have H := H1
          clear H1
          obtain rfl := Option.some.inj H
          go_wp2
          go_ret
          exact ⟨by first | rfl | (simp [errW_none, errW_some] <;> rfl) | (simp [*, errW_none, errW_some] <;> rfl), by repeat (first | (with_reducible first | exact HB.out | apply below_alloc | apply pw_below_drewN | apply below_drew1) | exact HB.out)⟩
        · replace c16 := Bool.eq_false_iff.mpr c16
          subst c16
          have H1 : ((laws_toIntSS.f kj7 l0).bind fun t191 => ((laws_eqIntSS.f kj7 t186 t191).bind fun t194 => (if t194 = true then (some true) else (some false)))) = some r := by rw [if_neg (show ¬ (false = true) by decide)] at H; exact H
          clear H
          have H := H1
          clear H1
          replace H := Option.bind_eq_some_iff.mp H
          obtain ⟨t191, A170, H⟩ := H
          replace H : ((laws_eqIntSS.f kj7 t186 t191).bind fun t194 => (if t194 = true then (some true) else (some false))) = some r := H
          have A17 := Aside0.mk A170
          clear A170
          replace H := Option.bind_eq_some_iff.mp H
          obtain ⟨t194, A180, H⟩ := H
          replace H : (if t194 = true then (some true) else (some false)) = some r := H
          have A18 := Aside0.mk A180
          clear A180
          by_cases c19 : t194 = true
          · subst c19
            have H1 : (some true) = some r := by rw [if_pos rfl] at H; exact H
            clear H
            have H := H1
            clear H1
            obtain rfl := Option.some.inj H
            go_wp2_with (first | ((with_reducible refine gate_callee (f := 9) rfl ?_); refine goesL_ (some 37) rfl rfl Try.func9 (by kernel_rfl) rfl #[.slice A0 l0.length c0] rfl (by (try simp only [List.map_toArray, List.map_cons, List.map_nil]); first | done | rfl | (simp only [List.length_drop, List.length_take]; rfl)) ?_; (with_reducible refine (laws_toIntSS.calls kj7 _ _ l0 t191 _ ?side1 ?side2 A17.out).mono ?_); (case side1 => repeat (first | exact (Kd.C_below HR0.out HB.out) | (with_reducible refine Kd.C_alloc ?_ _) | (with_reducible refine Kd.C_drewN ?_ _) | (with_reducible refine Kd.C_drew ?_))); (case side2 => exact HC0.out); rintro e w20 ⟨v192, rfl, ho0, hb⟩; refine ⟨_, rfl, ?_⟩; have n0_ := Aside0.mk (Kd.S_elder' (by (with_reducible repeat (first | apply Kd.S_alloc | apply Kd.S_drewN | apply Kd.S_drew)); exact HO_6.out) (Kd.S_base ho0) hb); have n1_ := Aside0.mk (Kd.S_lower (Kd.S_new' ho0 (Kd.S_lt (by (with_reducible repeat (first | apply Kd.S_alloc | apply Kd.S_drewN | apply Kd.S_drew)); exact HO_6.out))) (below_size (by repeat (first | (with_reducible first | exact HB.out | apply below_alloc | apply pw_below_drewN | apply below_drew1) | exact HB.out)))); have n2_ := Aside0.mk (below_step (by repeat (first | (with_reducible first | exact HB.out | apply below_alloc | apply pw_below_drewN | apply below_drew1) | exact HB.out)) hb); clear HO_6; clear HB; have HO_6 := n0_; have HO193 := n1_; have HB := n2_; clear n0_ n1_ n2_; (try clear hb); (try clear hb2); (try clear hk); (try clear hi); (try clear ho0); obtain ⟨Ao21, co21, eo21⟩ := Kd.S_slice HO193.out; subst eo21) | ((with_reducible refine gate_callee (f := 11) rfl ?_); refine goesL_ (some 38) rfl rfl Try.func11 (by kernel_rfl) rfl #[.slice Ao13 t186.length co13, .slice Ao21 t191.length co21] rfl (by (try simp only [List.map_toArray, List.map_cons, List.map_nil]); first | done | rfl | (simp only [List.length_drop, List.length_take]; rfl)) ?_; (with_reducible refine (laws_eqIntSS.calls kj7 _ _ t186 _ _ t191 true _ ?side1 ?side2 ?side3 ?side4 A18.out).mono ?_); (case side1 => repeat (first | exact (Kd.S_reads' HO_6.out).2.2 | (with_reducible refine Kd.C_alloc ?_ _) | (with_reducible refine Kd.C_drewN ?_ _) | (with_reducible refine Kd.C_drew ?_))); (case side2 => exact (Kd.S_reads' HO_6.out).2.1); (case side3 => repeat (first | exact (Kd.S_reads' HO193.out).2.2 | (with_reducible refine Kd.C_alloc ?_ _) | (with_reducible refine Kd.C_drewN ?_ _) | (with_reducible refine Kd.C_drew ?_))); (case side4 => exact (Kd.S_reads' HO193.out).2.1); rintro e w' ⟨rfl, ⟨nd, rfl⟩⟩; refine ⟨_, rfl, ?_⟩))
            go_ret
            exact ⟨by first | rfl | (simp [errW_none, errW_some] <;> rfl) | (simp [*, errW_none, errW_some] <;> rfl), by repeat (first | (with_reducible first | exact HB.out | apply below_alloc | apply pw_below_drewN | apply below_drew1) | exact HB.out)⟩
          · replace c19 := Bool.eq_false_iff.mpr c19
            subst c19
            have H1 : (some false) = some r := by rw [if_neg (show ¬ (false = true) by decide)] at H; exact H
            clear H
            have H := H1
            clear H1
            obtain rfl := Option.some.inj H
            go_wp2_with (first | ((with_reducible refine gate_callee (f := 9) rfl ?_); refine goesL_ (some 37) rfl rfl Try.func9 (by kernel_rfl) rfl #[.slice A0 l0.length c0] rfl (by (try simp only [List.map_toArray, List.map_cons, List.map_nil]); first | done | rfl | (simp only [List.length_drop, List.length_take]; rfl)) ?_; (with_reducible refine (laws_toIntSS.calls kj7 _ _ l0 t191 _ ?side1 ?side2 A17.out).mono ?_); (case side1 => repeat (first | exact (Kd.C_below HR0.out HB.out) | (with_reducible refine Kd.C_alloc ?_ _) | (with_reducible refine Kd.C_drewN ?_ _) | (with_reducible refine Kd.C_drew ?_))); (case side2 => exact HC0.out); rintro e w22 ⟨v192, rfl, ho0, hb⟩; refine ⟨_, rfl, ?_⟩; have n0_ := Aside0.mk (Kd.S_elder' (by (with_reducible repeat (first | apply Kd.S_alloc | apply Kd.S_drewN | apply Kd.S_drew)); exact HO_6.out) (Kd.S_base ho0) hb); have n1_ := Aside0.mk (Kd.S_lower (Kd.S_new' ho0 (Kd.S_lt (by (with_reducible repeat (first | apply Kd.S_alloc | apply Kd.S_drewN | apply Kd.S_drew)); exact HO_6.out))) (below_size (by repeat (first | (with_reducible first | exact HB.out | apply below_alloc | apply pw_below_drewN | apply below_drew1) | exact HB.out)))); have n2_ := Aside0.mk (below_step (by repeat (first | (with_reducible first | exact HB.out | apply below_alloc | apply pw_below_drewN | apply below_drew1) | exact HB.out)) hb); clear HO_6; clear HB; have HO_6 := n0_; have HO193 := n1_; have HB := n2_; clear n0_ n1_ n2_; (try clear hb); (try clear hb2); (try clear hk); (try clear hi); (try clear ho0); obtain ⟨Ao23, co23, eo23⟩ := Kd.S_slice HO193.out; subst eo23) | ((with_reducible refine gate_callee (f := 11) rfl ?_); refine goesL_ (some 38) rfl rfl Try.func11 (by kernel_rfl) rfl #[.slice Ao13 t186.length co13, .slice Ao23 t191.length co23] rfl (by (try simp only [List.map_toArray, List.map_cons, List.map_nil]); first | done | rfl | (simp only [List.length_drop, List.length_take]; rfl)) ?_; (with_reducible refine (laws_eqIntSS.calls kj7 _ _ t186 _ _ t191 false _ ?side1 ?side2 ?side3 ?side4 A18.out).mono ?_); (case side1 => repeat (first | exact (Kd.S_reads' HO_6.out).2.2 | (with_reducible refine Kd.C_alloc ?_ _) | (with_reducible refine Kd.C_drewN ?_ _) | (with_reducible refine Kd.C_drew ?_))); (case side2 => exact (Kd.S_reads' HO_6.out).2.1); (case side3 => repeat (first | exact (Kd.S_reads' HO193.out).2.2 | (with_reducible refine Kd.C_alloc ?_ _) | (with_reducible refine Kd.C_drewN ?_ _) | (with_reducible refine Kd.C_drew ?_))); (case side4 => exact (Kd.S_reads' HO193.out).2.1); rintro e w' ⟨rfl, ⟨nd, rfl⟩⟩; refine ⟨_, rfl, ?_⟩))
            go_ret
            exact ⟨by first | rfl | (simp [errW_none, errW_some] <;> rfl) | (simp [*, errW_none, errW_some] <;> rfl), by repeat (first | (with_reducible first | exact HB.out | apply below_alloc | apply pw_below_drewN | apply below_drew1) | exact HB.out)⟩

end Go.Proofs.Ytbcfgglcabeckaa.PFnExactOrderMost
