-- Made by hprint.py (wip/) out of the translation; not trusted: Lean checks it.
import Derived.Test.YtbcfgglcabeckaaPFnExactOrderMostx0
import Derived.Test.YtbcfgglcabeckaaPFnExactOrderMostx1
namespace Go.Proofs.Ytbcfgglcabeckaa.PFnExactOrderMost
open Go.RowKit Go.Proofs.YtbcfgglcabeckaaW.PrintWords Go.Proofs.YtbcfgglcabeckaaW.PrintLast Go.Proofs.YtbcfgglcabeckaaW.PrintMore
attribute [local go_sem] max2_int min2_int max_two min_two max_three min_three max_four min_four   -- for this text's walks alone
set_option linter.unusedVariables false
set_option linter.unusedSimpArgs false

/-! ### spec_l6sArea: function 38 -/
def spec_l6sArea.l0 : Nat → Int → List (List Int) → Int → Option (Int)
  | 0, _, _, _ => none
  | k + 1, x3, x4, x5 => if x5 < (x4.length : Int) then (if 0 ≤ x5 then (if (x4.length : Int) = 0 then (none) else (if 0 ≤ (Int.tmod (wrap64 (x5 + 1)) (x4.length : Int)) then (if (Int.tmod (wrap64 (x5 + 1)) (x4.length : Int)) < (x4.length : Int) then ((spec_l6sCross.f (rd_L1 x4 x5) (rd_L1 x4 (Int.tmod (wrap64 (x5 + 1)) (x4.length : Int)))).bind fun t140 => (spec_l6sArea.l0 k (wrap64 (x3 + t140)) x4 (wrap64 (x5 + 1)))) else (none)) else (none))) else (none)) else (some x3)
def spec_l6sArea.f (k : Nat) (l0 : List (List Int)) : Option (Int) := (spec_l6sCorners.f k l0).bind fun t135 => (spec_l6sArea.l0 k 0 t135 0)
theorem spec_l6sArea.mono_l : ∀ k, (∀ y0 y1 y2, LeO (spec_l6sArea.l0 k y0 y1 y2) (spec_l6sArea.l0 (k + 1) y0 y1 y2))
  | 0 => fun _ _ _ r h => by simp [spec_l6sArea.l0] at h
  | k + 1 => by
    have ih0 := spec_l6sArea.mono_l k
    · intro y0 y1 y2
      unfold spec_l6sArea.l0
      repeat' first
      | (with_reducible exact ih0 _ _ _)
      | (with_reducible exact spec_l6sCorners.mono _ _)
      | (with_reducible exact LeO.refl _)
      | (with_reducible exact LeO.none _)
      | (with_reducible refine LeO.ite ?_ ?_)
      | (with_reducible refine LeO.bind ?_ (fun _ => ?_))
      | exact ih0 _ _ _
      | exact spec_l6sCorners.mono _ _
      | exact LeO.none _
      | refine LeO.ite ?_ ?_
      | refine LeO.bind ?_ (fun _ => ?_)
theorem spec_l6sArea.mono : ∀ a0 k, LeO (spec_l6sArea.f k a0) (spec_l6sArea.f (k + 1) a0) := by
  intro a0 k
  have ih0 := spec_l6sArea.mono_l k
  unfold spec_l6sArea.f
  repeat' first
      | (with_reducible exact ih0 _ _ _)
      | (with_reducible exact spec_l6sCorners.mono _ _)
      | (with_reducible exact LeO.refl _)
      | (with_reducible exact LeO.none _)
      | (with_reducible refine LeO.ite ?_ ?_)
      | (with_reducible refine LeO.bind ?_ (fun _ => ?_))
      | exact ih0 _ _ _
      | exact spec_l6sCorners.mono _ _
      | exact LeO.none _
      | refine LeO.ite ?_ ?_
      | refine LeO.bind ?_ (fun _ => ?_)
set_option maxHeartbeats 8000000 in
set_option maxRecDepth 100000 in
theorem spec_l6sArea.calls (k : Nat) (A0 : Option Addr) (c0 : Nat) (l0 : List (List Int)) (r : Int) (w : World) (hr0 : Kd.C (Kd.slice 3 (Kd.int .i64)) w A0 l0.length l0) (hc0 : l0.length ≤ c0) (h : spec_l6sArea.f k l0 = some r) :
    Calls Try.prog 38 #[.slice A0 l0.length c0] w fun e w' => e = .returned (.int .i64 r) ∧ Below w.heap.size w w' := by
  have HR0 := Aside0.mk hr0
  have HC0 := Aside0.mk hc0
  clear hr0 hc0
  have HB := Aside0.mk (Below.refl w.heap.size w)
  have H : ((spec_l6sCorners.f k l0).bind fun t135 => (spec_l6sArea.l0 k 0 t135 0)) = some r := h
  clear h
  replace H := Option.bind_eq_some_iff.mp H
  obtain ⟨t135, A20, H⟩ := H
  replace H : (spec_l6sArea.l0 k 0 t135 0) = some r := H
  have A2 := Aside0.mk A20
  clear A20
  have H' := Aside0.mk H
  clear H
  go_enter Try.func38, Try.ntmps38
  go_wp2_with (first | (go_at_call 48; (with_reducible refine (spec_l6sCorners.calls k _ _ l0 t135 _ ?side1 ?side2 A2.out).mono ?_); (case side1 => repeat (first | exact HR0.out | (with_reducible refine Kd.C_alloc ?_ _) | (with_reducible refine Kd.C_drewN ?_ _) | (with_reducible refine Kd.C_drew ?_))); (case side2 => exact HC0.out); rintro e w3 ⟨v136, rfl, ho0, hb⟩; have n0_ := Aside0.mk (Kd.S_lower ho0 (below_size (by repeat (first | (with_reducible first | exact HB.out | apply below_alloc | apply pw_below_drewN | apply below_drew1) | exact HB.out)))); have n1_ := Aside0.mk (below_step (by repeat (first | (with_reducible first | exact HB.out | apply below_alloc | apply pw_below_drewN | apply below_drew1) | exact HB.out)) hb); clear HB; have HO137 := n0_; have HB := n1_; clear n0_ n1_; (try clear hb); (try clear hb2); (try clear hk); (try clear hi); (try clear ho0)))
  repeat (go_quiet (first | (go_at_call 48; (with_reducible refine (spec_l6sCorners.calls k _ _ l0 t135 _ ?side1 ?side2 A2.out).mono ?_); (case side1 => repeat (first | exact HR0.out | (with_reducible refine Kd.C_alloc ?_ _) | (with_reducible refine Kd.C_drewN ?_ _) | (with_reducible refine Kd.C_drew ?_))); (case side2 => exact HC0.out); rintro e w3 ⟨v136, rfl, ho0, hb⟩; have n0_ := Aside0.mk (Kd.S_lower ho0 (below_size (by repeat (first | (with_reducible first | exact HB.out | apply below_alloc | apply pw_below_drewN | apply below_drew1) | exact HB.out)))); have n1_ := Aside0.mk (below_step (by repeat (first | (with_reducible first | exact HB.out | apply below_alloc | apply pw_below_drewN | apply below_drew1) | exact HB.out)) hb); clear HB; have HO137 := n0_; have HB := n1_; clear n0_ n1_; (try clear hb); (try clear hb2); (try clear hk); (try clear hi); (try clear ho0))); try go_wp2_with (first | (go_at_call 48; (with_reducible refine (spec_l6sCorners.calls k _ _ l0 t135 _ ?side1 ?side2 A2.out).mono ?_); (case side1 => repeat (first | exact HR0.out | (with_reducible refine Kd.C_alloc ?_ _) | (with_reducible refine Kd.C_drewN ?_ _) | (with_reducible refine Kd.C_drew ?_))); (case side2 => exact HC0.out); rintro e w3 ⟨v136, rfl, ho0, hb⟩; have n0_ := Aside0.mk (Kd.S_lower ho0 (below_size (by repeat (first | (with_reducible first | exact HB.out | apply below_alloc | apply pw_below_drewN | apply below_drew1) | exact HB.out)))); have n1_ := Aside0.mk (below_step (by repeat (first | (with_reducible first | exact HB.out | apply below_alloc | apply pw_below_drewN | apply below_drew1) | exact HB.out)) hb); clear HB; have HO137 := n0_; have HB := n1_; clear n0_ n1_; (try clear hb); (try clear hb2); (try clear hk); (try clear hi); (try clear ho0))))
  go_loopg [3, 5] k (fun kq v3 v5 w' => ∃ (x3_1 : Int) (x5_1 : Int), v3 = .int .i64 x3_1 ∧ v5 = .int .i64 x5_1 ∧ Aside0 (spec_l6sArea.l0 kq x3_1 t135 x5_1 = some r) ∧ Aside0 (kq ≤ k) ∧ Aside0 (Kd.S (Kd.slice 3 (Kd.int .i64)) 35 w' w.heap.size (fun _ => True) v136 t135) ∧ Aside0 (Below w.heap.size w w'))
  case atStart => exact ⟨(0), (0), (by first | rfl | (simp; done) | (simp [*]; done)), (by first | rfl | (simp; done) | (simp [*]; done)), H', ⟨Nat.le_refl _⟩, ⟨by (with_reducible repeat (first | apply Kd.S_alloc | apply Kd.S_drewN | apply Kd.S_drew)); exact HO137.out⟩, ⟨by repeat (first | (with_reducible first | exact HB.out | apply below_alloc | apply pw_below_drewN | apply below_drew1) | exact HB.out)⟩⟩
  case round =>
    clear H'
    try clear p2
    try clear c3
    obtain ⟨x3_1, x5_1, rfl, rfl, HA, HK1, HO_4, HB⟩ := hrel
    cases gk with
    | zero => exact absurd HA.out (by simp [spec_l6sArea.l0])
    | succ k1 =>
      have H := HA.out
      clear HA
      simp only [spec_l6sArea.l0] at H
      by_cases c4 : x5_1 < (t135.length : Int)
      · rw [if_pos c4] at H
        have c4b0 : decide (x5_1 < (t135.length : Int)) = true := decide_eq_true c4
        clear c4
        by_cases c5 : 0 ≤ x5_1
        · rw [if_pos c5] at H
          have c5b0 : decide (0 ≤ x5_1) = true := decide_eq_true c5
          clear c5
          by_cases c6 : (t135.length : Int) = 0
          · rw [if_pos c6] at H
            exact absurd H (by simp)
          · rw [if_neg c6] at H
            have c6b0 : ((t135.length : Int) == 0) = false := beq_eq_false_iff_ne.mpr c6
            have c6b1 : ((t135.length : Int) != 0) = true := bne_iff_ne.mpr c6
            have c6b2 : ¬ (t135 = []) := fun h_ => c6 (by rw [h_]; rfl)
            obtain ⟨ji7, hji7⟩ : ∃ j_ : Int, (Int.tmod (wrap64 (x5_1 + 1)) (t135.length : Int)) = j_ := ⟨_, rfl⟩
            replace H : (if 0 ≤ (ji7) then (if (ji7) < (t135.length : Int) then ((spec_l6sCross.f (rd_L1 t135 x5_1) (rd_L1 t135 (ji7))).bind fun t140 => (spec_l6sArea.l0 k1 (wrap64 (x3_1 + t140)) t135 (wrap64 (x5_1 + 1)))) else (none)) else (none)) = some r := by first | (rw [hji7] at H; exact H) | (simp only [hji7] at H ⊢; exact H)
            by_cases c8 : 0 ≤ (ji7)
            · rw [if_pos c8] at H
              have c8b0 : decide (0 ≤ (ji7)) = true := decide_eq_true c8
              clear c8
              by_cases c9 : (ji7) < (t135.length : Int)
              · rw [if_pos c9] at H
                have c9b0 : decide ((ji7) < (t135.length : Int)) = true := decide_eq_true c9
                clear c9
                replace H := Option.bind_eq_some_iff.mp H
                obtain ⟨t140, A100, H⟩ := H
                replace H : (spec_l6sArea.l0 k1 (wrap64 (x3_1 + t140)) t135 (wrap64 (x5_1 + 1))) = some r := H
                have A10 := Aside0.mk A100
                clear A100
                have H' := Aside0.mk H
                clear H
                obtain ⟨Ao11, co11, eo11⟩ := Kd.S_slice HO_4.out
                subst eo11
                have p138 : 0 ≤ (x5_1 : Int) := of_decide_eq_true (by first | (with_reducible assumption) | assumption)
                have q138 : x5_1 < (t135.length : Int) := of_decide_eq_true (by first | (with_reducible assumption) | assumption)
                obtain ⟨ad138, A138_0, c138_0, e138, hx138_0, hl138_0, hi138_0⟩ := at_L1 (Kd.S_reads' HO_4.out).2.2 x5_1 p138 q138
                cases e138
                obtain ⟨ce138, hce138, hMe138, hcc138⟩ := Kd.S_get HO_4.out [] x5_1 p138 (by first | exact q138 | exact of_decide_eq_true (by first | (with_reducible assumption) | assumption) | (have e_ := (Kd.S_reads' HO_4.out).1; omega))
                obtain ⟨ve138_0, rfl, ge138_0⟩ := hMe138
                have hv138_0 := hcc138 0 _ rfl
                rw [Nat.add_zero, show ((Kd.slice 3 (Kd.int .i64))).sz = 1 from rfl, Nat.mul_one] at hv138_0
                replace hv138_0 := Option.some.inj (hv138_0.symm.trans hx138_0)
                rw [hv138_0] at ge138_0
                have HL138_0 := Aside0.mk (show Kd.R (Kd.int .i64) 3 _ _ _ _ (rd_L1 t135 x5_1) from ge138_0)
                clear hv138_0 ge138_0
                clear hcc138 hce138
                have HR138_0 := Aside0.mk hi138_0
                have HC138_0 := Aside0.mk hl138_0
                clear hi138_0 hl138_0
                replace p138 := eq_true p138
                replace q138 := eq_true q138
                have p139 : 0 ≤ ((ji7) : Int) := of_decide_eq_true (by first | (with_reducible assumption) | assumption)
                have q139 : (ji7) < (t135.length : Int) := of_decide_eq_true (by first | (with_reducible assumption) | assumption)
                obtain ⟨ad139, A139_0, c139_0, e139, hx139_0, hl139_0, hi139_0⟩ := at_L1 (Kd.S_reads' HO_4.out).2.2 (ji7) p139 q139
                obtain rfl : ad138 = ad139 := (by injection e139)
                obtain ⟨ce139, hce139, hMe139, hcc139⟩ := Kd.S_get HO_4.out [] (ji7) p139 (by first | exact q139 | exact of_decide_eq_true (by first | (with_reducible assumption) | assumption) | (have e_ := (Kd.S_reads' HO_4.out).1; omega))
                obtain ⟨ve139_0, rfl, ge139_0⟩ := hMe139
                have hv139_0 := hcc139 0 _ rfl
                rw [Nat.add_zero, show ((Kd.slice 3 (Kd.int .i64))).sz = 1 from rfl, Nat.mul_one] at hv139_0
                replace hv139_0 := Option.some.inj (hv139_0.symm.trans hx139_0)
                rw [hv139_0] at ge139_0
                have HL139_0 := Aside0.mk (show Kd.R (Kd.int .i64) 3 _ _ _ _ (rd_L1 t135 (ji7)) from ge139_0)
                clear hv139_0 ge139_0
                clear hcc139 hce139
                have HR139_0 := Aside0.mk hi139_0
                have HC139_0 := Aside0.mk hl139_0
                clear hi139_0 hl139_0
                replace p139 := eq_true p139
                replace q139 := eq_true q139
                go_wp2_with (first | (go_at_call 49; (with_reducible refine (spec_l6sCross.calls _ _ (rd_L1 t135 x5_1) _ _ (rd_L1 t135 (ji7)) t140 _ ?side1 ?side2 ?side3 ?side4 A10.out).mono ?_); (case side1 => repeat (first | exact (by repeat (first | (with_reducible exact HR138_0.out) | (with_reducible refine Kd.C_alloc ?_ _) | (with_reducible refine Kd.C_drewN ?_ _) | (with_reducible refine Kd.C_drew ?_) | exact HR138_0.out)) | (with_reducible refine Kd.C_alloc ?_ _) | (with_reducible refine Kd.C_drewN ?_ _) | (with_reducible refine Kd.C_drew ?_))); (case side2 => exact HC138_0.out); (case side3 => repeat (first | exact (by repeat (first | (with_reducible exact HR139_0.out) | (with_reducible refine Kd.C_alloc ?_ _) | (with_reducible refine Kd.C_drewN ?_ _) | (with_reducible refine Kd.C_drew ?_) | exact HR139_0.out)) | (with_reducible refine Kd.C_alloc ?_ _) | (with_reducible refine Kd.C_drewN ?_ _) | (with_reducible refine Kd.C_drew ?_))); (case side4 => exact HC139_0.out); rintro e w' ⟨rfl, ⟨nd, rfl⟩⟩; (try first | exact ⟨rfl, _, World.drewN_drewN _ _ _⟩ | exact ⟨rfl, _, Eq.trans (World.drewN_drewN _ _ _) (congrArg (World.drewN _) (Nat.add_assoc _ _ _))⟩)))
                repeat (go_quiet (first | (go_at_call 49; (with_reducible refine (spec_l6sCross.calls _ _ (rd_L1 t135 x5_1) _ _ (rd_L1 t135 (ji7)) t140 _ ?side1 ?side2 ?side3 ?side4 A10.out).mono ?_); (case side1 => repeat (first | exact (by repeat (first | (with_reducible exact HR138_0.out) | (with_reducible refine Kd.C_alloc ?_ _) | (with_reducible refine Kd.C_drewN ?_ _) | (with_reducible refine Kd.C_drew ?_) | exact HR138_0.out)) | (with_reducible refine Kd.C_alloc ?_ _) | (with_reducible refine Kd.C_drewN ?_ _) | (with_reducible refine Kd.C_drew ?_))); (case side2 => exact HC138_0.out); (case side3 => repeat (first | exact (by repeat (first | (with_reducible exact HR139_0.out) | (with_reducible refine Kd.C_alloc ?_ _) | (with_reducible refine Kd.C_drewN ?_ _) | (with_reducible refine Kd.C_drew ?_) | exact HR139_0.out)) | (with_reducible refine Kd.C_alloc ?_ _) | (with_reducible refine Kd.C_drewN ?_ _) | (with_reducible refine Kd.C_drew ?_))); (case side4 => exact HC139_0.out); rintro e w' ⟨rfl, ⟨nd, rfl⟩⟩; (try first | exact ⟨rfl, _, World.drewN_drewN _ _ _⟩ | exact ⟨rfl, _, Eq.trans (World.drewN_drewN _ _ _) (congrArg (World.drewN _) (Nat.add_assoc _ _ _))⟩))); try go_wp2_with (first | (go_at_call 49; (with_reducible refine (spec_l6sCross.calls _ _ (rd_L1 t135 x5_1) _ _ (rd_L1 t135 (ji7)) t140 _ ?side1 ?side2 ?side3 ?side4 A10.out).mono ?_); (case side1 => repeat (first | exact (by repeat (first | (with_reducible exact HR138_0.out) | (with_reducible refine Kd.C_alloc ?_ _) | (with_reducible refine Kd.C_drewN ?_ _) | (with_reducible refine Kd.C_drew ?_) | exact HR138_0.out)) | (with_reducible refine Kd.C_alloc ?_ _) | (with_reducible refine Kd.C_drewN ?_ _) | (with_reducible refine Kd.C_drew ?_))); (case side2 => exact HC138_0.out); (case side3 => repeat (first | exact (by repeat (first | (with_reducible exact HR139_0.out) | (with_reducible refine Kd.C_alloc ?_ _) | (with_reducible refine Kd.C_drewN ?_ _) | (with_reducible refine Kd.C_drew ?_) | exact HR139_0.out)) | (with_reducible refine Kd.C_alloc ?_ _) | (with_reducible refine Kd.C_drewN ?_ _) | (with_reducible refine Kd.C_drew ?_))); (case side4 => exact HC139_0.out); rintro e w' ⟨rfl, ⟨nd, rfl⟩⟩; (try first | exact ⟨rfl, _, World.drewN_drewN _ _ _⟩ | exact ⟨rfl, _, Eq.trans (World.drewN_drewN _ _ _) (congrArg (World.drewN _) (Nat.add_assoc _ _ _))⟩))))
                go_roundg k1
                case measure => have := HK1.out; omega
                case rel => exact ⟨(wrap64 (x3_1 + t140)), (wrap64 (x5_1 + 1)), (by first | rfl | (simp; done) | (simp [*]; done)), (by first | rfl | (simp; done) | (simp [*]; done)), H', ⟨by have := HK1.out; omega⟩, ⟨by (with_reducible repeat (first | apply Kd.S_alloc | apply Kd.S_drewN | apply Kd.S_drew)); exact HO_4.out⟩, ⟨by repeat (first | (with_reducible first | exact HB.out | apply below_alloc | apply pw_below_drewN | apply below_drew1) | exact HB.out)⟩⟩
              · rw [if_neg c9] at H
                exact absurd H (by simp)
            · rw [if_neg c8] at H
              exact absurd H (by simp)
        · rw [if_neg c5] at H
          exact absurd H (by simp)
      · rw [if_neg c4] at H
        have c4b0 : decide (x5_1 < (t135.length : Int)) = false := decide_eq_false c4
        clear c4
        obtain rfl := Option.some.inj H
        obtain ⟨Ao12, co12, eo12⟩ := Kd.S_slice HO_4.out
        subst eo12
        go_wp2
        repeat (go_quiet (fail); try go_wp2)
        go_ret
        exact ⟨by first | rfl | (simp [errW_none, errW_some] <;> rfl) | (simp [*, errW_none, errW_some] <;> rfl), by repeat (first | (with_reducible first | exact HB.out | apply below_alloc | apply pw_below_drewN | apply below_drew1) | exact HB.out)⟩

/-! ### spec_l7Most: function 21, by hand -/
def spec_l7Most.row (F : Nat → Option Int) : Nat → Nat → Int → Option Int
  | 0, _, b => some b
  | r + 1, i, b => (F i).bind fun a => spec_l7Most.row F r (i + 1) (mx b a)
def spec_l7Most.l (k : Nat) : Nat → List (List Int) → List (List Int) → Option Int
  | 0, ahead, _ => spec_l6sArea.f k ahead
  | d + 1, ahead, rest => spec_l7Most.row (fun i => spec_l7Most.l k d (ahead ++ [rest.getD i []]) (rest.take i ++ rest.drop (i + 1))) (d + 1) 0 (-1000000)
def spec_l7Most.f (k : Nat) (ahead rest : List (List Int)) : Option Int := if ahead.length + rest.length < 1000 then spec_l7Most.l k rest.length ahead rest else none
theorem spec_l7Most.mono_row {F G : Nat → Option Int} (h : ∀ i, LeO (F i) (G i)) : ∀ r i b, LeO (spec_l7Most.row F r i b) (spec_l7Most.row G r i b)
  | 0, _, _ => LeO.refl _
  | r + 1, i, b => LeO.bind (h i) (fun _ => spec_l7Most.mono_row h r (i + 1) _)
theorem spec_l7Most.mono_l (k : Nat) : ∀ d a b, LeO (spec_l7Most.l k d a b) (spec_l7Most.l (k + 1) d a b)
  | 0, a, b => spec_l6sArea.mono _ _
  | d + 1, a, b => spec_l7Most.mono_row (fun i => spec_l7Most.mono_l k d _ _) _ _ _
theorem spec_l7Most.mono : ∀ a0 a1 k, LeO (spec_l7Most.f k a0 a1) (spec_l7Most.f (k + 1) a0 a1) := fun _ _ _ => LeO.ite (spec_l7Most.mono_l _ _ _ _) (LeO.refl _)
open Go.Proofs.Ytbcfgglcabeckaa.HMst in
set_option maxHeartbeats 8000000 in
set_option maxRecDepth 100000 in
theorem spec_l7Most.l_calls (k : Nat) : ∀ (d : Nat) (ahead rest : List (List Int)) (r : Int) (w : World) (A0 A1 : Option Addr) (c0 c1 : Nat) (P0_ P1_ : Nat → Prop), rest.length = d → ahead.length + rest.length < 1000 →
    Kd.V (Kd.slice 3 (Kd.int .i64)) 35 w w.heap.size P0_ (.slice A0 ahead.length c0) ahead → Kd.V (Kd.slice 3 (Kd.int .i64)) 35 w w.heap.size P1_ (.slice A1 rest.length c1) rest → spec_l7Most.l k d ahead rest = some r →
    Calls Try.prog 21 #[.slice A0 ahead.length c0, .slice A1 rest.length c1] w fun e w' => e = .returned (.int .i64 r) ∧ Below w.heap.size w w' := by
  intro d
  induction d with
  | zero =>
    intro ahead rest r w A0 A1 c0 c1 P0_ P1_ hd hb hA hR h
    have k1 := spec_l6sArea.calls k A0 c0 ahead r w (Kd.V_reads' hA).2.2 (Kd.V_reads' hA).2.1 h
    have q1 : ((rest.length : Int) == 0) = true := by rw [hd]; rfl
    clear hA hR h
    go_enter Try.func21, Try.ntmps21
    go_wp2_with (go_at_call 38; refine k1.mono ?_; rintro e w1 ⟨rfl, hb⟩; have HB := Aside0.mk hb; clear hb k1)
    go_ret
    exact ⟨rfl, HB.out⟩
  | succ d ih =>
    intro ahead rest r w A0 A1 c0 c1 P0_ P1_ hd hb hA hR h
    have hR2 := (Kd.V_reads' hR).2.1
    obtain ⟨i0, hi0, _, hsz0, _⟩ := info_parts info35
    have q1 : ((rest.length : Int) == 0) = false := beq_eq_false_iff_ne.mpr (by omega)
    have H : spec_l7Most.row (fun i => spec_l7Most.l k d (ahead ++ [rest.getD i []]) (rest.take i ++ rest.drop (i + 1))) (d + 1) 0 (-1000000) = some r := h
    have H' := Aside0.mk H
    have HA := Aside0.mk hA
    have HR := Aside0.mk hR
    have IH := Aside0.mk ih
    have HD := Aside0.mk hd
    have HLB := Aside0.mk hb
    clear h H hA hR ih hd hb
    go_enter Try.func21, Try.ntmps21
    go_wp2
    go_loopg [5, 6, 7] (d + 1) (fun kq v5 v6 v7 w' => ∃ (i : Nat) (b : Int), v5 = .int .i64 b ∧ v6 = .int .i64 (i : Int) ∧ Aside0 (kq + i = d + 1) ∧ Aside0 (spec_l7Most.row (fun i => spec_l7Most.l k d (ahead ++ [rest.getD i []]) (rest.take i ++ rest.drop (i + 1))) kq i b = some r) ∧ Aside0 (Below w.heap.size w w'))
    case atStart => exact ⟨0, -1000000, rfl, rfl, ⟨rfl⟩, H', ⟨Below.refl _ _⟩⟩
    case round =>
      clear H'
      obtain ⟨i, b, rfl, rfl, HN, HH, HB⟩ := hrel
      have hn := HN.out
      have hd := HD.out
      cases gk with
      | zero =>
        have hH := Option.some.inj HH.out
        subst hH
        clear HH
        have q2 : ((i : Int) < (rest.length : Int)) = False := eq_false (by omega)
        have q3 : (i < rest.length) = False := eq_false (by omega)
        clear hd hn
        go_wp2
        go_ret
        exact ⟨rfl, HB.out⟩
      | succ g1 =>
        obtain ⟨a, B1, B2⟩ := Option.bind_eq_some_iff.mp HH.out
        have hin : i < rest.length := by omega
        have q2 : ((i : Int) < (rest.length : Int)) = True := eq_true (by omega)
        have q3 : (i < rest.length) = True := eq_true hin
        have HBL := Aside0.mk B1
        have HBR := Aside0.mk B2
        clear B1 B2 HH
        have hct := cut_to (P := Try.prog) 22 35 .i64 Try.underlying22 hi0 A1 rest.length c1 (i : Int) (by omega) (by omega) hR2
        have hcf := cut_from (P := Try.prog) 22 35 .i64 Try.underlying22 hi0 1 hsz0 A1 rest.length c1 ((i : Int) + 1) (by omega) (by omega)
        rw [Int.toNat_natCast] at hct
        rw [show ((i : Int) + 1).toNat = i + 1 by omega] at hcf
        clear hd hn
        go_wp2
        have hRw : Kd.V (Kd.slice 3 (Kd.int .i64)) 35 wr w.heap.size (fun k => P1_ k ∧ k < w.heap.size) (.slice A1 rest.length c1) rest := Kd.V_below (Kd.V_bound HR.out) HB.out
        have hAw : Kd.V (Kd.slice 3 (Kd.int .i64)) 35 wr w.heap.size (fun k => P0_ k ∧ k < w.heap.size) (.slice A0 ahead.length c0) ahead := Kd.V_below (Kd.V_bound HA.out) HB.out
        have hF1 := Kd.F_take (m := i) (Kd.V_at hRw).2.2 (by omega)
        have hF2 := Kd.F_cut (m := i + 1) (c := c1) (Kd.V_at hRw).2.2 (by omega) hR2
        have hl1 : (rest.take i).length = i := by rw [List.length_take]; omega
        have hl2 : (rest.drop (i + 1)).length = rest.length - (i + 1) := by rw [List.length_drop]
        have hsz1 : (Kd.slice 3 (Kd.int .i64)).sz = 1 := rfl
        rw [hl1] at hF1
        rw [hl2, hsz1] at hF2
        obtain ⟨A3, hA3⟩ : ∃ A3, A3 = (if c1 = i + 1 then A1 else A1.map (·.add ((i + 1) * 1))) := ⟨_, rfl⟩
        rw [← hA3] at hF2 hcf
        have HF1 := Aside0.mk hF1
        have HF2 := Aside0.mk hF2
        have HAW := Aside0.mk hAw
        have HRW := Aside0.mk hRw
        have hlb := HLB.out
        have hsz := HB.out.size
        have hw1 : IntKind.i64.wrap ((i : Int) + 1) = (i : Int) + 1 := (i64_w _).trans (by unfold wrap64; omega)
        clear hF1 hF2 hAw hRw hl1 hl2 hsz1 hA3
        go_region_law (first
          | (refine Kd.N_append_rows_step (Kd.slice 3 (Kd.int .i64)) (w0 := wr) (W := (wr.alloc (.cells #[] 35)).drew) wr.heap.size (by rfl) (.tmp 19) (.tmp 22) 22 35 (.slice none 0 0) 24 rfl Try.underlying22 info35 rfl (by decide) (by omega) (.slice (some ⟨wr.heap.size, 0, none⟩) 0 0) [] (rest.take i) A1 i c1 (fun k => (P1_ k ∧ k < w.heap.size) ∨ wr.heap.size ≤ k) (fun k => P1_ k ∧ k < w.heap.size) rfl rfl (N_empty (b := wr.heap.size) (Go.Proofs.Ytbcfgglcabeckaa.HClo.alloc_new wr _ _ rfl) (Nat.le_refl _) (.inr (Nat.le_refl _))) (Kd.F_below HF1.out ((below_alloc (Below.refl _ _) _).drew)) (fun k hk => ⟨.inl hk, fun e => by have := hk.2; simp [Value.ownBlock] at e; omega⟩) (fun k hk => .inr (Nat.le_trans (by simp) hk)) ((below_alloc (Below.refl _ _) _).drew) (by simp) (by simp; omega) ?_; intro v1 w1 hN hB hg hat; have HN1 := Aside0.mk hN; have HB1 := Aside0.mk hB; clear hN hB hg hat)
          | (refine Kd.N_append_rows_step (Kd.slice 3 (Kd.int .i64)) (w0 := wr) (W := w1) wr.heap.size (by rfl) (.tmp 23) (.tmp 27) 22 35 (.slice none 0 0) 24 rfl Try.underlying22 info35 rfl (by decide) (by omega) v1 ([] ++ rest.take i) (rest.drop (i + 1)) A3 (rest.length - (i + 1)) (c1 - (i + 1)) (fun k => (P1_ k ∧ k < w.heap.size) ∨ wr.heap.size ≤ k) (fun k => P1_ k ∧ k < w.heap.size) rfl rfl HN1.out (Kd.F_below HF2.out HB1.out) (fun k hk => ⟨.inl hk, fun e => by have := hk.2; have := Kd.N_base HN1.out k e.symm; omega⟩) (fun k hk => .inr (Nat.le_trans HB1.out.size hk)) HB1.out HB1.out.size (by simp; omega) ?_; intro v2 w2 hN hB hg hat; have HN2 := Aside0.mk hN; have HB2 := Aside0.mk hB; clear hN hB hg hat))
        clear hct hcf hw1 HF1 HF2 HN1 hsz
        obtain ⟨ls, els⟩ : ∃ l : List (List Int), l = rest.take i ++ rest.drop (i + 1) := ⟨_, rfl⟩
        obtain ⟨ah, eah⟩ : ∃ l : List (List Int), l = ahead ++ [rest.getD i []] := ⟨_, rfl⟩
        have hN2 : Kd.N (Kd.slice 3 (Kd.int .i64)) 35 w2 wr.heap.size (fun k => (P1_ k ∧ k < w.heap.size) ∨ wr.heap.size ≤ k) v2 ls := by rw [els]; simpa using HN2.out
        have HLD : Aside0 (ls.length = d) := ⟨by have := HD.out; rw [els]; simp; omega⟩
        have HLB2 : Aside0 (ah.length + ls.length < 1000) := ⟨by have := HD.out; have := HLD.out; rw [eah]; simp; omega⟩
        have HB1' : Aside0 (spec_l7Most.l k d ah ls = some a) := ⟨by rw [eah, els]; exact HBL.out⟩
        have EAH := Aside0.mk eah
        clear els eah HN2
        obtain ⟨AL, cL, eL⟩ := Kd.N_slice hN2
        subst eL
        have HN2' := Aside0.mk hN2
        clear hN2
        have hRw := Kd.V_below HRW.out HB2.out
        have hAw := Kd.V_below HAW.out HB2.out
        obtain ⟨ad, cs, rfl, hcl, hFK, hcell, _⟩ := Kd.F_get (Kd.V_F hRw) ([] : List Int) (i : Int) (by omega) (by omega)
        rw [Int.toNat_natCast] at hFK hcell
        obtain ⟨AE, cE, rfl, hEl, _⟩ := Kd.FK_slice_open hFK
        obtain ⟨LE, eLE⟩ : ∃ LE, (rest.getD i []).length = LE := ⟨_, rfl⟩
        have hsz1 : (Kd.slice 3 (Kd.int .i64)).sz = 1 := rfl
        have hx : w2.cell? (ad.add i) = some (.slice AE (rest.getD i []).length cE) := by
          have := hcell 0 _ rfl
          rwa [hsz1, Nat.mul_one, Nat.add_zero] at this
        rw [eLE] at hx hFK
        have hxa : (w2.alloc (.cells #[] 35)).cell? (ad.add i) = some (.slice AE LE cE) := ((below_alloc (Below.refl w2.heap.size w2) (.cells #[] 35)).cell (World.block_lt_of_cell? w2 _ hx)).trans hx
        have HFK := Aside0.mk hFK
        have HAW2 := Aside0.mk hAw
        have hsz2 : w.heap.size ≤ w2.heap.size := by have := HB.out.size; have := HB2.out.size; omega
        have q5 : (0 : Int) ≤ (i : Int) := by omega
        clear hFK hAw hcell hcl hEl hRw eLE HRW HAW
        go_wp2
        go_region_law (first
          | (refine Kd.N_append_rows_step (Kd.slice 3 (Kd.int .i64)) (w0 := w2) (W := (w2.alloc (.cells #[] 35)).drew) w2.heap.size (by rfl) (.tmp 30) (.tmp 31) 22 35 (.slice none 0 0) 24 rfl Try.underlying22 info35 rfl (by decide) (by omega) (.slice (some ⟨w2.heap.size, 0, none⟩) 0 0) [] ahead A0 ahead.length c0 (fun k => (P0_ k ∧ k < w.heap.size) ∨ (P1_ k ∧ k < w.heap.size) ∨ w2.heap.size ≤ k) (fun k => P0_ k ∧ k < w.heap.size) rfl rfl (N_empty (b := w2.heap.size) (Go.Proofs.Ytbcfgglcabeckaa.HClo.alloc_new w2 _ _ rfl) (by omega) (.inr (.inr (by omega)))) (Kd.F_below (Kd.V_F HAW2.out) ((below_alloc (Below.refl _ _) _).drew)) (fun k hk => ⟨.inl hk, fun e => by have := hk.2; simp [Value.ownBlock] at e; omega⟩) (fun k hk => .inr (.inr (Nat.le_trans (by simp <;> omega) hk))) ((below_alloc (Below.refl _ _) _).drew) (by simp <;> omega) (by simp; omega) ?_; intro v3 w3 hN hB hg hat; have HN3 := Aside0.mk hN; have HB3 := Aside0.mk hB; have hx3 : w3.cell? (ad.add i) = some (.slice AE LE cE) := (hB.cell (World.block_lt_of_cell? w2 _ hx)).trans hx; clear hN hB hg hat)
          | (refine Kd.N_append_rows_step (Kd.slice 3 (Kd.int .i64)) (w0 := w2) (W := ((w2.alloc (.cells #[] 35)).alloc (.cells #[(.slice AE LE cE)] 35)).drew) w2.heap.size (by rfl) (.tmp 30) (.tmp 31) 22 35 (.slice none 0 0) 24 rfl Try.underlying22 info35 rfl (by decide) (by omega) (.slice (some ⟨w2.heap.size, 0, none⟩) 0 0) [] ahead A0 ahead.length c0 (fun k => (P0_ k ∧ k < w.heap.size) ∨ (P1_ k ∧ k < w.heap.size) ∨ w2.heap.size ≤ k) (fun k => P0_ k ∧ k < w.heap.size) rfl rfl (N_empty (b := w2.heap.size) (Go.Proofs.Ytbcfgglcabeckaa.HClo.alloc_old (by simp) (Go.Proofs.Ytbcfgglcabeckaa.HClo.alloc_new w2 _ _ rfl)) (by omega) (.inr (.inr (by omega)))) (Kd.F_below (Kd.V_F HAW2.out) ((below_alloc (below_alloc (Below.refl _ _) _) _).drew)) (fun k hk => ⟨.inl hk, fun e => by have := hk.2; simp [Value.ownBlock] at e; omega⟩) (fun k hk => .inr (.inr (Nat.le_trans (by simp <;> omega) hk))) ((below_alloc (below_alloc (Below.refl _ _) _) _).drew) (by simp <;> omega) (by simp; omega) ?_; intro v3 w3 hN hB hg hat; have HN3 := Aside0.mk hN; have HB3 := Aside0.mk hB; have hx3 : w3.cell? (ad.add i) = some (.slice AE LE cE) := (hB.cell (World.block_lt_of_cell? w2 _ hx)).trans hx; have H37 : w3.heap[w2.heap.size + 1]? = some (.cells #[(.slice AE LE cE)] 35 (0, 0)) := (hg.block _ (by simp) (by simp [Value.ownBlock])).trans (Go.Proofs.Ytbcfgglcabeckaa.HClo.alloc_new (w2.alloc (.cells #[] 35)) _ _ (by simp)); have HNE : ∀ k, v3.ownBlock = some k → k ≠ w2.heap.size + 1 := ne_of_hat hat (by omega) (by simp <;> omega); have HX37 := Aside0.mk H37; have HNE37 := Aside0.mk HNE; clear H37 HNE; clear hN hB hg hat)
          | (refine Kd.N_append_rows_step (Kd.slice 3 (Kd.int .i64)) (w0 := w2) (W := ((w2.alloc (.cells #[(.slice AE LE cE)] 35)).alloc (.cells #[] 35)).drew) w2.heap.size (by rfl) (.tmp 30) (.tmp 31) 22 35 (.slice none 0 0) 24 rfl Try.underlying22 info35 rfl (by decide) (by omega) (.slice (some ⟨w2.heap.size + 1, 0, none⟩) 0 0) [] ahead A0 ahead.length c0 (fun k => (P0_ k ∧ k < w.heap.size) ∨ (P1_ k ∧ k < w.heap.size) ∨ w2.heap.size ≤ k) (fun k => P0_ k ∧ k < w.heap.size) rfl rfl (N_empty (b := w2.heap.size + 1) (Go.Proofs.Ytbcfgglcabeckaa.HClo.alloc_new (w2.alloc (.cells #[(.slice AE LE cE)] 35)) _ _ (by simp)) (by omega) (.inr (.inr (by omega)))) (Kd.F_below (Kd.V_F HAW2.out) ((below_alloc (below_alloc (Below.refl _ _) _) _).drew)) (fun k hk => ⟨.inl hk, fun e => by have := hk.2; simp [Value.ownBlock] at e; omega⟩) (fun k hk => .inr (.inr (Nat.le_trans (by simp <;> omega) hk))) ((below_alloc (below_alloc (Below.refl _ _) _) _).drew) (by simp <;> omega) (by simp; omega) ?_; intro v3 w3 hN hB hg hat; have HN3 := Aside0.mk hN; have HB3 := Aside0.mk hB; have hx3 : w3.cell? (ad.add i) = some (.slice AE LE cE) := (hB.cell (World.block_lt_of_cell? w2 _ hx)).trans hx; have H37 : w3.heap[w2.heap.size]? = some (.cells #[(.slice AE LE cE)] 35 (0, 0)) := (hg.block _ (by simp <;> omega) (by simp [Value.ownBlock])).trans (Go.Proofs.Ytbcfgglcabeckaa.HClo.alloc_old (by simp) (Go.Proofs.Ytbcfgglcabeckaa.HClo.alloc_new w2 _ _ rfl)); have HNE : ∀ k, v3.ownBlock = some k → k ≠ w2.heap.size := ne_of_hat hat (by omega) (by simp <;> omega); have HX37 := Aside0.mk H37; have HNE37 := Aside0.mk HNE; clear H37 HNE; clear hN hB hg hat)
          | (refine Kd.N_append_rows_step (Kd.slice 3 (Kd.int .i64)) (w0 := w2) (W := w3.alloc (.cells #[(.slice AE LE cE)] 35)) w2.heap.size (by rfl) (.tmp 32) (.tmp 37) 22 35 (.slice none 0 0) 24 rfl Try.underlying22 info35 rfl (by decide) (by omega) v3 ([] ++ ahead) [rest.getD i []] (some ⟨w3.heap.size, 0, none⟩) 1 1 (fun k => (P0_ k ∧ k < w.heap.size) ∨ (P1_ k ∧ k < w.heap.size) ∨ w2.heap.size ≤ k) (fun k => k = w3.heap.size ∨ (P1_ k ∧ k < w.heap.size)) rfl rfl (Kd.N_alloc HN3.out _) (F_one rfl (Go.Proofs.Ytbcfgglcabeckaa.HClo.alloc_new w3 _ _ rfl) (Kd.FK_below HFK.out (HB3.out.alloc HB3.out.size _))) (fun k hk => ⟨hk.elim (fun e => .inr (.inr (by have := HB3.out.size; omega))) (fun h => .inr (.inl h)), fun e => hk.elim (fun e2 => by have := Kd.N_lt HN3.out k e.symm; omega) (fun h => by have := h.2; have := Kd.N_base HN3.out k e.symm; omega)⟩) (fun k hk => .inr (.inr (Nat.le_trans (HB3.out.alloc HB3.out.size _).size hk))) (HB3.out.alloc HB3.out.size _) (HB3.out.alloc HB3.out.size _).size (by simp; omega) ?_; intro v4 w4 hN hB hg hat; have hN' : Kd.N (Kd.slice 3 (Kd.int .i64)) 35 w4 w2.heap.size (fun k => (P0_ k ∧ k < w.heap.size) ∨ (P1_ k ∧ k < w.heap.size) ∨ w2.heap.size ≤ k) v4 ah := (by rw [EAH.out]; simpa using hN); obtain ⟨AN, cN, eN⟩ := Kd.N_slice hN'; subst eN; have HN4 := Aside0.mk hN'; have HB4 := Aside0.mk hB; clear hN hN' hB hg hat)
          | (refine Kd.N_append_rows_step (Kd.slice 3 (Kd.int .i64)) (w0 := w2) (W := w3) w2.heap.size (by rfl) (.tmp 32) (.tmp 37) 22 35 (.slice none 0 0) 24 rfl Try.underlying22 info35 rfl (by decide) (by omega) v3 ([] ++ ahead) [rest.getD i []] (some ⟨w2.heap.size + 1, 0, none⟩) 1 1 (fun k => (P0_ k ∧ k < w.heap.size) ∨ (P1_ k ∧ k < w.heap.size) ∨ w2.heap.size ≤ k) (fun k => k = w2.heap.size + 1 ∨ (P1_ k ∧ k < w.heap.size)) rfl rfl HN3.out (F_one rfl HX37.out (Kd.FK_below HFK.out HB3.out)) (fun k hk => ⟨hk.elim (fun e => .inr (.inr (by have := HB3.out.size; omega))) (fun h => .inr (.inl h)), fun e => hk.elim (fun e2 => absurd e2 (HNE37.out k e.symm)) (fun h => by have := h.2; have := Kd.N_base HN3.out k e.symm; omega)⟩) (fun k hk => .inr (.inr (Nat.le_trans HB3.out.size hk))) HB3.out HB3.out.size (by simp; omega) ?_; intro v4 w4 hN hB hg hat; have hN' : Kd.N (Kd.slice 3 (Kd.int .i64)) 35 w4 w2.heap.size (fun k => (P0_ k ∧ k < w.heap.size) ∨ (P1_ k ∧ k < w.heap.size) ∨ w2.heap.size ≤ k) v4 ah := (by rw [EAH.out]; simpa using hN); obtain ⟨AN, cN, eN⟩ := Kd.N_slice hN'; subst eN; have HN4 := Aside0.mk hN'; have HB4 := Aside0.mk hB; clear hN hN' hB hg hat)
          | (refine Kd.N_append_rows_step (Kd.slice 3 (Kd.int .i64)) (w0 := w2) (W := w3) w2.heap.size (by rfl) (.tmp 32) (.tmp 37) 22 35 (.slice none 0 0) 24 rfl Try.underlying22 info35 rfl (by decide) (by omega) v3 ([] ++ ahead) [rest.getD i []] (some ⟨w2.heap.size, 0, none⟩) 1 1 (fun k => (P0_ k ∧ k < w.heap.size) ∨ (P1_ k ∧ k < w.heap.size) ∨ w2.heap.size ≤ k) (fun k => k = w2.heap.size ∨ (P1_ k ∧ k < w.heap.size)) rfl rfl HN3.out (F_one rfl HX37.out (Kd.FK_below HFK.out HB3.out)) (fun k hk => ⟨hk.elim (fun e => .inr (.inr (by have := HB3.out.size; omega))) (fun h => .inr (.inl h)), fun e => hk.elim (fun e2 => absurd e2 (HNE37.out k e.symm)) (fun h => by have := h.2; have := Kd.N_base HN3.out k e.symm; omega)⟩) (fun k hk => .inr (.inr (Nat.le_trans HB3.out.size hk))) HB3.out HB3.out.size (by simp; omega) ?_; intro v4 w4 hN hB hg hat; have hN' : Kd.N (Kd.slice 3 (Kd.int .i64)) 35 w4 w2.heap.size (fun k => (P0_ k ∧ k < w.heap.size) ∨ (P1_ k ∧ k < w.heap.size) ∨ w2.heap.size ≤ k) v4 ah := (by rw [EAH.out]; simpa using hN); obtain ⟨AN, cN, eN⟩ := Kd.N_slice hN'; subst eN; have HN4 := Aside0.mk hN'; have HB4 := Aside0.mk hB; clear hN hN' hB hg hat)
          | (go_simp; go_at_call 21; refine (IH.out ah ls a w4 AN AL cN cL _ _ HLD.out HLB2.out (Kd.N_V HN4.out) (Kd.N_V (Kd.N_below HN2'.out (HB4.out.mono (Nat.le_refl _)))) HB1'.out).mono ?_; rintro e w5 ⟨rfl, hb⟩; have HB5 := Aside0.mk (HB4.out.trans (hb.mono HB4.out.size)); clear hb))
        all_goals go_wp2
        all_goals (go_roundg g1; (case measure => omega); (case rel => exact ⟨i + 1, mx b a, (by unfold mx; congr 1; omega), by go_num, ⟨by have := HN.out; omega⟩, HBR, ⟨below_step HB.out (HB2.out.trans (HB5.out.mono HB2.out.size))⟩⟩))
theorem spec_l7Most.calls (k : Nat) (P0_ P1_ : Nat → Prop) (A0 : Option Addr) (c0 : Nat) (l0 : List (List Int)) (A1 : Option Addr) (c1 : Nat) (l1 : List (List Int)) (r : Int) (w : World) (hs0 : Kd.V (Kd.slice 3 (Kd.int .i64)) 35 w w.heap.size P0_ (.slice A0 l0.length c0) l0) (hs1 : Kd.V (Kd.slice 3 (Kd.int .i64)) 35 w w.heap.size P1_ (.slice A1 l1.length c1) l1) (h : spec_l7Most.f k l0 l1 = some r) :
    Calls Try.prog 21 #[.slice A0 l0.length c0, .slice A1 l1.length c1] w fun e w' => e = .returned (.int .i64 r) ∧ Below w.heap.size w w' := by
  unfold spec_l7Most.f at h
  by_cases g : l0.length + l1.length < 1000
  · rw [if_pos g] at h
    exact spec_l7Most.l_calls k _ l0 l1 r w A0 A1 c0 c1 P0_ P1_ rfl g hs0 hs1 h
  · rw [if_neg g] at h; cases h

/-! ### spec_OrderMost: function 8, by hand -/
def spec_OrderMost.f (k : Nat) (l0 : List (List Int)) : Option (Int × Bool) := (spec_PathIn.f k l0).bind fun t => if t = true then (if (l0.length : Int) > 6 then some (0, false) else (spec_l7Most.f k [] l0).bind fun r => some (r, true)) else some (0, false)
theorem spec_OrderMost.mono : ∀ a0 k, LeO (spec_OrderMost.f k a0) (spec_OrderMost.f (k + 1) a0) := by
  intro a0 k
  unfold spec_OrderMost.f
  exact LeO.bind (spec_PathIn.mono _ _) (fun t => LeO.ite (LeO.ite (LeO.refl _) (LeO.bind (spec_l7Most.mono _ _ _) (fun _ => LeO.refl _))) (LeO.refl _))
set_option maxHeartbeats 8000000 in
set_option maxRecDepth 100000 in
theorem spec_OrderMost.calls (k : Nat) (A0 : Option Addr) (c0 : Nat) (l0 : List (List Int)) (r1 : Int) (r2 : Bool) (w : World) (hr0 : Kd.C (Kd.slice 3 (Kd.int .i64)) w A0 l0.length l0) (hc0 : l0.length ≤ c0) (h : spec_OrderMost.f k l0 = some (r1, r2)) :
    Calls Try.prog 8 #[.slice A0 l0.length c0] w fun e w' => e = .returned (.tuple #[.int .i64 r1, .bool r2]) ∧ Below w.heap.size w w' := by
  unfold spec_OrderMost.f at h
  obtain ⟨t, h1, h⟩ := Option.bind_eq_some_iff.mp h
  have k1 := spec_PathIn.calls k A0 c0 l0 t w hr0 hc0 h1
  clear h1
  cases t with
  | false =>
    rw [if_neg (by decide)] at h
    injection h with h
    injection h with h2 h3
    subst h2 h3
    go_enter Try.func8, Try.ntmps8
    go_wp2_with (go_at_call 20; refine k1.mono ?_; rintro e w1 ⟨rfl, ⟨nd, rfl⟩⟩; clear k1)
    go_ret2
    exact ⟨rfl, pw_below_drewN (Below.refl _ _) _⟩
  | true =>
    rw [if_pos rfl] at h
    by_cases c6 : (l0.length : Int) > 6
    · rw [if_pos c6] at h
      injection h with h
      injection h with h2 h3
      subst h2 h3
      have q6 : decide ((6 : Int) < (l0.length : Int)) = true := decide_eq_true c6
      have q7 : decide (6 < l0.length) = true := decide_eq_true (by omega)
      go_enter Try.func8, Try.ntmps8
      go_wp2_with (go_at_call 20; refine k1.mono ?_; rintro e w1 ⟨rfl, ⟨nd, rfl⟩⟩; clear k1)
      go_ret2
      exact ⟨rfl, pw_below_drewN (Below.refl _ _) _⟩
    · rw [if_neg c6] at h
      obtain ⟨r, h3, h⟩ := Option.bind_eq_some_iff.mp h
      injection h with h
      injection h with h4 h5
      subst h4 h5
      have q6 : decide ((6 : Int) < (l0.length : Int)) = false := decide_eq_false c6
      have q7 : decide (6 < l0.length) = false := decide_eq_false (by omega)
      have k2 : ∀ W : World, Below w.heap.size w W → W.heap[w.heap.size]? = some (.cells #[] 35 (0, 0)) → Calls Try.prog 21 #[.slice (some ⟨w.heap.size, 0, none⟩) 0 0, .slice A0 l0.length c0] W fun e w' => e = .returned (.int .i64 r) ∧ Below W.heap.size W w' := fun W hb he =>
        spec_l7Most.calls k (fun k => k = w.heap.size) _ (some ⟨w.heap.size, 0, none⟩) 0 [] A0 c0 l0 r W (Kd.N_V (Go.Proofs.Ytbcfgglcabeckaa.HMst.N_empty (base := 0) he (Nat.zero_le _) rfl)) (Go.Proofs.Ytbcfgglcabeckaa.HOrd.came_V (Kd.heap_slice 3 (Kd.heap_int .i64)) hr0 hb hc0) h3
      clear h3 hr0
      go_enter Try.func8, Try.ntmps8
      go_wp2_with (first | (go_at_call 20; refine k1.mono ?_; rintro e w1 ⟨rfl, ⟨nd, rfl⟩⟩; clear k1) | (go_at_call 21; refine (k2 _ ((pw_below_drewN (Below.refl _ w) _).alloc (Nat.le_refl _) _) (Go.Proofs.Ytbcfgglcabeckaa.HClo.alloc_new _ _ _ rfl)).mono ?_; rintro e w1 ⟨rfl, hb⟩; have HB := Aside0.mk hb; clear k2 hb))
      go_ret2
      exact ⟨rfl, ((pw_below_drewN (Below.refl _ w) _).alloc (Nat.le_refl _) _).trans (HB.out.mono (by simp))⟩

/-! ### laws_toIntS: function 22 -/
def laws_toIntS.l0 : Nat → List Int → List Int → Int → Option (List Int)
  | 0, _, _, _ => none
  | k + 1, x0, x3, x4 => if x4 < (x0.length : Int) then (if 0 ≤ x4 then (if x4 < (x3.length : Int) then (laws_toIntS.l0 k x0 (x3.set (x4 : Int).toNat (rd x0 x4)) (wrap64 (x4 + 1))) else (none)) else (none)) else (some x3)
def laws_toIntS.f (k : Nat) (l0 : List Int) : Option (List Int) := if 0 ≤ (l0.length : Int) then (if ((l0.length : Int) : Int).toNat ≤ 35184372088832 then (laws_toIntS.l0 k l0 (List.replicate ((l0.length : Int) : Int).toNat 0) 0) else (none)) else (none)
theorem laws_toIntS.mono_l : ∀ k, (∀ y0 y1 y2, LeO (laws_toIntS.l0 k y0 y1 y2) (laws_toIntS.l0 (k + 1) y0 y1 y2))
  | 0 => fun _ _ _ r h => by simp [laws_toIntS.l0] at h
  | k + 1 => by
    have ih0 := laws_toIntS.mono_l k
    · intro y0 y1 y2
      unfold laws_toIntS.l0
      repeat' first
      | (with_reducible exact ih0 _ _ _)
      | (with_reducible exact LeO.refl _)
      | (with_reducible exact LeO.none _)
      | (with_reducible refine LeO.ite ?_ ?_)
      | (with_reducible refine LeO.bind ?_ (fun _ => ?_))
      | exact ih0 _ _ _
      | exact LeO.none _
      | refine LeO.ite ?_ ?_
      | refine LeO.bind ?_ (fun _ => ?_)
theorem laws_toIntS.mono : ∀ a0 k, LeO (laws_toIntS.f k a0) (laws_toIntS.f (k + 1) a0) := by
  intro a0 k
  have ih0 := laws_toIntS.mono_l k
  unfold laws_toIntS.f
  repeat' first
      | (with_reducible exact ih0 _ _ _)
      | (with_reducible exact LeO.refl _)
      | (with_reducible exact LeO.none _)
      | (with_reducible refine LeO.ite ?_ ?_)
      | (with_reducible refine LeO.bind ?_ (fun _ => ?_))
      | exact ih0 _ _ _
      | exact LeO.none _
      | refine LeO.ite ?_ ?_
      | refine LeO.bind ?_ (fun _ => ?_)
set_option maxHeartbeats 8000000 in
set_option maxRecDepth 100000 in
theorem laws_toIntS.calls (k : Nat) (A0 : Option Addr) (c0 : Nat) (l0 : List Int) (r : List Int) (w : World) (hr0 : Kd.C (Kd.int .i64) w A0 l0.length l0) (hc0 : l0.length ≤ c0) (h : laws_toIntS.f k l0 = some r) :
    Calls Try.prog 22 #[.slice A0 l0.length c0] w fun e w' => ∃ v0_ : Value, e = .returned (v0_) ∧ Kd.R (Kd.int .i64) 3 w' w.heap.size (fun _ => True) v0_ r ∧ Below w.heap.size w w' := by
  have HR0 := Aside0.mk hr0
  have HC0 := Aside0.mk hc0
  clear hr0 hc0
  have HB := Aside0.mk (Below.refl w.heap.size w)
  have H : (if 0 ≤ (l0.length : Int) then (if ((l0.length : Int) : Int).toNat ≤ 35184372088832 then (laws_toIntS.l0 k l0 (List.replicate ((l0.length : Int) : Int).toNat 0) 0) else (none)) else (none)) = some r := h
  clear h
  by_cases c2 : 0 ≤ (l0.length : Int)
  · rw [if_pos c2] at H
    have c2b0 := eq_true c2
    have c2b1 : decide (0 ≤ (l0.length : Int)) = true := decide_eq_true c2
    clear c2
    by_cases c3 : ((l0.length : Int) : Int).toNat ≤ 35184372088832
    · rw [if_pos c3] at H
      have c3b0 := eq_true c3
      have c3b1 : decide (((l0.length : Int) : Int).toNat ≤ 35184372088832) = true := decide_eq_true c3
      clear c3
      obtain ⟨y141, hy141⟩ : ∃ y_ : List Int, y_ = (List.replicate ((l0.length : Int) : Int).toNat 0) := ⟨_, rfl⟩
      replace H : (laws_toIntS.l0 k l0 y141 0) = some r := by first | (rw [hy141]; with_reducible exact H) | (have H2_ := (Option.bind_some _ _).symm.trans H; rw [hy141]; with_reducible exact H2_) | (have H2_ := (Option.bind_some _ _).symm.trans H; with_reducible exact H2_) | with_reducible exact H | (rw [hy141]; exact H) | exact H
      have Ny141 := Aside0.mk hy141
      clear hy141
      have H' := Aside0.mk H
      clear H
      go_enter Try.func22, Try.ntmps22
      go_wp2_with (first | ((with_reducible refine gate_dst (N := 7) rfl ?_); refine Kd.R_make (Kd.int .i64) _ 3 rfl (N := 7) rfl 35 _ _ rfl (l0.length : Int) rfl rfl Try.underlying35 (.int .i64 0) 8 info3 rfl (by decide) (by omega) 0 (ok := fun _ => True) (okp := fun _ => True) rfl (fun _ hk => hk) trivial (of_decide_eq_true (by first | (with_reducible assumption) | assumption)) (Nat.le_trans (Nat.mul_le_mul_right _ (of_decide_eq_true (by first | (with_reducible assumption) | assumption) : (l0.length : Int).toNat ≤ 35184372088832)) (by omega)) (Below.refl _ _) (Nat.le_refl _) ?_; intro v142 w4 ho5 hb hg_ hnew_; clear hg_ hnew_; (first | rw [← Ny141.out] at ho5 | (simp only [Int.reduceToNat] at ho5; rw [← Ny141.out] at ho5)); have n0_ := Aside0.mk (Kd.R_lower ho5 (below_size (by repeat (first | (with_reducible first | exact HB.out | apply below_alloc | apply pw_below_drewN | apply below_drew1) | exact HB.out)))); have n1_ := Aside0.mk (below_step (by repeat (first | (with_reducible first | exact HB.out | apply below_alloc | apply pw_below_drewN | apply below_drew1) | exact HB.out)) hb); clear HB; have HO143 := n0_; have HB := n1_; clear n0_ n1_; clear hb ho5))
      go_loopg [4] k (fun kq v4 w' => ∃ (x3_1 : List Int) (x4_1 : Int), v4 = .int .i64 x4_1 ∧ Aside0 (laws_toIntS.l0 kq l0 x3_1 x4_1 = some r) ∧ Aside0 (kq ≤ k) ∧ Aside0 (Kd.R (Kd.int .i64) 3 w' w.heap.size (fun _ => True) v142 x3_1) ∧ Aside0 (Below w.heap.size w w'))
      case atStart => exact ⟨(y141), (0), (by first | rfl | (simp; done) | (simp [*]; done)), H', ⟨Nat.le_refl _⟩, ⟨by (with_reducible repeat (first | apply Kd.R_alloc | apply Kd.R_drewN | apply Kd.R_drew)); exact HO143.out⟩, ⟨by repeat (first | (with_reducible first | exact HB.out | apply below_alloc | apply pw_below_drewN | apply below_drew1) | exact HB.out)⟩⟩
      case round =>
        clear H'
        try clear c2
        try clear c2b0
        try clear c2b1
        try clear p2
        try clear c3
        try clear c3b0
        try clear c3b1
        obtain ⟨x3_1, x4_1, rfl, HA, HK1, HO_3, HB⟩ := hrel
        cases gk with
        | zero => exact absurd HA.out (by simp [laws_toIntS.l0])
        | succ k1 =>
          have H := HA.out
          clear HA
          simp only [laws_toIntS.l0] at H
          by_cases c6 : x4_1 < (l0.length : Int)
          · rw [if_pos c6] at H
            have c6b0 : decide (x4_1 < (l0.length : Int)) = true := decide_eq_true c6
            clear c6
            by_cases c7 : 0 ≤ x4_1
            · rw [if_pos c7] at H
              have c7b0 : decide (0 ≤ x4_1) = true := decide_eq_true c7
              clear c7
              by_cases c8 : x4_1 < (x3_1.length : Int)
              · rw [if_pos c8] at H
                have c8b0 : decide (x4_1 < (x3_1.length : Int)) = true := decide_eq_true c8
                clear c8
                obtain ⟨y145, hy145⟩ : ∃ y_ : List Int, y_ = (x3_1.set (x4_1 : Int).toNat (rd l0 x4_1)) := ⟨_, rfl⟩
                replace H : (laws_toIntS.l0 k1 l0 y145 (wrap64 (x4_1 + 1))) = some r := by first | (rw [hy145]; with_reducible exact H) | (have H2_ := (Option.bind_some _ _).symm.trans H; rw [hy145]; with_reducible exact H2_) | (have H2_ := (Option.bind_some _ _).symm.trans H; with_reducible exact H2_) | with_reducible exact H | (rw [hy145]; exact H) | exact H
                have Ny145 := Aside0.mk hy145
                clear hy145
                have H' := Aside0.mk H
                clear H
                have p144 : 0 ≤ (x4_1 : Int) := of_decide_eq_true (by first | (with_reducible assumption) | assumption)
                have q144 : x4_1 < (l0.length : Int) := of_decide_eq_true (by first | (with_reducible assumption) | assumption)
                obtain ⟨ad144, e144, hx144_0⟩ := Kd.at_int HR0.out x4_1 p144 q144
                cases e144
                replace hx144_0 := (HB.out.cell (World.block_lt_of_cell? w _ hx144_0)).trans hx144_0
                replace p144 := eq_true p144
                replace q144 := eq_true q144
                have p9 : 0 ≤ (x4_1 : Int) := of_decide_eq_true (by first | (with_reducible assumption) | assumption)
                have q9 : (x4_1 : Int) < ((x3_1.length : Int) : Int) := of_decide_eq_true (by first | (with_reducible assumption) | assumption)
                obtain ⟨go9, co9, eo9, gb9, gl9, cl9, HG9⟩ := Kd.R_form HO_3.out (by omega)
                (first | cases eo9 | (injection eo9 with ea_ en_ ec_; (first | subst ea_ | (injection ea_ with ea_; subst ea_)); subst ec_; clear en_))
                have GB9 := Aside0.mk gb9
                have GG9 := Aside0.mk HG9
                clear gb9 gl9 HG9
                obtain ⟨hx9_0, hf9_0⟩ := Kd.R_celln 0 HO_3.out (x4_1 : Int) p9 q9
                replace p9 := eq_true p9
                replace q9 := eq_true q9
                have HP10 := Kd.R_putg HO_3.out (x4_1 : Int) (rd l0 x4_1)
                go_wp2_with (first | ((with_reducible refine gate_store (t := 3) (p := 20) rfl ?_); refine store_event (t := 3) (p := 20) (v := ?vo_w11) (w1 := (wr.setCell ⟨go9, (x4_1 : Int).toNat, none⟩ (.int .i64 (rd l0 x4_1)))) ?hg ?ho ?hn ?hr ?_; (case ho => rfl); (case hg => rfl); (case hn => rfl); (case hr => first | (go_simp; done) | (go_simp; rfl)); intro w11 hw; have hg : wr.grownBy w11 (some go9) := (by rw [hw]; exact HP10.2); have hp_ : Kd.R (Kd.int .i64) 3 w11 w.heap.size (fun _ => True) (.slice (some ⟨go9, 0, none⟩) x3_1.length co9) y145 := (by rw [hw, Ny145.out]; exact HP10.1); clear HP10; have n0_ := Aside0.mk (hp_); have n1_ := Aside0.mk ((by rw [hw]; exact below_set (HB.out) GB9.out : Below w.heap.size w w11)); clear HO_3; clear HB; have HO_3 := n0_; have HB := n1_; clear n0_ n1_; clear hg hw hp_))
                go_roundg k1
                case measure => have := HK1.out; omega
                case rel => exact ⟨(y145), (wrap64 (x4_1 + 1)), (by first | rfl | (simp; done) | (simp [*]; done)), H', ⟨by have := HK1.out; omega⟩, ⟨by (with_reducible repeat (first | apply Kd.R_alloc | apply Kd.R_drewN | apply Kd.R_drew)); exact HO_3.out⟩, ⟨by repeat (first | (with_reducible first | exact HB.out | apply below_alloc | apply pw_below_drewN | apply below_drew1) | exact HB.out)⟩⟩
              · rw [if_neg c8] at H
                exact absurd H (by simp)
            · rw [if_neg c7] at H
              exact absurd H (by simp)
          · rw [if_neg c6] at H
            have c6b0 : decide (x4_1 < (l0.length : Int)) = false := decide_eq_false c6
            clear c6
            obtain rfl := Option.some.inj H
            go_wp2
            go_ret
            exact ⟨_, by first | rfl | (simp [errW_none, errW_some] <;> rfl) | (simp [*, errW_none, errW_some] <;> rfl), by (with_reducible repeat (first | apply Kd.R_alloc | apply Kd.R_drewN | apply Kd.R_drew)); exact HO_3.out, by repeat (first | (with_reducible first | exact HB.out | apply below_alloc | apply pw_below_drewN | apply below_drew1) | exact HB.out)⟩
    · rw [if_neg c3] at H
      exact absurd H (by simp)
  · rw [if_neg c2] at H
    exact absurd H (by simp)

/-! ### laws_toIntSS: function 9 -/
def laws_toIntSS.l0 : Nat → List (List Int) → List (List Int) → Int → Option ((List (List Int)))
  | 0, _, _, _ => none
  | k + 1, x0, x3, x4 => if x4 < (x0.length : Int) then (if 0 ≤ x4 then ((laws_toIntS.f k (rd_L1 x0 x4)).bind fun t150 => (if x4 < (x3.length : Int) then (laws_toIntSS.l0 k x0 (x3.set (x4 : Int).toNat t150) (wrap64 (x4 + 1))) else (none))) else (none)) else (some x3)
def laws_toIntSS.f (k : Nat) (l0 : List (List Int)) : Option ((List (List Int))) := if 0 ≤ (l0.length : Int) then (if ((l0.length : Int) : Int).toNat ≤ 11728124029610 then (laws_toIntSS.l0 k l0 (List.replicate ((l0.length : Int) : Int).toNat []) 0) else (none)) else (none)
theorem laws_toIntSS.mono_l : ∀ k, (∀ y0 y1 y2, LeO (laws_toIntSS.l0 k y0 y1 y2) (laws_toIntSS.l0 (k + 1) y0 y1 y2))
  | 0 => fun _ _ _ r h => by simp [laws_toIntSS.l0] at h
  | k + 1 => by
    have ih0 := laws_toIntSS.mono_l k
    · intro y0 y1 y2
      unfold laws_toIntSS.l0
      repeat' first
      | (with_reducible exact ih0 _ _ _)
      | (with_reducible exact laws_toIntS.mono _ _)
      | (with_reducible exact LeO.refl _)
      | (with_reducible exact LeO.none _)
      | (with_reducible refine LeO.ite ?_ ?_)
      | (with_reducible refine LeO.bind ?_ (fun _ => ?_))
      | exact ih0 _ _ _
      | exact laws_toIntS.mono _ _
      | exact LeO.none _
      | refine LeO.ite ?_ ?_
      | refine LeO.bind ?_ (fun _ => ?_)
theorem laws_toIntSS.mono : ∀ a0 k, LeO (laws_toIntSS.f k a0) (laws_toIntSS.f (k + 1) a0) := by
  intro a0 k
  have ih0 := laws_toIntSS.mono_l k
  unfold laws_toIntSS.f
  repeat' first
      | (with_reducible exact ih0 _ _ _)
      | (with_reducible exact laws_toIntS.mono _ _)
      | (with_reducible exact LeO.refl _)
      | (with_reducible exact LeO.none _)
      | (with_reducible refine LeO.ite ?_ ?_)
      | (with_reducible refine LeO.bind ?_ (fun _ => ?_))
      | exact ih0 _ _ _
      | exact laws_toIntS.mono _ _
      | exact LeO.none _
      | refine LeO.ite ?_ ?_
      | refine LeO.bind ?_ (fun _ => ?_)
set_option maxHeartbeats 8000000 in
set_option maxRecDepth 100000 in
theorem laws_toIntSS.calls (k : Nat) (A0 : Option Addr) (c0 : Nat) (l0 : List (List Int)) (r : List (List Int)) (w : World) (hr0 : Kd.C (Kd.slice 3 (Kd.int .i64)) w A0 l0.length l0) (hc0 : l0.length ≤ c0) (h : laws_toIntSS.f k l0 = some r) :
    Calls Try.prog 9 #[.slice A0 l0.length c0] w fun e w' => ∃ v0_ : Value, e = .returned (v0_) ∧ Kd.S (Kd.slice 3 (Kd.int .i64)) 35 w' w.heap.size (fun _ => True) v0_ r ∧ Below w.heap.size w w' := by
  have HR0 := Aside0.mk hr0
  have HC0 := Aside0.mk hc0
  clear hr0 hc0
  have HB := Aside0.mk (Below.refl w.heap.size w)
  have H : (if 0 ≤ (l0.length : Int) then (if ((l0.length : Int) : Int).toNat ≤ 11728124029610 then (laws_toIntSS.l0 k l0 (List.replicate ((l0.length : Int) : Int).toNat []) 0) else (none)) else (none)) = some r := h
  clear h
  by_cases c2 : 0 ≤ (l0.length : Int)
  · rw [if_pos c2] at H
    have c2b0 := eq_true c2
    have c2b1 : decide (0 ≤ (l0.length : Int)) = true := decide_eq_true c2
    clear c2
    by_cases c3 : ((l0.length : Int) : Int).toNat ≤ 11728124029610
    · rw [if_pos c3] at H
      have c3b0 := eq_true c3
      have c3b1 : decide (((l0.length : Int) : Int).toNat ≤ 11728124029610) = true := decide_eq_true c3
      clear c3
      obtain ⟨y146, hy146⟩ : ∃ y_ : List (List Int), y_ = (List.replicate ((l0.length : Int) : Int).toNat []) := ⟨_, rfl⟩
      replace H : (laws_toIntSS.l0 k l0 y146 0) = some r := by first | (rw [hy146]; with_reducible exact H) | (have H2_ := (Option.bind_some _ _).symm.trans H; rw [hy146]; with_reducible exact H2_) | (have H2_ := (Option.bind_some _ _).symm.trans H; with_reducible exact H2_) | with_reducible exact H | (rw [hy146]; exact H) | exact H
      have Ny146 := Aside0.mk hy146
      clear hy146
      have H' := Aside0.mk H
      clear H
      go_enter Try.func9, Try.ntmps9
      go_wp2_with (first | ((with_reducible refine gate_dst (N := 7) rfl ?_); refine Kd.S_make (Kd.slice 3 (Kd.int .i64)) _ 35 rfl (N := 7) rfl 22 _ _ rfl (l0.length : Int) rfl rfl Try.underlying22 (.slice none 0 0) 24 info35 rfl (by decide) (by omega) [] (ok := fun _ => True) (okp := fun _ => True) ⟨_, rfl, Kd.R_nil _ _ _ _ _⟩ (fun _ hk => hk) trivial (of_decide_eq_true (by first | (with_reducible assumption) | assumption)) (Nat.le_trans (Nat.mul_le_mul_right _ (of_decide_eq_true (by first | (with_reducible assumption) | assumption) : (l0.length : Int).toNat ≤ 11728124029610)) (by omega)) (Below.refl _ _) (Nat.le_refl _) ?_; intro v147 w4 ho5 hb hg_ hnew_; clear hg_ hnew_; (first | rw [← Ny146.out] at ho5 | (simp only [Int.reduceToNat] at ho5; rw [← Ny146.out] at ho5)); have n0_ := Aside0.mk (Kd.S_lower ho5 (below_size (by repeat (first | (with_reducible first | exact HB.out | apply below_alloc | apply pw_below_drewN | apply below_drew1) | exact HB.out)))); have n1_ := Aside0.mk (below_step (by repeat (first | (with_reducible first | exact HB.out | apply below_alloc | apply pw_below_drewN | apply below_drew1) | exact HB.out)) hb); clear HB; have HO148 := n0_; have HB := n1_; clear n0_ n1_; clear hb ho5))
      go_loopg [4] k (fun kq v4 w' => ∃ (x3_1 : List (List Int)) (x4_1 : Int), v4 = .int .i64 x4_1 ∧ Aside0 (laws_toIntSS.l0 kq l0 x3_1 x4_1 = some r) ∧ Aside0 (kq ≤ k) ∧ Aside0 (Kd.S (Kd.slice 3 (Kd.int .i64)) 35 w' w.heap.size (fun _ => True) v147 x3_1) ∧ Aside0 (Below w.heap.size w w'))
      case atStart => exact ⟨(y146), (0), (by first | rfl | (simp; done) | (simp [*]; done)), H', ⟨Nat.le_refl _⟩, ⟨by (with_reducible repeat (first | apply Kd.S_alloc | apply Kd.S_drewN | apply Kd.S_drew)); exact HO148.out⟩, ⟨by repeat (first | (with_reducible first | exact HB.out | apply below_alloc | apply pw_below_drewN | apply below_drew1) | exact HB.out)⟩⟩
      case round =>
        clear H'
        try clear c2
        try clear c2b0
        try clear c2b1
        try clear p2
        try clear c3
        try clear c3b0
        try clear c3b1
        obtain ⟨x3_1, x4_1, rfl, HA, HK1, HO_3, HB⟩ := hrel
        cases gk with
        | zero => exact absurd HA.out (by simp [laws_toIntSS.l0])
        | succ k1 =>
          have H := HA.out
          clear HA
          simp only [laws_toIntSS.l0] at H
          by_cases c6 : x4_1 < (l0.length : Int)
          · rw [if_pos c6] at H
            have c6b0 : decide (x4_1 < (l0.length : Int)) = true := decide_eq_true c6
            clear c6
            by_cases c7 : 0 ≤ x4_1
            · rw [if_pos c7] at H
              have c7b0 : decide (0 ≤ x4_1) = true := decide_eq_true c7
              clear c7
              replace H := Option.bind_eq_some_iff.mp H
              obtain ⟨t150, A80, H⟩ := H
              replace H : (if x4_1 < (x3_1.length : Int) then (laws_toIntSS.l0 k1 l0 (x3_1.set (x4_1 : Int).toNat t150) (wrap64 (x4_1 + 1))) else (none)) = some r := H
              have A8 := Aside0.mk A80
              clear A80
              by_cases c9 : x4_1 < (x3_1.length : Int)
              · rw [if_pos c9] at H
                have c9b0 : decide (x4_1 < (x3_1.length : Int)) = true := decide_eq_true c9
                clear c9
                obtain ⟨y153, hy153⟩ : ∃ y_ : List (List Int), y_ = (x3_1.set (x4_1 : Int).toNat t150) := ⟨_, rfl⟩
                replace H : (laws_toIntSS.l0 k1 l0 y153 (wrap64 (x4_1 + 1))) = some r := by first | (rw [hy153]; with_reducible exact H) | (have H2_ := (Option.bind_some _ _).symm.trans H; rw [hy153]; with_reducible exact H2_) | (have H2_ := (Option.bind_some _ _).symm.trans H; with_reducible exact H2_) | with_reducible exact H | (rw [hy153]; exact H) | exact H
                have Ny153 := Aside0.mk hy153
                clear hy153
                have H' := Aside0.mk H
                clear H
                have p149 : 0 ≤ (x4_1 : Int) := of_decide_eq_true (by first | (with_reducible assumption) | assumption)
                have q149 : x4_1 < (l0.length : Int) := of_decide_eq_true (by first | (with_reducible assumption) | assumption)
                obtain ⟨ad149, A149_0, c149_0, e149, hx149_0, hl149_0, hi149_0⟩ := at_L1 HR0.out x4_1 p149 q149
                cases e149
                replace hx149_0 := (HB.out.cell (World.block_lt_of_cell? w _ hx149_0)).trans hx149_0
                have HR149_0 := Aside0.mk hi149_0
                have HC149_0 := Aside0.mk hl149_0
                clear hi149_0 hl149_0
                replace p149 := eq_true p149
                replace q149 := eq_true q149
                go_wp2_with (first | ((with_reducible refine gate_callee (f := 22) rfl ?_); refine goesL_ (some 20) rfl rfl Try.func22 (by kernel_rfl) rfl #[.slice A149_0 (rd_L1 l0 x4_1).length c149_0] rfl (by (try simp only [List.map_toArray, List.map_cons, List.map_nil]); first | done | rfl | (simp only [List.length_drop, List.length_take]; rfl)) ?_; (with_reducible refine (laws_toIntS.calls k1 _ _ (rd_L1 l0 x4_1) t150 _ ?side1 ?side2 A8.out).mono ?_); (case side1 => repeat (first | exact (Kd.C_below HR149_0.out HB.out) | (with_reducible refine Kd.C_alloc ?_ _) | (with_reducible refine Kd.C_drewN ?_ _) | (with_reducible refine Kd.C_drew ?_))); (case side2 => exact HC149_0.out); rintro e w11 ⟨v151, rfl, ho0, hb⟩; refine ⟨_, rfl, ?_⟩; have n0_ := Aside0.mk (Kd.S_elder' (by (with_reducible repeat (first | apply Kd.S_alloc | apply Kd.S_drewN | apply Kd.S_drew)); exact HO_3.out) (Kd.R_base ho0) hb); have n1_ := Aside0.mk (Kd.R_lower ho0 (below_size (by repeat (first | (with_reducible first | exact HB.out | apply below_alloc | apply pw_below_drewN | apply below_drew1) | exact HB.out)))); have n2_ := Aside0.mk (below_step (by repeat (first | (with_reducible first | exact HB.out | apply below_alloc | apply pw_below_drewN | apply below_drew1) | exact HB.out)) hb); clear HO_3; clear HB; have HO_3 := n0_; have HO152 := n1_; have HB := n2_; clear n0_ n1_ n2_; (try clear hb); (try clear hb2); (try clear hk); (try clear hi); (try clear ho0); have p10 : 0 ≤ (x4_1 : Int) := of_decide_eq_true (by first | (with_reducible assumption) | assumption); have q10 : (x4_1 : Int) < ((x3_1.length : Int) : Int) := of_decide_eq_true (by first | (with_reducible assumption) | assumption); obtain ⟨go10, co10, eo10, gb10, gl10, cl10, HG10⟩ := Kd.S_form HO_3.out (by omega); (first | cases eo10 | (injection eo10 with ea_ en_ ec_; (first | subst ea_ | (injection ea_ with ea_; subst ea_)); subst ec_; clear en_)); have GB10 := Aside0.mk gb10; have GG10 := Aside0.mk HG10; clear gb10 gl10 HG10; obtain ⟨_, ce10, hcl10, hM10, hcc10, hfr10, _, _⟩ := Kd.S_elem HO_3.out [] (x4_1 : Int) p10 q10; obtain ⟨ve10_0, rfl, ge10_0⟩ := hM10; have hx10_0 := hcc10 0 _ rfl; have hf10_0 := hfr10 0; (try simp only [show ((Kd.slice 3 (Kd.int .i64))).sz = 1 from rfl, Nat.mul_one, Nat.add_zero] at hx10_0); (try simp only [show ((Kd.slice 3 (Kd.int .i64))).sz = 1 from rfl, Nat.mul_one, Nat.add_zero] at hf10_0); (try clear hcl10); (try clear hcc10); (try clear hfr10); (try clear hM10); replace p10 := eq_true p10; replace q10 := eq_true q10; have n_ := Aside0.mk (Kd.S_mono (ok' := (fun k_ => some k_ ≠ (v151 : Value).ownBlock)) HO_3.out (fun k_ hk => hk.2)); clear HO_3; have HO_3 := n_; clear n_; have HX12 := Aside0.mk (show Kd.S (Kd.slice 3 (Kd.int .i64)) 35 w11 w.heap.size (fun k_ => ((fun _ => True)) k_ ∧ ¬ ((fun k_ => some k_ = (v151 : Value).ownBlock)) k_) (.slice (some ⟨go10, 0, none⟩) x3_1.length co10) x3_1 from (by (with_reducible repeat (first | apply Kd.S_alloc | apply Kd.S_drewN | apply Kd.S_drew)); exact Kd.S_mono HO_3.out (fun k_ hk => ⟨trivial, fun e_ => hk e_⟩))); obtain ⟨oki12, ce12, hcl12, hM12, hcc12, hfr12, hoki12, hH12⟩ := Kd.S_elem HX12.out [] (x4_1 : Int) (of_decide_eq_true (by first | (with_reducible assumption) | assumption)) (by have h_ : (x4_1 : Int) < ((x3_1.length : Int) : Int) := of_decide_eq_true (by first | (with_reducible assumption) | assumption); first | exact h_ | (have e_ := (Kd.S_reads' HO_3.out).1; omega) | simpa using h_); obtain ⟨ve12_0, rfl, ge12_0⟩ := hM12; have HP12 := Kd.S_seg hH12 (of_decide_eq_true (by first | (with_reducible assumption) | assumption)) (by have h_ : (x4_1 : Int) < ((x3_1.length : Int) : Int) := of_decide_eq_true (by first | (with_reducible assumption) | assumption); first | exact h_ | (have e_ := (Kd.S_reads' HO_3.out).1; omega) | simpa using h_) (seg := [v151]) (j := 0) (show 1 ≤ 1 from by decide) (x' := t150) (Kd.M_row (Kd.R_mono (Kd.R_tight rfl (Kd.R_mono (ok' := fun k_ => ((fun _ => True)) k_ ∧ k_ ≠ go10) (Kd.R_apart' (HO152.out) (Kd.S_typed HO_3.out) (by decide)) (fun k_ hk => ⟨trivial, fun e_ => (hk.2) (by rw [e_]; rfl)⟩))) (fun _ h_ => Or.inr (h_)))) (fun _ hk => hk) (fun k_ hk_ => ((Kd.R_mono (ok' := fun k_ => ((fun _ => True)) k_ ∧ k_ ≠ go10) (Kd.R_apart' (HO152.out) (Kd.S_typed HO_3.out) (by decide)) (fun k_ hk => ⟨trivial, fun e_ => (hk.2) (by rw [e_]; rfl)⟩))).1 k_ hk_.symm); have hx12_0 := hcc12 0 _ rfl; (try simp only [show ((Kd.slice 3 (Kd.int .i64))).sz = 1 from rfl, Nat.mul_one, Nat.add_zero] at hx12_0); have hf12_0 := hfr12 0; (try simp only [show ((Kd.slice 3 (Kd.int .i64))).sz = 1 from rfl, Nat.mul_one, Nat.add_zero] at hf12_0); (try clear hcl12); (try clear hcc12); (try clear hfr12); (try clear hM12); (try clear hoki12); (try clear hH12); (try simp only [show ((Kd.slice 3 (Kd.int .i64))).sz = 1 from rfl, Nat.mul_one, Nat.add_zero] at HP12)) | ((with_reducible refine gate_store (t := 35) (p := 21) rfl ?_); refine store_event (t := 35) (p := 21) (v := ?vo_w13) (w1 := (w11.setCell ⟨go10, (x4_1 : Int).toNat, none⟩ (v151))) ?hg ?ho ?hn ?hr ?_; (case ho => rfl); (case hg => rfl); (case hn => rfl); (case hr => (obtain ⟨Ao_, co_, eo_⟩ := Kd.R_slice HO152.out; subst eo_; first | (go_simp; done) | (go_simp; rfl))); intro w13 hw; have hg : w11.grownBy w13 (some go10) := (by rw [hw]; exact HP12.2); have hp_ : Kd.S (Kd.slice 3 (Kd.int .i64)) 35 w13 w.heap.size (fun _ => True) (.slice (some ⟨go10, 0, none⟩) x3_1.length co10) y153 := (by rw [hw, Ny153.out]; exact HP12.1); clear HP12; have n0_ := Aside0.mk (hp_); have n1_ := Aside0.mk ((by rw [hw]; exact below_set (HB.out) GB10.out : Below w.heap.size w w13)); clear HO_3; clear HB; clear HO152; have HO_3 := n0_; have HB := n1_; clear n0_ n1_; clear hg hw hp_))
                go_roundg k1
                case measure => have := HK1.out; omega
                case rel => exact ⟨(y153), (wrap64 (x4_1 + 1)), (by first | rfl | (simp; done) | (simp [*]; done)), H', ⟨by have := HK1.out; omega⟩, ⟨by (with_reducible repeat (first | apply Kd.S_alloc | apply Kd.S_drewN | apply Kd.S_drew)); exact HO_3.out⟩, ⟨by repeat (first | (with_reducible first | exact HB.out | apply below_alloc | apply pw_below_drewN | apply below_drew1) | exact HB.out)⟩⟩
              · rw [if_neg c9] at H
                exact absurd H (by simp)
            · rw [if_neg c7] at H
              exact absurd H (by simp)
          · rw [if_neg c6] at H
            have c6b0 : decide (x4_1 < (l0.length : Int)) = false := decide_eq_false c6
            clear c6
            obtain rfl := Option.some.inj H
            go_wp2
            go_ret
            exact ⟨_, by first | rfl | (simp [errW_none, errW_some] <;> rfl) | (simp [*, errW_none, errW_some] <;> rfl), by (with_reducible repeat (first | apply Kd.S_alloc | apply Kd.S_drewN | apply Kd.S_drew)); exact HO_3.out, by repeat (first | (with_reducible first | exact HB.out | apply below_alloc | apply pw_below_drewN | apply below_drew1) | exact HB.out)⟩
    · rw [if_neg c3] at H
      exact absurd H (by simp)
  · rw [if_neg c2] at H
    exact absurd H (by simp)

end Go.Proofs.Ytbcfgglcabeckaa.PFnExactOrderMost
