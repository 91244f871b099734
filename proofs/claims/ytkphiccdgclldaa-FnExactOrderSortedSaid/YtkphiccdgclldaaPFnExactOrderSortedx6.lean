-- Made by hprint.py (wip/) out of the translation; not trusted: Lean checks it.
import Derived.Test.YtkphiccdgclldaaPFnExactOrderSortedx0
import Derived.Test.YtkphiccdgclldaaPFnExactOrderSortedx1
import Derived.Test.YtkphiccdgclldaaPFnExactOrderSortedx2
import Derived.Test.YtkphiccdgclldaaPFnExactOrderSortedx5
namespace Go.Proofs.Ytkphiccdgclldaa.PFnExactOrderSorted
open Go.RowKit Go.Proofs.YtkphiccdgclldaaW.PrintWords Go.Proofs.YtkphiccdgclldaaW.PrintLast Go.Proofs.YtkphiccdgclldaaW.PrintMore
attribute [local go_sem] max2_int min2_int max_two min_two max_three min_three max_four min_four   -- for this text's walks alone
set_option linter.unusedVariables false
set_option linter.unusedSimpArgs false

/-! ### impl_cross: function 54 -/
def impl_cross.f (l0 : List Int) (l1 : List Int) : Option (Int) := if 0 < (l0.length : Int) then (if 1 < (l1.length : Int) then (if 1 < (l0.length : Int) then (if 0 < (l1.length : Int) then (some (wrap64 ((wrap64 ((rd l0 0) * (rd l1 1))) - (wrap64 ((rd l0 1) * (rd l1 0)))))) else (none)) else (none)) else (none)) else (none)
set_option maxHeartbeats 8000000 in
set_option maxRecDepth 100000 in
theorem impl_cross.calls (A0 : Option Addr) (c0 : Nat) (l0 : List Int) (A1 : Option Addr) (c1 : Nat) (l1 : List Int) (r : Int) (w : World) (hr0 : Kd.C (Kd.int .i64) w A0 l0.length l0) (hc0 : l0.length ≤ c0) (hr1 : Kd.C (Kd.int .i64) w A1 l1.length l1) (hc1 : l1.length ≤ c1) (h : impl_cross.f l0 l1 = some r) :
    Calls Try.prog 54 #[.slice A0 l0.length c0, .slice A1 l1.length c1] w fun e w' => e = .returned (.int .i64 r) ∧ Drawn0 w w' := by
  have HR0 := Aside0.mk hr0
  have HC0 := Aside0.mk hc0
  clear hr0 hc0
  have HR1 := Aside0.mk hr1
  have HC1 := Aside0.mk hc1
  clear hr1 hc1
  have H : (if 0 < (l0.length : Int) then (if 1 < (l1.length : Int) then (if 1 < (l0.length : Int) then (if 0 < (l1.length : Int) then (some (wrap64 ((wrap64 ((rd l0 0) * (rd l1 1))) - (wrap64 ((rd l0 1) * (rd l1 0)))))) else (none)) else (none)) else (none)) else (none)) = some r := h
  clear h
  by_cases c3 : 0 < (l0.length : Int)
  · rw [if_pos c3] at H
    have c3b0 : decide (0 < (l0.length : Int)) = true := decide_eq_true c3
    have c3b1 : decide (0 < l0.length) = true := decide_eq_true (by omega)
    clear c3
    by_cases c4 : 1 < (l1.length : Int)
    · rw [if_pos c4] at H
      have c4b0 : decide (1 < (l1.length : Int)) = true := decide_eq_true c4
      have c4b1 : decide (1 < l1.length) = true := decide_eq_true (by omega)
      clear c4
      by_cases c5 : 1 < (l0.length : Int)
      · rw [if_pos c5] at H
        have c5b0 : decide (1 < (l0.length : Int)) = true := decide_eq_true c5
        have c5b1 : decide (1 < l0.length) = true := decide_eq_true (by omega)
        clear c5
        by_cases c6 : 0 < (l1.length : Int)
        · rw [if_pos c6] at H
          have c6b0 : decide (0 < (l1.length : Int)) = true := decide_eq_true c6
          have c6b1 : decide (0 < l1.length) = true := decide_eq_true (by omega)
          clear c6
          obtain rfl := Option.some.inj H
          have p255 : 0 ≤ (0 : Int) := (by omega)
          have q255 : 0 < (l0.length : Int) := of_decide_eq_true (by first | (with_reducible assumption) | assumption)
          obtain ⟨ad255, e255, hx255_0⟩ := Kd.at_int HR0.out 0 p255 q255
          cases e255
          have qi255 : (0 < l0.length) = True := eq_true (by omega)
          (try rw [show ((0 : Int)).toNat = 0 from rfl] at hx255_0)
          (try rw [Addr.add_zero'] at hx255_0)
          replace p255 := eq_true p255
          replace q255 := eq_true q255
          have p256 : 0 ≤ (1 : Int) := (by omega)
          have q256 : 1 < (l1.length : Int) := of_decide_eq_true (by first | (with_reducible assumption) | assumption)
          obtain ⟨ad256, e256, hx256_0⟩ := Kd.at_int HR1.out 1 p256 q256
          cases e256
          (try simp only [show (1 : Int).toNat = 1 from rfl, Nat.reduceMul, Nat.reduceEqDiff, Go.Addr.add, ↓reduceIte] at hx256_0)
          have qi256 : (1 < l1.length) = True := eq_true (by omega)
          (try rw [show ((1 : Int)).toNat = 1 from rfl] at hx256_0)
          replace p256 := eq_true p256
          replace q256 := eq_true q256
          have p257 : 0 ≤ (1 : Int) := (by omega)
          have q257 : 1 < (l0.length : Int) := of_decide_eq_true (by first | (with_reducible assumption) | assumption)
          obtain ⟨ad257, e257, hx257_0⟩ := Kd.at_int HR0.out 1 p257 q257
          obtain rfl : ad255 = ad257 := (by injection e257)
          (try simp only [show (1 : Int).toNat = 1 from rfl, Nat.reduceMul, Nat.reduceEqDiff, Go.Addr.add, ↓reduceIte] at hx257_0)
          have qi257 : (1 < l0.length) = True := eq_true (by omega)
          (try rw [show ((1 : Int)).toNat = 1 from rfl] at hx257_0)
          replace p257 := eq_true p257
          replace q257 := eq_true q257
          have p258 : 0 ≤ (0 : Int) := (by omega)
          have q258 : 0 < (l1.length : Int) := of_decide_eq_true (by first | (with_reducible assumption) | assumption)
          obtain ⟨ad258, e258, hx258_0⟩ := Kd.at_int HR1.out 0 p258 q258
          obtain rfl : ad256 = ad258 := (by injection e258)
          have qi258 : (0 < l1.length) = True := eq_true (by omega)
          (try rw [show ((0 : Int)).toNat = 0 from rfl] at hx258_0)
          (try rw [Addr.add_zero'] at hx258_0)
          replace p258 := eq_true p258
          replace q258 := eq_true q258
          go_enter Try.func54, Try.ntmps54
          go_wp2
          repeat (go_quiet (fail); try go_wp2)
          go_ret
          exact ⟨by first | rfl | (simp; done) | (simp [*]; done), by repeat (first | exact Drawn0.refl _ | apply Drawn0.step)⟩
        · rw [if_neg c6] at H
          exact absurd H (by simp)
      · rw [if_neg c5] at H
        exact absurd H (by simp)
    · rw [if_neg c4] at H
      exact absurd H (by simp)
  · rw [if_neg c3] at H
    exact absurd H (by simp)

/-! ### impl_lower: function 78 -/
def impl_lower.f (l0 : List Int) : Option (Bool) := if 1 < (l0.length : Int) then (if (rd l0 1) < 0 then (some true) else (if (rd l0 1) = 0 then (if 0 < (l0.length : Int) then (some (decide ((rd l0 0) < 0))) else (none)) else (some false))) else (none)
set_option maxHeartbeats 8000000 in
set_option maxRecDepth 100000 in
theorem impl_lower.calls (A0 : Option Addr) (c0 : Nat) (l0 : List Int) (r : Bool) (w : World) (hr0 : Kd.C (Kd.int .i64) w A0 l0.length l0) (hc0 : l0.length ≤ c0) (h : impl_lower.f l0 = some r) :
    Calls Try.prog 78 #[.slice A0 l0.length c0] w fun e w' => e = .returned (.bool r) ∧ Drawn0 w w' := by
  have HR0 := Aside0.mk hr0
  have HC0 := Aside0.mk hc0
  clear hr0 hc0
  have H : (if 1 < (l0.length : Int) then (if (rd l0 1) < 0 then (some true) else (if (rd l0 1) = 0 then (if 0 < (l0.length : Int) then (some (decide ((rd l0 0) < 0))) else (none)) else (some false))) else (none)) = some r := h
  clear h
  by_cases c2 : 1 < (l0.length : Int)
  · rw [if_pos c2] at H
    have c2b0 : decide (1 < (l0.length : Int)) = true := decide_eq_true c2
    have c2b1 : decide (1 < l0.length) = true := decide_eq_true (by omega)
    clear c2
    by_cases c3 : (rd l0 1) < 0
    · rw [if_pos c3] at H
      have c3b0 : decide ((rd l0 1) < 0) = true := decide_eq_true c3
      clear c3
      obtain rfl := Option.some.inj H
      have p259 : 0 ≤ (1 : Int) := (by omega)
      have q259 : 1 < (l0.length : Int) := of_decide_eq_true (by first | (with_reducible assumption) | assumption)
      obtain ⟨ad259, e259, hx259_0⟩ := Kd.at_int HR0.out 1 p259 q259
      cases e259
      (try simp only [show (1 : Int).toNat = 1 from rfl, Nat.reduceMul, Nat.reduceEqDiff, Go.Addr.add, ↓reduceIte] at hx259_0)
      have qi259 : (1 < l0.length) = True := eq_true (by omega)
      (try rw [show ((1 : Int)).toNat = 1 from rfl] at hx259_0)
      replace p259 := eq_true p259
      replace q259 := eq_true q259
      go_enter Try.func78, Try.ntmps78
      go_wp2
      go_ret
      exact ⟨by first | rfl | (simp; done) | (simp [*]; done), by repeat (first | exact Drawn0.refl _ | apply Drawn0.step)⟩
    · rw [if_neg c3] at H
      have c3b0 : decide ((rd l0 1) < 0) = false := decide_eq_false c3
      clear c3
      by_cases c4 : (rd l0 1) = 0
      · rw [if_pos c4] at H
        have c4b0 : ((rd l0 1) == 0) = true := beq_iff_eq.mpr c4
        have c4b1 : ((rd l0 1) != 0) = false := bne_eq_false_iff_eq.mpr c4
        clear c4
        by_cases c5 : 0 < (l0.length : Int)
        · rw [if_pos c5] at H
          have c5b0 : decide (0 < (l0.length : Int)) = true := decide_eq_true c5
          have c5b1 : decide (0 < l0.length) = true := decide_eq_true (by omega)
          clear c5
          obtain rfl := Option.some.inj H
          have p259 : 0 ≤ (1 : Int) := (by omega)
          have q259 : 1 < (l0.length : Int) := of_decide_eq_true (by first | (with_reducible assumption) | assumption)
          obtain ⟨ad259, e259, hx259_0⟩ := Kd.at_int HR0.out 1 p259 q259
          cases e259
          (try simp only [show (1 : Int).toNat = 1 from rfl, Nat.reduceMul, Nat.reduceEqDiff, Go.Addr.add, ↓reduceIte] at hx259_0)
          have qi259 : (1 < l0.length) = True := eq_true (by omega)
          (try rw [show ((1 : Int)).toNat = 1 from rfl] at hx259_0)
          replace p259 := eq_true p259
          replace q259 := eq_true q259
          have p260 : 0 ≤ (1 : Int) := (by omega)
          have q260 : 1 < (l0.length : Int) := of_decide_eq_true (by first | (with_reducible assumption) | assumption)
          obtain ⟨ad260, e260, hx260_0⟩ := Kd.at_int HR0.out 1 p260 q260
          obtain rfl : ad259 = ad260 := (by injection e260)
          (try simp only [show (1 : Int).toNat = 1 from rfl, Nat.reduceMul, Nat.reduceEqDiff, Go.Addr.add, ↓reduceIte] at hx260_0)
          have qi260 : (1 < l0.length) = True := eq_true (by omega)
          (try rw [show ((1 : Int)).toNat = 1 from rfl] at hx260_0)
          replace p260 := eq_true p260
          replace q260 := eq_true q260
          have p261 : 0 ≤ (0 : Int) := (by omega)
          have q261 : 0 < (l0.length : Int) := of_decide_eq_true (by first | (with_reducible assumption) | assumption)
          obtain ⟨ad261, e261, hx261_0⟩ := Kd.at_int HR0.out 0 p261 q261
          obtain rfl : ad259 = ad261 := (by injection e261)
          have qi261 : (0 < l0.length) = True := eq_true (by omega)
          (try rw [show ((0 : Int)).toNat = 0 from rfl] at hx261_0)
          (try rw [Addr.add_zero'] at hx261_0)
          replace p261 := eq_true p261
          replace q261 := eq_true q261
          go_enter Try.func78, Try.ntmps78
          go_wp2
          go_ret
          exact ⟨by first | rfl | (simp; done) | (simp [*]; done), by repeat (first | exact Drawn0.refl _ | apply Drawn0.step)⟩
        · rw [if_neg c5] at H
          exact absurd H (by simp)
      · rw [if_neg c4] at H
        have c4b0 : ((rd l0 1) == 0) = false := beq_eq_false_iff_ne.mpr c4
        have c4b1 : ((rd l0 1) != 0) = true := bne_iff_ne.mpr c4
        obtain rfl := Option.some.inj H
        have p259 : 0 ≤ (1 : Int) := (by omega)
        have q259 : 1 < (l0.length : Int) := of_decide_eq_true (by first | (with_reducible assumption) | assumption)
        obtain ⟨ad259, e259, hx259_0⟩ := Kd.at_int HR0.out 1 p259 q259
        cases e259
        (try simp only [show (1 : Int).toNat = 1 from rfl, Nat.reduceMul, Nat.reduceEqDiff, Go.Addr.add, ↓reduceIte] at hx259_0)
        have qi259 : (1 < l0.length) = True := eq_true (by omega)
        (try rw [show ((1 : Int)).toNat = 1 from rfl] at hx259_0)
        replace p259 := eq_true p259
        replace q259 := eq_true q259
        have p260 : 0 ≤ (1 : Int) := (by omega)
        have q260 : 1 < (l0.length : Int) := of_decide_eq_true (by first | (with_reducible assumption) | assumption)
        obtain ⟨ad260, e260, hx260_0⟩ := Kd.at_int HR0.out 1 p260 q260
        obtain rfl : ad259 = ad260 := (by injection e260)
        (try simp only [show (1 : Int).toNat = 1 from rfl, Nat.reduceMul, Nat.reduceEqDiff, Go.Addr.add, ↓reduceIte] at hx260_0)
        have qi260 : (1 < l0.length) = True := eq_true (by omega)
        (try rw [show ((1 : Int)).toNat = 1 from rfl] at hx260_0)
        replace p260 := eq_true p260
        replace q260 := eq_true q260
        go_enter Try.func78, Try.ntmps78
        go_wp2
        go_ret
        exact ⟨by first | rfl | (simp; done) | (simp [*]; done), by repeat (first | exact Drawn0.refl _ | apply Drawn0.step)⟩
  · rw [if_neg c2] at H
    exact absurd H (by simp)

/-! ### impl_compareSteps: function 65 -/
def impl_compareSteps.f (l0 : List Int) (l1 : List Int) : Option (Int) := (impl_lower.f l0).bind fun t262 => ((impl_lower.f l1).bind fun t263 => (if (t262 != t263) = true then ((impl_lower.f l1).bind fun t264 => (if t264 = true then (some (-1)) else (some 1))) else ((impl_cross.f l0 l1).bind fun t265 => (if t265 > 0 then (some (-1)) else (if t265 < 0 then (some 1) else (some 0))))))
set_option maxHeartbeats 8000000 in
set_option maxRecDepth 100000 in
theorem impl_compareSteps.calls (A0 : Option Addr) (c0 : Nat) (l0 : List Int) (A1 : Option Addr) (c1 : Nat) (l1 : List Int) (r : Int) (w : World) (hr0 : Kd.C (Kd.int .i64) w A0 l0.length l0) (hc0 : l0.length ≤ c0) (hr1 : Kd.C (Kd.int .i64) w A1 l1.length l1) (hc1 : l1.length ≤ c1) (h : impl_compareSteps.f l0 l1 = some r) :
    Calls Try.prog 65 #[.slice A0 l0.length c0, .slice A1 l1.length c1] w fun e w' => e = .returned (.int .i64 r) ∧ Drawn0 w w' := by
  have HR0 := Aside0.mk hr0
  have HC0 := Aside0.mk hc0
  clear hr0 hc0
  have HR1 := Aside0.mk hr1
  have HC1 := Aside0.mk hc1
  clear hr1 hc1
  have H : ((impl_lower.f l0).bind fun t262 => ((impl_lower.f l1).bind fun t263 => (if (t262 != t263) = true then ((impl_lower.f l1).bind fun t264 => (if t264 = true then (some (-1)) else (some 1))) else ((impl_cross.f l0 l1).bind fun t265 => (if t265 > 0 then (some (-1)) else (if t265 < 0 then (some 1) else (some 0))))))) = some r := h
  clear h
  replace H := Option.bind_eq_some_iff.mp H
  obtain ⟨t262, A30, H⟩ := H
  replace H : ((impl_lower.f l1).bind fun t263 => (if (t262 != t263) = true then ((impl_lower.f l1).bind fun t264 => (if t264 = true then (some (-1)) else (some 1))) else ((impl_cross.f l0 l1).bind fun t265 => (if t265 > 0 then (some (-1)) else (if t265 < 0 then (some 1) else (some 0)))))) = some r := H
  have A3 := Aside0.mk A30
  clear A30
  replace H := Option.bind_eq_some_iff.mp H
  obtain ⟨t263, A40, H⟩ := H
  replace H : (if (t262 != t263) = true then ((impl_lower.f l1).bind fun t264 => (if t264 = true then (some (-1)) else (some 1))) else ((impl_cross.f l0 l1).bind fun t265 => (if t265 > 0 then (some (-1)) else (if t265 < 0 then (some 1) else (some 0))))) = some r := H
  have A4 := Aside0.mk A40
  clear A40
  by_cases c5 : (t262 != t263) = true
  · rw [if_pos c5] at H
    have c5b0 : (t262 != t263) = true := c5
    (try (have c5b1 : decide (t262 = t263) = false := by simpa using c5))
    (try (have c5b2 : (t262 == t263) = false := by simpa using c5))
    (try (have c5b3 : ¬ (t262 = t263) := by simpa using c5))
    clear c5
    replace H := Option.bind_eq_some_iff.mp H
    obtain ⟨t264, A60, H⟩ := H
    replace H : (if t264 = true then (some (-1)) else (some 1)) = some r := H
    have A6 := Aside0.mk A60
    clear A60
    by_cases c7 : t264 = true
    · subst c7
      have H1 : (some (-1)) = some r := by rw [if_pos rfl] at H; exact H
      clear H
      have H := H1
      clear H1
      obtain rfl := Option.some.inj H
      go_enter Try.func65, Try.ntmps65
      go_wp2_with (first | ((with_reducible refine gate_callee (f := 78) rfl ?_); refine goesL_ (some 7) rfl rfl Try.func78 (by kernel_rfl) rfl #[.slice A0 l0.length c0] rfl (by (try simp only [List.map_toArray, List.map_cons, List.map_nil]); first | done | rfl | (simp only [List.length_drop, List.length_take]; rfl)) ?_; (with_reducible refine (impl_lower.calls _ _ l0 t262 _ ?side1 ?side2 A3.out).mono ?_); (case side1 => repeat (first | exact HR0.out | (with_reducible refine Kd.C_alloc ?_ _) | (with_reducible refine Kd.C_drewN ?_ _) | (with_reducible refine Kd.C_drew ?_))); (case side2 => exact HC0.out); rintro e w' ⟨rfl, ⟨nd, rfl⟩⟩; refine ⟨_, rfl, ?_⟩) | ((with_reducible refine gate_callee (f := 78) rfl ?_); refine goesL_ (some 9) rfl rfl Try.func78 (by kernel_rfl) rfl #[.slice A1 l1.length c1] rfl (by (try simp only [List.map_toArray, List.map_cons, List.map_nil]); first | done | rfl | (simp only [List.length_drop, List.length_take]; rfl)) ?_; (with_reducible refine (impl_lower.calls _ _ l1 t263 _ ?side1 ?side2 A4.out).mono ?_); (case side1 => repeat (first | exact HR1.out | (with_reducible refine Kd.C_alloc ?_ _) | (with_reducible refine Kd.C_drewN ?_ _) | (with_reducible refine Kd.C_drew ?_))); (case side2 => exact HC1.out); rintro e w' ⟨rfl, ⟨nd, rfl⟩⟩; refine ⟨_, rfl, ?_⟩) | ((with_reducible refine gate_callee (f := 78) rfl ?_); refine goesL_ (some 12) rfl rfl Try.func78 (by kernel_rfl) rfl #[.slice A1 l1.length c1] rfl (by (try simp only [List.map_toArray, List.map_cons, List.map_nil]); first | done | rfl | (simp only [List.length_drop, List.length_take]; rfl)) ?_; (with_reducible refine (impl_lower.calls _ _ l1 true _ ?side1 ?side2 A6.out).mono ?_); (case side1 => repeat (first | exact HR1.out | (with_reducible refine Kd.C_alloc ?_ _) | (with_reducible refine Kd.C_drewN ?_ _) | (with_reducible refine Kd.C_drew ?_))); (case side2 => exact HC1.out); rintro e w' ⟨rfl, ⟨nd, rfl⟩⟩; refine ⟨_, rfl, ?_⟩))
      go_ret
      exact ⟨by first | rfl | (simp; done) | (simp [*]; done), by repeat (first | exact Drawn0.refl _ | apply Drawn0.step)⟩
    · replace c7 := Bool.eq_false_iff.mpr c7
      subst c7
      have H1 : (some 1) = some r := by rw [if_neg (show ¬ (false = true) by decide)] at H; exact H
      clear H
      have H := H1
      clear H1
      obtain rfl := Option.some.inj H
      go_enter Try.func65, Try.ntmps65
      go_wp2_with (first | ((with_reducible refine gate_callee (f := 78) rfl ?_); refine goesL_ (some 7) rfl rfl Try.func78 (by kernel_rfl) rfl #[.slice A0 l0.length c0] rfl (by (try simp only [List.map_toArray, List.map_cons, List.map_nil]); first | done | rfl | (simp only [List.length_drop, List.length_take]; rfl)) ?_; (with_reducible refine (impl_lower.calls _ _ l0 t262 _ ?side1 ?side2 A3.out).mono ?_); (case side1 => repeat (first | exact HR0.out | (with_reducible refine Kd.C_alloc ?_ _) | (with_reducible refine Kd.C_drewN ?_ _) | (with_reducible refine Kd.C_drew ?_))); (case side2 => exact HC0.out); rintro e w' ⟨rfl, ⟨nd, rfl⟩⟩; refine ⟨_, rfl, ?_⟩) | ((with_reducible refine gate_callee (f := 78) rfl ?_); refine goesL_ (some 9) rfl rfl Try.func78 (by kernel_rfl) rfl #[.slice A1 l1.length c1] rfl (by (try simp only [List.map_toArray, List.map_cons, List.map_nil]); first | done | rfl | (simp only [List.length_drop, List.length_take]; rfl)) ?_; (with_reducible refine (impl_lower.calls _ _ l1 t263 _ ?side1 ?side2 A4.out).mono ?_); (case side1 => repeat (first | exact HR1.out | (with_reducible refine Kd.C_alloc ?_ _) | (with_reducible refine Kd.C_drewN ?_ _) | (with_reducible refine Kd.C_drew ?_))); (case side2 => exact HC1.out); rintro e w' ⟨rfl, ⟨nd, rfl⟩⟩; refine ⟨_, rfl, ?_⟩) | ((with_reducible refine gate_callee (f := 78) rfl ?_); refine goesL_ (some 12) rfl rfl Try.func78 (by kernel_rfl) rfl #[.slice A1 l1.length c1] rfl (by (try simp only [List.map_toArray, List.map_cons, List.map_nil]); first | done | rfl | (simp only [List.length_drop, List.length_take]; rfl)) ?_; (with_reducible refine (impl_lower.calls _ _ l1 false _ ?side1 ?side2 A6.out).mono ?_); (case side1 => repeat (first | exact HR1.out | (with_reducible refine Kd.C_alloc ?_ _) | (with_reducible refine Kd.C_drewN ?_ _) | (with_reducible refine Kd.C_drew ?_))); (case side2 => exact HC1.out); rintro e w' ⟨rfl, ⟨nd, rfl⟩⟩; refine ⟨_, rfl, ?_⟩))
      go_ret
      exact ⟨by first | rfl | (simp; done) | (simp [*]; done), by repeat (first | exact Drawn0.refl _ | apply Drawn0.step)⟩
  · rw [if_neg c5] at H
    have c5b0 : (t262 != t263) = false := by simpa using c5
    (try (have c5b1 : decide (t262 = t263) = true := by simpa using c5))
    (try (have c5b2 : (t262 == t263) = true := by simpa using c5))
    clear c5
    replace H := Option.bind_eq_some_iff.mp H
    obtain ⟨t265, A80, H⟩ := H
    replace H : (if t265 > 0 then (some (-1)) else (if t265 < 0 then (some 1) else (some 0))) = some r := H
    have A8 := Aside0.mk A80
    clear A80
    by_cases c9 : t265 > 0
    · rw [if_pos c9] at H
      have c9b0 : decide (0 < t265) = true := decide_eq_true c9
      clear c9
      obtain rfl := Option.some.inj H
      go_enter Try.func65, Try.ntmps65
      go_wp2_with (first | ((with_reducible refine gate_callee (f := 78) rfl ?_); refine goesL_ (some 7) rfl rfl Try.func78 (by kernel_rfl) rfl #[.slice A0 l0.length c0] rfl (by (try simp only [List.map_toArray, List.map_cons, List.map_nil]); first | done | rfl | (simp only [List.length_drop, List.length_take]; rfl)) ?_; (with_reducible refine (impl_lower.calls _ _ l0 t262 _ ?side1 ?side2 A3.out).mono ?_); (case side1 => repeat (first | exact HR0.out | (with_reducible refine Kd.C_alloc ?_ _) | (with_reducible refine Kd.C_drewN ?_ _) | (with_reducible refine Kd.C_drew ?_))); (case side2 => exact HC0.out); rintro e w' ⟨rfl, ⟨nd, rfl⟩⟩; refine ⟨_, rfl, ?_⟩) | ((with_reducible refine gate_callee (f := 78) rfl ?_); refine goesL_ (some 9) rfl rfl Try.func78 (by kernel_rfl) rfl #[.slice A1 l1.length c1] rfl (by (try simp only [List.map_toArray, List.map_cons, List.map_nil]); first | done | rfl | (simp only [List.length_drop, List.length_take]; rfl)) ?_; (with_reducible refine (impl_lower.calls _ _ l1 t263 _ ?side1 ?side2 A4.out).mono ?_); (case side1 => repeat (first | exact HR1.out | (with_reducible refine Kd.C_alloc ?_ _) | (with_reducible refine Kd.C_drewN ?_ _) | (with_reducible refine Kd.C_drew ?_))); (case side2 => exact HC1.out); rintro e w' ⟨rfl, ⟨nd, rfl⟩⟩; refine ⟨_, rfl, ?_⟩) | ((with_reducible refine gate_callee (f := 54) rfl ?_); refine goesL_ (some 15) rfl rfl Try.func54 (by kernel_rfl) rfl #[.slice A0 l0.length c0, .slice A1 l1.length c1] rfl (by (try simp only [List.map_toArray, List.map_cons, List.map_nil]); first | done | rfl | (simp only [List.length_drop, List.length_take]; rfl)) ?_; (with_reducible refine (impl_cross.calls _ _ l0 _ _ l1 t265 _ ?side1 ?side2 ?side3 ?side4 A8.out).mono ?_); (case side1 => repeat (first | exact HR0.out | (with_reducible refine Kd.C_alloc ?_ _) | (with_reducible refine Kd.C_drewN ?_ _) | (with_reducible refine Kd.C_drew ?_))); (case side2 => exact HC0.out); (case side3 => repeat (first | exact HR1.out | (with_reducible refine Kd.C_alloc ?_ _) | (with_reducible refine Kd.C_drewN ?_ _) | (with_reducible refine Kd.C_drew ?_))); (case side4 => exact HC1.out); rintro e w' ⟨rfl, ⟨nd, rfl⟩⟩; refine ⟨_, rfl, ?_⟩))
      go_ret
      exact ⟨by first | rfl | (simp; done) | (simp [*]; done), by repeat (first | exact Drawn0.refl _ | apply Drawn0.step)⟩
    · rw [if_neg c9] at H
      have c9b0 : decide (0 < t265) = false := decide_eq_false c9
      clear c9
      by_cases c10 : t265 < 0
      · rw [if_pos c10] at H
        have c10b0 : decide (t265 < 0) = true := decide_eq_true c10
        clear c10
        obtain rfl := Option.some.inj H
        go_enter Try.func65, Try.ntmps65
        go_wp2_with (first | ((with_reducible refine gate_callee (f := 78) rfl ?_); refine goesL_ (some 7) rfl rfl Try.func78 (by kernel_rfl) rfl #[.slice A0 l0.length c0] rfl (by (try simp only [List.map_toArray, List.map_cons, List.map_nil]); first | done | rfl | (simp only [List.length_drop, List.length_take]; rfl)) ?_; (with_reducible refine (impl_lower.calls _ _ l0 t262 _ ?side1 ?side2 A3.out).mono ?_); (case side1 => repeat (first | exact HR0.out | (with_reducible refine Kd.C_alloc ?_ _) | (with_reducible refine Kd.C_drewN ?_ _) | (with_reducible refine Kd.C_drew ?_))); (case side2 => exact HC0.out); rintro e w' ⟨rfl, ⟨nd, rfl⟩⟩; refine ⟨_, rfl, ?_⟩) | ((with_reducible refine gate_callee (f := 78) rfl ?_); refine goesL_ (some 9) rfl rfl Try.func78 (by kernel_rfl) rfl #[.slice A1 l1.length c1] rfl (by (try simp only [List.map_toArray, List.map_cons, List.map_nil]); first | done | rfl | (simp only [List.length_drop, List.length_take]; rfl)) ?_; (with_reducible refine (impl_lower.calls _ _ l1 t263 _ ?side1 ?side2 A4.out).mono ?_); (case side1 => repeat (first | exact HR1.out | (with_reducible refine Kd.C_alloc ?_ _) | (with_reducible refine Kd.C_drewN ?_ _) | (with_reducible refine Kd.C_drew ?_))); (case side2 => exact HC1.out); rintro e w' ⟨rfl, ⟨nd, rfl⟩⟩; refine ⟨_, rfl, ?_⟩) | ((with_reducible refine gate_callee (f := 54) rfl ?_); refine goesL_ (some 15) rfl rfl Try.func54 (by kernel_rfl) rfl #[.slice A0 l0.length c0, .slice A1 l1.length c1] rfl (by (try simp only [List.map_toArray, List.map_cons, List.map_nil]); first | done | rfl | (simp only [List.length_drop, List.length_take]; rfl)) ?_; (with_reducible refine (impl_cross.calls _ _ l0 _ _ l1 t265 _ ?side1 ?side2 ?side3 ?side4 A8.out).mono ?_); (case side1 => repeat (first | exact HR0.out | (with_reducible refine Kd.C_alloc ?_ _) | (with_reducible refine Kd.C_drewN ?_ _) | (with_reducible refine Kd.C_drew ?_))); (case side2 => exact HC0.out); (case side3 => repeat (first | exact HR1.out | (with_reducible refine Kd.C_alloc ?_ _) | (with_reducible refine Kd.C_drewN ?_ _) | (with_reducible refine Kd.C_drew ?_))); (case side4 => exact HC1.out); rintro e w' ⟨rfl, ⟨nd, rfl⟩⟩; refine ⟨_, rfl, ?_⟩))
        go_ret
        exact ⟨by first | rfl | (simp; done) | (simp [*]; done), by repeat (first | exact Drawn0.refl _ | apply Drawn0.step)⟩
      · rw [if_neg c10] at H
        have c10b0 : decide (t265 < 0) = false := decide_eq_false c10
        clear c10
        obtain rfl := Option.some.inj H
        go_enter Try.func65, Try.ntmps65
        go_wp2_with (first | ((with_reducible refine gate_callee (f := 78) rfl ?_); refine goesL_ (some 7) rfl rfl Try.func78 (by kernel_rfl) rfl #[.slice A0 l0.length c0] rfl (by (try simp only [List.map_toArray, List.map_cons, List.map_nil]); first | done | rfl | (simp only [List.length_drop, List.length_take]; rfl)) ?_; (with_reducible refine (impl_lower.calls _ _ l0 t262 _ ?side1 ?side2 A3.out).mono ?_); (case side1 => repeat (first | exact HR0.out | (with_reducible refine Kd.C_alloc ?_ _) | (with_reducible refine Kd.C_drewN ?_ _) | (with_reducible refine Kd.C_drew ?_))); (case side2 => exact HC0.out); rintro e w' ⟨rfl, ⟨nd, rfl⟩⟩; refine ⟨_, rfl, ?_⟩) | ((with_reducible refine gate_callee (f := 78) rfl ?_); refine goesL_ (some 9) rfl rfl Try.func78 (by kernel_rfl) rfl #[.slice A1 l1.length c1] rfl (by (try simp only [List.map_toArray, List.map_cons, List.map_nil]); first | done | rfl | (simp only [List.length_drop, List.length_take]; rfl)) ?_; (with_reducible refine (impl_lower.calls _ _ l1 t263 _ ?side1 ?side2 A4.out).mono ?_); (case side1 => repeat (first | exact HR1.out | (with_reducible refine Kd.C_alloc ?_ _) | (with_reducible refine Kd.C_drewN ?_ _) | (with_reducible refine Kd.C_drew ?_))); (case side2 => exact HC1.out); rintro e w' ⟨rfl, ⟨nd, rfl⟩⟩; refine ⟨_, rfl, ?_⟩) | ((with_reducible refine gate_callee (f := 54) rfl ?_); refine goesL_ (some 15) rfl rfl Try.func54 (by kernel_rfl) rfl #[.slice A0 l0.length c0, .slice A1 l1.length c1] rfl (by (try simp only [List.map_toArray, List.map_cons, List.map_nil]); first | done | rfl | (simp only [List.length_drop, List.length_take]; rfl)) ?_; (with_reducible refine (impl_cross.calls _ _ l0 _ _ l1 t265 _ ?side1 ?side2 ?side3 ?side4 A8.out).mono ?_); (case side1 => repeat (first | exact HR0.out | (with_reducible refine Kd.C_alloc ?_ _) | (with_reducible refine Kd.C_drewN ?_ _) | (with_reducible refine Kd.C_drew ?_))); (case side2 => exact HC0.out); (case side3 => repeat (first | exact HR1.out | (with_reducible refine Kd.C_alloc ?_ _) | (with_reducible refine Kd.C_drewN ?_ _) | (with_reducible refine Kd.C_drew ?_))); (case side4 => exact HC1.out); rintro e w' ⟨rfl, ⟨nd, rfl⟩⟩; refine ⟨_, rfl, ?_⟩))
        go_ret
        exact ⟨by first | rfl | (simp; done) | (simp [*]; done), by repeat (first | exact Drawn0.refl _ | apply Drawn0.step)⟩

/-! ### impl_OrderSorted: function 35, by hand -/
def impl_OrderSorted.cmp (a b : List Int) : Int := (impl_compareSteps.f a b).getD 0
def impl_OrderSorted.f (k : Nat) (l0 : List (List Int)) : Option (List (List Int) × Bool) := (impl_PathIn.f k l0).bind fun t => if t = true then ((impl_copySteps.f k l0).bind fun y => if 0 < y.length ∧ y.length < 20 ∧ ∀ a ∈ y, ∀ b ∈ y, (impl_compareSteps.f a b).isSome = true then some (Go.Proofs.Ytkphiccdgclldaa.HSrt.isort (fun a b => decide (impl_OrderSorted.cmp a b < 0)) y, true) else none) else some ([], false)
theorem impl_OrderSorted.mono : ∀ a0 k, LeO (impl_OrderSorted.f k a0) (impl_OrderSorted.f (k + 1) a0) := by
  intro a0 k
  unfold impl_OrderSorted.f
  refine LeO.bind (impl_PathIn.mono _ _) (fun t => ?_)
  exact LeO.ite (LeO.bind (impl_copySteps.mono _ _) (fun y => LeO.refl _)) (LeO.refl _)
open Go.Proofs.Ytkphiccdgclldaa.HRaw Go.Proofs.Ytkphiccdgclldaa.HSrt in
set_option maxHeartbeats 8000000 in
set_option maxRecDepth 100000 in
theorem impl_OrderSorted.calls (k : Nat) (A0 : Option Addr) (c0 : Nat) (l0 : List (List Int)) (r1 : List (List Int)) (r2 : Bool) (w : World) (hr0 : Kd.C (Kd.slice 3 (Kd.int .i64)) w A0 l0.length l0) (hc0 : l0.length ≤ c0) (h : impl_OrderSorted.f k l0 = some (r1, r2)) :
    Calls Try.prog 35 #[.slice A0 l0.length c0] w fun e w' => ∃ v0_ : Value, e = .returned (.tuple #[v0_, .bool r2]) ∧ Kd.S (Kd.slice 3 (Kd.int .i64)) 34 w' w.heap.size (fun _ => True) v0_ r1 ∧ Below w.heap.size w w' := by
  unfold impl_OrderSorted.f at h
  obtain ⟨t, h1, h⟩ := Option.bind_eq_some_iff.mp h
  cases t with
  | false =>
    rw [if_neg (by decide)] at h
    obtain ⟨rfl, rfl⟩ : r1 = [] ∧ r2 = false := by injection h with h; injection h with a b; exact ⟨a.symm, b.symm⟩
    have c1 := impl_PathIn.calls k A0 c0 l0 false w hr0 hc0 h1
    clear h h1
    go_enter Try.func35, Try.ntmps35
    go_wp2_with (first | (go_at_call 55; refine c1.mono ?_; rintro e w' ⟨rfl, ⟨nd, rfl⟩⟩))
    go_ret2
    exact ⟨_, rfl, Kd.S_nil _ _ _ _ _, pw_below_drewN (Below.refl _ _) _⟩
  | true =>
    rw [if_pos rfl] at h
    obtain ⟨y, h2, h⟩ := Option.bind_eq_some_iff.mp h
    by_cases g0 : 0 < y.length ∧ y.length < 20 ∧ ∀ a ∈ y, ∀ b ∈ y, (impl_compareSteps.f a b).isSome = true
    · rw [if_pos g0] at h
      obtain ⟨rfl, rfl⟩ : r1 = isort (fun a b => decide (impl_OrderSorted.cmp a b < 0)) y ∧ r2 = true := by injection h with h; injection h with a b; exact ⟨a.symm, b.symm⟩
      obtain ⟨hn, h20, hcs⟩ := g0
      have c1 := impl_PathIn.calls k A0 c0 l0 true w hr0 hc0 h1
      have c2 : ∀ nd, Calls Try.prog 63 #[.slice A0 l0.length c0] (w.drewN nd) _ := fun nd => impl_copySteps.calls k A0 c0 l0 y (w.drewN nd) (Kd.C_drewN hr0 nd) hc0 h2
      clear h h1 h2
      go_enter Try.func35, Try.ntmps35
      go_wp2_with (first | (go_at_call 55; refine c1.mono ?_; rintro e w' ⟨rfl, ⟨nd, rfl⟩⟩; clear c1) | (go_at_call 63; refine (c2 _).mono ?_; rintro e w2 ⟨v0, rfl, hS, hB⟩; clear c2; obtain ⟨g, cap, cur, hs, f, O⟩ := open_S hS hn; have OO := Aside0.mk O; clear O hS))
      have hcmp : ∀ (W : World) (i j : Nat) (hi : i < y.length) (hj : j < y.length), (∀ k, k ≠ g → k < w2.heap.size → W.heap[k]? = w2.heap[k]?) →
          Calls Try.prog 65 #[encH (hs[i]'(by rw [OO.out.hlen]; exact hi)), encH (hs[j]'(by rw [OO.out.hlen]; exact hj))] W fun e w' => e = .returned (.int .i64 (impl_OrderSorted.cmp y[i] y[j])) ∧ ∃ m, w' = W.drewN m := by
        intro W i j hi hj hW
        obtain ⟨e1, e2, hC1⟩ := OO.out.reads hW i hi (by rw [OO.out.hlen]; exact hi)
        obtain ⟨e3, e4, hC2⟩ := OO.out.reads hW j hj (by rw [OO.out.hlen]; exact hj)
        obtain ⟨r, hr⟩ := Option.isSome_iff_exists.1 (hcs y[i] (List.getElem_mem _) y[j] (List.getElem_mem _))
        have c := impl_compareSteps.calls _ _ y[i] _ _ y[j] r W hC1 e2 hC2 e4 hr
        rw [← e1, ← e3] at c
        refine Calls.mono (show Calls Try.prog 65 #[encH _, encH _] W _ from c) ?_
        rintro e w' ⟨rfl, hD⟩
        exact ⟨by unfold impl_OrderSorted.cmp; rw [hr]; rfl, hD.out⟩
      refine (slices_SortStableFunc_int_int.calls OO.out hn h20 impl_OrderSorted.cmp 65 (enters_of Try.func65 (by kernel_rfl) rfl) hcmp).mono ?_
      rintro e w3 ⟨rfl, ⟨cur', hs', f', O'⟩, hB3⟩
      clear hcmp OO
      go_wp2
      go_ret2
      exact ⟨_, rfl, O'.shut, Below.trans (Below.trans (pw_below_drewN (Below.refl _ w) nd) hB) hB3⟩
    · rw [if_neg g0] at h; cases h

/-! ### laws_FnExactOrderSorted: function 8, by hand -/
def laws_FnExactOrderSorted.f (k : Nat) (l0 : List (List Int)) : Option Bool := (laws_szIntSS.f k l0 1048576).bind fun t => if t < 0 then some true else (laws_toIntSS.f k l0).bind fun a => (spec_OrderSorted.f k a).bind fun ws => (impl_OrderSorted.f k a).bind fun gs => (laws_eqIntSS.f k gs.1 ws.1).bind fun e1 => (laws_eqIntSS.f k a a).bind fun e2 => (laws_markIntSS.f k a 1).bind fun mx => (laws_markIntSS.f k gs.1 1).bind fun mg => (laws_heldIntSS.f k mg.2 1).bind fun q => if e1 = true ∧ gs.2 = ws.2 ∧ e2 = true ∧ 0 ≤ mx.1 ∧ 0 ≤ q ∧ q = mg.1 then some true else none
theorem laws_FnExactOrderSorted.mono : ∀ a0 k, LeO (laws_FnExactOrderSorted.f k a0) (laws_FnExactOrderSorted.f (k + 1) a0) := by
  intro a0 k
  unfold laws_FnExactOrderSorted.f
  exact LeO.bind (laws_szIntSS.mono _ _ _) (fun t => LeO.ite (LeO.refl _) (LeO.bind (laws_toIntSS.mono _ _) (fun a => LeO.bind (spec_OrderSorted.mono _ _) (fun ws => LeO.bind (impl_OrderSorted.mono _ _) (fun gs => LeO.bind (laws_eqIntSS.mono _ _ _) (fun e1 => LeO.bind (laws_eqIntSS.mono _ _ _) (fun e2 => LeO.bind (laws_markIntSS.mono _ _ _) (fun mx => LeO.bind (laws_markIntSS.mono _ _ _) (fun mg => LeO.bind (laws_heldIntSS.mono _ _ _) (fun q => LeO.refl _))))))))))
open Go.Proofs.Ytkphiccdgclldaa.HRaw Go.Proofs.Ytkphiccdgclldaa.HSrt Go.Proofs.Ytkphiccdgclldaa.HMrk in
set_option maxHeartbeats 16000000 in
set_option maxRecDepth 100000 in
theorem laws_FnExactOrderSorted.calls (k : Nat) (A0 : Option Addr) (c0 : Nat) (l0 : List (List Int)) (r : Bool) (w : World) (hr0 : Kd.C (Kd.slice 3 (Kd.int .i64)) w A0 l0.length l0) (hc0 : l0.length ≤ c0) (h : laws_FnExactOrderSorted.f k l0 = some r) :
    Calls Try.prog 8 #[.slice A0 l0.length c0] w fun e w' => e = .returned (.bool r) ∧ Below w.heap.size w w' := by
  unfold laws_FnExactOrderSorted.f at h
  obtain ⟨t, h1, h⟩ := Option.bind_eq_some_iff.mp h
  have c14 := laws_szIntSS.calls k A0 c0 l0 1048576 t w hr0 hc0 h1
  by_cases ht : t < 0
  · rw [if_pos ht] at h
    obtain rfl := Option.some.inj h
    have q0 : (t < 0) = True := eq_true ht
    clear h h1
    go_enter Try.func8, Try.ntmps8
    go_wp2_with (first | (go_at_call 14; refine c14.mono ?_; rintro e w' ⟨rfl, ⟨nd, rfl⟩⟩; clear c14))
    go_ret
    exact ⟨rfl, pw_below_drewN (Below.refl _ _) _⟩
  · rw [if_neg ht] at h
    obtain ⟨a, h2, h⟩ := Option.bind_eq_some_iff.mp h
    obtain ⟨⟨ws1, ws2⟩, h3, h⟩ := Option.bind_eq_some_iff.mp h
    obtain ⟨⟨gs1, gs2⟩, h4, h⟩ := Option.bind_eq_some_iff.mp h
    obtain ⟨e1, h5, h⟩ := Option.bind_eq_some_iff.mp h
    obtain ⟨e2, h6, h⟩ := Option.bind_eq_some_iff.mp h
    obtain ⟨⟨mx1, mx2⟩, h7, h⟩ := Option.bind_eq_some_iff.mp h
    obtain ⟨⟨mg1, mg2⟩, h8, h⟩ := Option.bind_eq_some_iff.mp h
    obtain ⟨q, h9, h⟩ := Option.bind_eq_some_iff.mp h
    by_cases hc : e1 = true ∧ gs2 = ws2 ∧ e2 = true ∧ 0 ≤ mx1 ∧ 0 ≤ q ∧ q = mg1
    · rw [if_pos hc] at h
      obtain rfl := Option.some.inj h
      obtain ⟨rfl, rfl, rfl, hm0, hq0, rfl⟩ := hc
      have q0 : (t < 0) = False := eq_false ht
      have q1 : (mx1 < 0) = False := eq_false (by omega)
      have q2 : (q < 0) = False := eq_false (by omega)
      have HR0 : Aside0 (∀ W : World, Below w.heap.size w W → Kd.C (Kd.slice 3 (Kd.int .i64)) W A0 l0.length l0) := ⟨fun W hb => Kd.C_below hr0 hb⟩
      have A2 := Aside0.mk h2
      have A3 := Aside0.mk h3
      have A4 := Aside0.mk h4
      have A5 := Aside0.mk h5
      have A6 := Aside0.mk h6
      have A7 := Aside0.mk h7
      have A8 := Aside0.mk h8
      have A9 := Aside0.mk h9
      clear h h1 h2 h3 h4 h5 h6 h7 h8 h9 hr0 ht hm0 hq0
      go_enter Try.func8, Try.ntmps8
      go_wp2_with (first | (go_at_call 14; refine c14.mono ?_; rintro e w' ⟨rfl, ⟨nd, rfl⟩⟩; clear c14))
      have B0 := Aside0.mk (pw_below_drewN (Below.refl w.heap.size w) nd)
      generalize w.drewN nd = wa at B0 ⊢
      refine (laws_toIntSS.calls k A0 c0 l0 a wa (HR0.out _ B0.out) hc0 A2.out).mono ?_
      rintro e w1 ⟨va, rfl, hSa, hB1⟩
      obtain ⟨Aa, ca, rfl, hca, hRa⟩ := S_reads hSa
      have B1 := Aside0.mk (below_step B0.out hB1)
      have cS := spec_OrderSorted.calls k Aa ca a ws1 gs2 w1 (hRa w1 (fun _ _ _ _ => rfl)) hca A3.out
      clear hSa hB1 hRa hca B0
      go_wp2_with fail
      refine cS.mono ?_
      rintro e w2 ⟨vw, rfl, hNw, hB2⟩
      clear cS
      obtain ⟨Aw, cw, rfl, hcw, hRw0⟩ := N_reads hNw
      have hRw : ∀ W : World, (∀ k, w1.heap.size ≤ k → k < w2.heap.size → W.heap[k]? = w2.heap[k]?) → Kd.C (Kd.slice 3 (Kd.int .i64)) W Aw ws1.length ws1 := fun W hW => hRw0 W (fun k h1 h2 => hW k h1 h2)
      clear hRw0
      have B2 := Aside0.mk (below_step B1.out hB2)
      have S12 := hB2.size
      clear hNw hB2 B1
      have HRw := Aside0.mk hRw
      clear hRw
      go_wp2_with fail
      refine (laws_toIntSS.calls k A0 c0 l0 a w2 (HR0.out _ B2.out) hc0 A2.out).mono ?_
      rintro e w3 ⟨vx, rfl, hSx, hB3⟩
      obtain ⟨Ax, cx, rfl, hcx, hRx⟩ := S_reads hSx
      have B3 := Aside0.mk (below_step B2.out hB3)
      have HB3 := Aside0.mk hB3
      have HSx := Aside0.mk hSx
      have HRx := Aside0.mk hRx
      have S23 := hB3.size
      clear hB3 hSx hRx
      have cI := impl_OrderSorted.calls k Ax cx a gs1 gs2 w3 (HRx.out w3 (fun _ _ _ _ => rfl)) hcx A4.out
      go_wp2_with fail
      refine cI.mono ?_
      rintro e w4 ⟨vg, rfl, hSg, hB4⟩
      clear cI
      obtain ⟨Ag, cg, rfl, hcg, hRg⟩ := S_reads hSg
      have B4 := Aside0.mk (below_step B3.out hB4)
      have HB4 := Aside0.mk hB4
      have HSg := Aside0.mk hSg
      have HRg := Aside0.mk hRg
      have S34 := hB4.size
      clear hB4 hSg hRg
      have cE1 : ∀ W : World, (∀ k, w1.heap.size ≤ k → k < w2.heap.size → W.heap[k]? = w2.heap[k]?) → (∀ k, w3.heap.size ≤ k → k < w4.heap.size → W.heap[k]? = w4.heap[k]?) → Calls Try.prog 18 #[.slice Ag gs1.length cg, .slice Aw ws1.length cw] W (fun e w' => e = .returned (.bool true) ∧ Drawn0 W w') := fun W hw hg => laws_eqIntSS.calls k Ag cg gs1 Aw cw ws1 true W (HRg.out W (fun k _ h1 h2 => hg k h1 h2)) hcg (HRw.out W hw) hcw A5.out
      go_wp2_with fail
      refine (cE1 w4 (fun k _ h2 => (HB4.out.block k (by omega)).trans (HB3.out.block k h2)) (fun _ _ _ => rfl)).mono ?_
      rintro e wb ⟨rfl, ⟨nb, rfl⟩⟩
      have hbn : (gs2 != gs2) = false := by simp
      go_wp2_with fail
      refine (laws_toIntSS.calls k A0 c0 l0 a _ (HR0.out _ (pw_below_drewN B4.out nb)) hc0 A2.out).mono ?_
      rintro e w5 ⟨vy, rfl, hSy, hB5⟩
      obtain ⟨Ay, cy, rfl, hcy, hRy⟩ := S_reads hSy
      have K5 : Aside0 (∀ k, k < w4.heap.size → w5.heap[k]? = w4.heap[k]?) := ⟨fun k h => hB5.block k h⟩
      have S45 : w4.heap.size ≤ w5.heap.size := hB5.size
      have B5 := Aside0.mk (below_step (pw_below_drewN B4.out nb) hB5)
      have cE2 := laws_eqIntSS.calls k Ax cx a Ay cy a true w5 (HRx.out w5 (fun k _ h1 h2 => (K5.out k (by omega)).trans (HB4.out.block k h2))) hcx (hRy w5 (fun _ _ _ _ => rfl)) hcy A6.out
      clear hSy hRy hB5
      go_wp2_with fail
      refine cE2.mono ?_
      rintro e wc ⟨rfl, ⟨nc, rfl⟩⟩
      clear cE2
      go_wp2_with fail
      have hSx5 : Kd.S (Kd.slice 3 (Kd.int .i64)) 34 (w5.drewN nc) w.heap.size (fun k => w2.heap.size ≤ k ∧ k < w3.heap.size) (.slice Ax a.length cx) a := Kd.S_lower (Kd.S_move (Kd.S_mono (Kd.S_bound HSx.out) (fun k hk => ⟨hk.2.1, hk.2.2.1⟩)) (fun k hk => (K5.out k (by have := hk.2; omega)).trans (HB4.out.block k hk.2))) B2.out.size
      refine (laws_markIntSS.calls k _ _ a 1 mx1 mx2 w (w5.drewN nc) (pw_below_drewN B5.out nc) hSx5 A7.out).mono ?_
      rintro e w6 ⟨rfl, _, hB6, hK6⟩
      clear hSx5
      have K6 : Aside0 (∀ k, k < w5.heap.size → ¬ (w2.heap.size ≤ k ∧ k < w3.heap.size) → w6.heap[k]? = w5.heap[k]?) := ⟨fun k h1 h2 => hK6.2 k h1 h2⟩
      have S56 : w5.heap.size ≤ w6.heap.size := hK6.1
      have HB6 := Aside0.mk hB6
      clear hB6 hK6
      go_wp2_with fail
      refine (cE1 w6 (fun k h1 h2 => (K6.out k (by omega) (by omega)).trans ((K5.out k (by omega)).trans ((HB4.out.block k (by omega)).trans (HB3.out.block k h2)))) (fun k h1 h2 => (K6.out k (by omega) (by omega)).trans (K5.out k h2))).mono ?_
      rintro e wd ⟨rfl, ⟨nd2, rfl⟩⟩
      go_wp2_with fail
      have hSg6 : Kd.S (Kd.slice 3 (Kd.int .i64)) 34 (w6.drewN nd2) w.heap.size (fun k => w3.heap.size ≤ k ∧ k < w4.heap.size) (.slice Ag gs1.length cg) gs1 := Kd.S_lower (Kd.S_move (Kd.S_mono (Kd.S_bound HSg.out) (fun k hk => ⟨hk.2.1, hk.2.2.1⟩)) (fun k hk => (K6.out k (by have := hk.2; omega) (by have := hk.1; omega)).trans (K5.out k hk.2))) B3.out.size
      refine (laws_markIntSS.calls k _ _ gs1 1 q mg2 w (w6.drewN nd2) (pw_below_drewN HB6.out nd2) hSg6 A8.out).mono ?_
      rintro e w7 ⟨rfl, hS7, hB7, hK7⟩
      clear hSg6
      obtain ⟨A', c', e', hc', hR7⟩ := S_reads hS7
      injection e' with ea en ec
      subst ea
      subst ec
      have En := Aside0.mk en
      have Hc := Aside0.mk hc'
      clear en hc'
      have K7 : Aside0 (∀ k, k < w6.heap.size → ¬ (w3.heap.size ≤ k ∧ k < w4.heap.size) → w7.heap[k]? = w6.heap[k]?) := ⟨fun k h1 h2 => hK7.2 k h1 h2⟩
      have S67 : w6.heap.size ≤ w7.heap.size := hK7.1
      have HB7 := Aside0.mk hB7
      have cH : ∀ W : World, (∀ k, k < w7.heap.size → W.heap[k]? = w7.heap[k]?) → Calls Try.prog 26 #[.slice Ag gs1.length cg, .int .i64 1] W (fun e w' => e = .returned (.int .i64 q) ∧ Drawn0 W w') := fun W hW => by
        have c := laws_heldIntSS.calls k Ag cg mg2 1 q W (hR7 W (fun k _ _ h => hW k h)) Hc.out A9.out
        rw [← En.out] at c
        exact c
      clear hS7 hR7 hB7 hK7
      go_wp2_with fail
      refine (cH w7 (fun _ _ => rfl)).mono ?_
      rintro e we ⟨rfl, ⟨ne, rfl⟩⟩
      go_wp2_with fail
      refine (laws_toIntSS.calls k A0 c0 l0 a _ (HR0.out _ (pw_below_drewN HB7.out ne)) hc0 A2.out).mono ?_
      rintro e w8 ⟨vz, rfl, hSz, hB8⟩
      obtain ⟨Az, cz, rfl, hcz, hRz⟩ := S_reads hSz
      have K8 : Aside0 (∀ k, k < w7.heap.size → w8.heap[k]? = w7.heap[k]?) := ⟨fun k h => hB8.block k h⟩
      have S78 : w7.heap.size ≤ w8.heap.size := hB8.size
      have B8 := Aside0.mk (below_step (pw_below_drewN HB7.out ne) hB8)
      have cI2 := impl_OrderSorted.calls k Az cz a gs1 gs2 w8 (hRz w8 (fun _ _ _ _ => rfl)) hcz A4.out
      clear hSz hRz hB8
      go_wp2_with fail
      refine cI2.mono ?_
      rintro e w9 ⟨vh, rfl, hSh, hB9⟩
      clear cI2
      obtain ⟨Ah, ch, rfl, hch, hRh⟩ := S_reads hSh
      have K9 : Aside0 (∀ k, k < w8.heap.size → w9.heap[k]? = w8.heap[k]?) := ⟨fun k h => hB9.block k h⟩
      have B9 := Aside0.mk (below_step B8.out hB9)
      have cE3 := laws_eqIntSS.calls k Ah ch gs1 Aw cw ws1 true w9 (hRh w9 (fun _ _ _ _ => rfl)) hch (HRw.out w9 (fun k h1 h2 => (K9.out k (by omega)).trans ((K8.out k (by omega)).trans ((K7.out k (by omega) (by omega)).trans ((K6.out k (by omega) (by omega)).trans ((K5.out k (by omega)).trans ((HB4.out.block k (by omega)).trans (HB3.out.block k h2)))))))) hcw A5.out
      clear hSh hRh hB9
      go_wp2_with fail
      refine cE3.mono ?_
      rintro e wf ⟨rfl, ⟨nf, rfl⟩⟩
      clear cE3
      go_wp2_with fail
      refine (cH (w9.drewN nf) (fun k h => (K9.out k (by omega)).trans (K8.out k h))).mono ?_
      rintro e wg ⟨rfl, ⟨ng, rfl⟩⟩
      go_wp2
      go_ret
      exact ⟨rfl, by first | exact pw_below_drewN (pw_below_drewN B9.out nf) ng | exact pw_below_drewN B9.out (nf + ng)⟩
    · rw [if_neg hc] at h; cases h

end Go.Proofs.Ytkphiccdgclldaa.PFnExactOrderSorted
