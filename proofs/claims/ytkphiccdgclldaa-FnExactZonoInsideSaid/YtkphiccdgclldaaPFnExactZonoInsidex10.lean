-- Made by hprint.py (wip/) out of the translation; not trusted: Lean checks it.
import Derived.Test.YtkphiccdgclldaaPFnExactZonoInsidex0
import Derived.Test.YtkphiccdgclldaaPFnExactZonoInsidex7
import Derived.Test.YtkphiccdgclldaaPFnExactZonoInsidex8
namespace Go.Proofs.Ytkphiccdgclldaa.PFnExactZonoInside
open Go.RowKit Go.Proofs.YtkphiccdgclldaaW.PrintWords Go.Proofs.YtkphiccdgclldaaW.PrintLast Go.Proofs.YtkphiccdgclldaaW.PrintMore
attribute [local go_sem] max2_int min2_int max_two min_two max_three min_three max_four min_four   -- for this text's walks alone
set_option linter.unusedVariables false
set_option linter.unusedSimpArgs false

/-! ### impl_isStar: function 52 -/
def impl_isStar.l0 : Nat → List (List Int) → List (List Int) → Int → Int → Option (Bool)
 | 0, _, _, _, _ => none
 | k + 1, x0, x5, x6, x7 => if x7 < x6 then (if 0 ≤ x7 then (if x7 < (x5.length : Int) then ((impl_isStep.f (rd_L1 x5 x7)).bind fun t355 => (if t355 = true then (impl_isStar.l0 k x0 x5 x6 (wrap64 (x7 + 1))) else (some false))) else (none)) else (none)) else (if (x0.length : Int) ≥ 2 then (some (decide ((x0.length : Int) ≤ 4))) else (some false))
def impl_isStar.f (k : Nat) (l0 : List (List Int)) : Option (Bool) := impl_isStar.l0 k l0 l0 (l0.length : Int) 0
theorem impl_isStar.mono_l : ∀ k, (∀ y0 y1 y2 y3, LeO (impl_isStar.l0 k y0 y1 y2 y3) (impl_isStar.l0 (k + 1) y0 y1 y2 y3))
 | 0 => fun _ _ _ _ r h => by simp [impl_isStar.l0] at h
 | k + 1 => by
  have ih0 := impl_isStar.mono_l k
  ·intro y0 y1 y2 y3
   unfold impl_isStar.l0
   repeat' first
   | (with_reducible exact ih0 _ _ _ _)
   | (with_reducible exact LeO.refl _)
   | (with_reducible exact LeO.none _)
   | (with_reducible refine LeO.ite ?_ ?_)
   | (with_reducible refine LeO.bind ?_ (fun _ => ?_))
   | exact ih0 _ _ _ _
   | exact LeO.none _
   | refine LeO.ite ?_ ?_
   | refine LeO.bind ?_ (fun _ => ?_)
theorem impl_isStar.mono : ∀ a0 k, LeO (impl_isStar.f k a0) (impl_isStar.f (k + 1) a0) := by
 intro a0 k
 have ih0 := impl_isStar.mono_l k
 unfold impl_isStar.f
 repeat' first
  | (with_reducible exact ih0 _ _ _ _)
  | (with_reducible exact LeO.refl _)
  | (with_reducible exact LeO.none _)
  | (with_reducible refine LeO.ite ?_ ?_)
  | (with_reducible refine LeO.bind ?_ (fun _ => ?_))
  | exact ih0 _ _ _ _
  | exact LeO.none _
  | refine LeO.ite ?_ ?_
  | refine LeO.bind ?_ (fun _ => ?_)
set_option maxHeartbeats 8000000 in
set_option maxRecDepth 100000 in
theorem impl_isStar.calls (k : Nat) (A0 : Option Addr) (c0 : Nat) (l0 : List (List Int)) (r : Bool) (w : World) (hr0 : Kd.C (Kd.slice 3 (Kd.int .i64)) w A0 l0.length l0) (hc0 : l0.length ≤ c0) (h : impl_isStar.f k l0 = some r) :
 Calls Try.prog 52 #[.slice A0 l0.length c0] w fun e w' => e = .returned (.bool r) ∧ Drawn0 w w' := by
 have HR0 := Aside0.mk hr0
 have HC0 := Aside0.mk hc0
 clear hr0 hc0
 have H : (impl_isStar.l0 k l0 l0 (l0.length : Int) 0) = some r := h
 clear h
 have H' := Aside0.mk H
 clear H
 go_enter Try.func52, Try.ntmps52
 go_wp2
 go_loopg [7] k (fun kq v7 w' => ∃ (x7_1 : Int), v7 = .int .i64 x7_1 ∧ Aside0 (impl_isStar.l0 kq l0 l0 (l0.length : Int) x7_1 = some r) ∧ Aside0 (kq ≤ k) ∧ Drawn0 w w')
 case atStart => exact ⟨(0), (by first | rfl | (simp; done) | (simp [*]; done)), H', ⟨Nat.le_refl _⟩, by repeat (first | exact Drawn0.refl _ | apply Drawn0.step)⟩
 case round =>
  clear H'
  obtain ⟨x7_1, rfl, HA, HK1, ⟨m1, rfl⟩⟩ := hrel
  cases gk with
  | zero => exact absurd HA.out (by simp [impl_isStar.l0])
  | succ k1 =>
   have H := HA.out
   clear HA
   simp only [impl_isStar.l0] at H
   by_cases c2 : x7_1 < (l0.length : Int)
   ·rw [if_pos c2] at H
    have c2b0 : decide (x7_1 < (l0.length : Int)) = true := decide_eq_true c2
    clear c2
    by_cases c3 : 0 ≤ x7_1
    ·rw [if_pos c3] at H
     have c3b0 : decide (0 ≤ x7_1) = true := decide_eq_true c3
     clear c3
     by_cases c4 : x7_1 < (l0.length : Int)
     ·rw [if_pos c4] at H
      have c4b0 : decide (x7_1 < (l0.length : Int)) = true := decide_eq_true c4
      clear c4
      replace H := Option.bind_eq_some_iff.mp H
      obtain ⟨t355, A50, H⟩ := H
      replace H : (if t355 = true then (impl_isStar.l0 k1 l0 l0 (l0.length : Int) (wrap64 (x7_1 + 1))) else (some false)) = some r := H
      have A5 := Aside0.mk A50
      clear A50
      by_cases c6 : t355 = true
      ·subst c6
       have H1 : (impl_isStar.l0 k1 l0 l0 (l0.length : Int) (wrap64 (x7_1 + 1))) = some r := by rw [if_pos rfl] at H; exact H
       clear H
       have H := H1
       clear H1
       have H' := Aside0.mk H
       clear H
       have p354 : 0 ≤ (x7_1 : Int) := of_decide_eq_true (by first | (with_reducible assumption) | assumption)
       have q354 : x7_1 < (l0.length : Int) := of_decide_eq_true (by first | (with_reducible assumption) | assumption)
       obtain ⟨ad354, A354_0, c354_0, e354, hx354_0, hl354_0, hi354_0⟩ := at_L1 HR0.out x7_1 p354 q354
       cases e354
       have HR354_0 := Aside0.mk hi354_0
       have HC354_0 := Aside0.mk hl354_0
       clear hi354_0 hl354_0
       replace p354 := eq_true p354
       replace q354 := eq_true q354
       go_wp2_with (first | ((with_reducible refine gate_callee (f := 83) rfl ?_); refine goesL_ (some 12) rfl rfl Try.func83 (by kernel_rfl) rfl #[.slice A354_0 (rd_L1 l0 x7_1).length c354_0] rfl (by (try simp only [List.map_toArray, List.map_cons, List.map_nil]); first | done | rfl | (simp only [List.length_drop, List.length_take]; rfl)) ?_; (with_reducible refine (impl_isStep.calls _ _ (rd_L1 l0 x7_1) true _ ?side1 ?side2 A5.out).mono ?_); (case side1 => repeat (first | exact HR354_0.out | (with_reducible refine Kd.C_alloc ?_ _) | (with_reducible refine Kd.C_drewN ?_ _) | (with_reducible refine Kd.C_drew ?_))); (case side2 => exact HC354_0.out); rintro e w' ⟨rfl, ⟨nd, rfl⟩⟩; refine ⟨_, rfl, ?_⟩))
       go_roundg k1
       case measure => have := HK1.out; omega
       case rel => exact ⟨(wrap64 (x7_1 + 1)), (by first | rfl | (simp; done) | (simp [*]; done)), H', ⟨by have := HK1.out; omega⟩, by repeat (first | exact Drawn0.refl _ | apply Drawn0.step)⟩
      ·replace c6 := Bool.eq_false_iff.mpr c6
       subst c6
       have H1 : (some false) = some r := by rw [if_neg (show ¬ (false = true) by decide)] at H; exact H
       clear H
       have H := H1
       clear H1
       obtain rfl := Option.some.inj H
       have p354 : 0 ≤ (x7_1 : Int) := of_decide_eq_true (by first | (with_reducible assumption) | assumption)
       have q354 : x7_1 < (l0.length : Int) := of_decide_eq_true (by first | (with_reducible assumption) | assumption)
       obtain ⟨ad354, A354_0, c354_0, e354, hx354_0, hl354_0, hi354_0⟩ := at_L1 HR0.out x7_1 p354 q354
       cases e354
       have HR354_0 := Aside0.mk hi354_0
       have HC354_0 := Aside0.mk hl354_0
       clear hi354_0 hl354_0
       replace p354 := eq_true p354
       replace q354 := eq_true q354
       go_wp2_with (first | ((with_reducible refine gate_callee (f := 83) rfl ?_); refine goesL_ (some 12) rfl rfl Try.func83 (by kernel_rfl) rfl #[.slice A354_0 (rd_L1 l0 x7_1).length c354_0] rfl (by (try simp only [List.map_toArray, List.map_cons, List.map_nil]); first | done | rfl | (simp only [List.length_drop, List.length_take]; rfl)) ?_; (with_reducible refine (impl_isStep.calls _ _ (rd_L1 l0 x7_1) false _ ?side1 ?side2 A5.out).mono ?_); (case side1 => repeat (first | exact HR354_0.out | (with_reducible refine Kd.C_alloc ?_ _) | (with_reducible refine Kd.C_drewN ?_ _) | (with_reducible refine Kd.C_drew ?_))); (case side2 => exact HC354_0.out); rintro e w' ⟨rfl, ⟨nd, rfl⟩⟩; refine ⟨_, rfl, ?_⟩))
       go_ret
       exact ⟨by first | rfl | (simp; done) | (simp [*]; done), by repeat (first | exact Drawn0.refl _ | apply Drawn0.step)⟩
     ·rw [if_neg c4] at H
      exact absurd H (by simp)
    ·rw [if_neg c3] at H
     exact absurd H (by simp)
   ·rw [if_neg c2] at H
    have c2b0 : decide (x7_1 < (l0.length : Int)) = false := decide_eq_false c2
    clear c2
    by_cases c7 : (l0.length : Int) ≥ 2
    ·rw [if_pos c7] at H
     have c7b0 : decide (2 ≤ (l0.length : Int)) = true := decide_eq_true c7
     have c7b1 : decide (2 ≤ l0.length) = true := decide_eq_true (by omega)
     clear c7
     obtain rfl := Option.some.inj H
     go_wp2
     go_ret
     exact ⟨by first | rfl | (simp; done) | (simp [*]; done), by repeat (first | exact Drawn0.refl _ | apply Drawn0.step)⟩
    ·rw [if_neg c7] at H
     have c7b0 : decide (2 ≤ (l0.length : Int)) = false := decide_eq_false c7
     have c7b1 : decide (2 ≤ l0.length) = false := decide_eq_false (by omega)
     clear c7
     obtain rfl := Option.some.inj H
     go_wp2
     go_ret
     exact ⟨by first | rfl | (simp; done) | (simp [*]; done), by repeat (first | exact Drawn0.refl _ | apply Drawn0.step)⟩

/-! ### impl_ZonoPieces: function 31 -/
mutual
def impl_ZonoPieces.l0 : Nat → List (List Int) → Int → List (List Int) → Int → Int → Option (Int × Bool)
 | 0, _, _, _, _, _ => none
 | k + 1, x0, x4, x12, x13, x14 => if x14 < x13 then (if 0 ≤ x14 then (if x14 < (x12.length : Int) then (if x14 ≤ (x0.length : Int) then ((some (x0.take (x14 : Int).toNat : List (List Int))).bind fun y358 => (impl_ZonoPieces.l1 k x0 x4 (rd_L1 x12 x14) x12 x13 x14 y358 (y358.length : Int) 0)) else (none)) else (none)) else (none)) else (some (x4, true))
def impl_ZonoPieces.l1 : Nat → List (List Int) → Int → List Int → List (List Int) → Int → Int → List (List Int) → Int → Int → Option (Int × Bool)
 | 0, _, _, _, _, _, _, _, _, _ => none
 | k + 1, x0, x4, x6, x12, x13, x14, x21, x22, x23 => if x23 < x22 then (if 0 ≤ x23 then (if x23 < (x21.length : Int) then ((impl_cross.f x6 (rd_L1 x21 x23)).bind fun t363 => (if t363 = 0 then (impl_ZonoPieces.l1 k x0 x4 x6 x12 x13 x14 x21 x22 (wrap64 (x23 + 1))) else (impl_ZonoPieces.l1 k x0 (wrap64 (x4 + 1)) x6 x12 x13 x14 x21 x22 (wrap64 (x23 + 1))))) else (none)) else (none)) else (impl_ZonoPieces.l0 k x0 x4 x12 x13 (wrap64 (x14 + 1)))
end
def impl_ZonoPieces.f (k : Nat) (l0 : List (List Int)) : Option (Int × Bool) := (impl_isStar.f k l0).bind fun t356 => (if t356 = true then (impl_ZonoPieces.l0 k l0 0 l0 (l0.length : Int) 0) else (some (0, false)))
theorem impl_ZonoPieces.mono_l : ∀ k, (∀ y0 y1 y2 y3 y4, LeO (impl_ZonoPieces.l0 k y0 y1 y2 y3 y4) (impl_ZonoPieces.l0 (k + 1) y0 y1 y2 y3 y4)) ∧ (∀ y0 y1 y2 y3 y4 y5 y6 y7 y8, LeO (impl_ZonoPieces.l1 k y0 y1 y2 y3 y4 y5 y6 y7 y8) (impl_ZonoPieces.l1 (k + 1) y0 y1 y2 y3 y4 y5 y6 y7 y8))
 | 0 => ⟨fun _ _ _ _ _ r h => by simp [impl_ZonoPieces.l0] at h, fun _ _ _ _ _ _ _ _ _ r h => by simp [impl_ZonoPieces.l1] at h⟩
 | k + 1 => by
  obtain ⟨ih0, ih1⟩ := impl_ZonoPieces.mono_l k
  refine ⟨?_, ?_⟩
  ·intro y0 y1 y2 y3 y4
   unfold impl_ZonoPieces.l0
   repeat' first
   | (with_reducible exact ih0 _ _ _ _ _)
   | (with_reducible exact ih1 _ _ _ _ _ _ _ _ _)
   | (with_reducible exact impl_isStar.mono _ _)
   | (with_reducible exact LeO.refl _)
   | (with_reducible exact LeO.none _)
   | (with_reducible refine LeO.ite ?_ ?_)
   | (with_reducible refine LeO.bind ?_ (fun _ => ?_))
   | exact ih0 _ _ _ _ _
   | exact ih1 _ _ _ _ _ _ _ _ _
   | exact impl_isStar.mono _ _
   | exact LeO.none _
   | refine LeO.ite ?_ ?_
   | refine LeO.bind ?_ (fun _ => ?_)
  ·intro y0 y1 y2 y3 y4 y5 y6 y7 y8
   unfold impl_ZonoPieces.l1
   repeat' first
   | (with_reducible exact ih0 _ _ _ _ _)
   | (with_reducible exact ih1 _ _ _ _ _ _ _ _ _)
   | (with_reducible exact impl_isStar.mono _ _)
   | (with_reducible exact LeO.refl _)
   | (with_reducible exact LeO.none _)
   | (with_reducible refine LeO.ite ?_ ?_)
   | (with_reducible refine LeO.bind ?_ (fun _ => ?_))
   | exact ih0 _ _ _ _ _
   | exact ih1 _ _ _ _ _ _ _ _ _
   | exact impl_isStar.mono _ _
   | exact LeO.none _
   | refine LeO.ite ?_ ?_
   | refine LeO.bind ?_ (fun _ => ?_)
theorem impl_ZonoPieces.mono : ∀ a0 k, LeO (impl_ZonoPieces.f k a0) (impl_ZonoPieces.f (k + 1) a0) := by
 intro a0 k
 obtain ⟨ih0, ih1⟩ := impl_ZonoPieces.mono_l k
 unfold impl_ZonoPieces.f
 repeat' first
  | (with_reducible exact ih0 _ _ _ _ _)
  | (with_reducible exact ih1 _ _ _ _ _ _ _ _ _)
  | (with_reducible exact impl_isStar.mono _ _)
  | (with_reducible exact LeO.refl _)
  | (with_reducible exact LeO.none _)
  | (with_reducible refine LeO.ite ?_ ?_)
  | (with_reducible refine LeO.bind ?_ (fun _ => ?_))
  | exact ih0 _ _ _ _ _
  | exact ih1 _ _ _ _ _ _ _ _ _
  | exact impl_isStar.mono _ _
  | exact LeO.none _
  | refine LeO.ite ?_ ?_
  | refine LeO.bind ?_ (fun _ => ?_)
set_option maxHeartbeats 8000000 in
set_option maxRecDepth 100000 in
theorem impl_ZonoPieces.calls (k : Nat) (A0 : Option Addr) (c0 : Nat) (l0 : List (List Int)) (r1 : Int) (r2 : Bool) (w : World) (hr0 : Kd.C (Kd.slice 3 (Kd.int .i64)) w A0 l0.length l0) (hc0 : l0.length ≤ c0) (h : impl_ZonoPieces.f k l0 = some (r1, r2)) :
 Calls Try.prog 31 #[.slice A0 l0.length c0] w fun e w' => e = .returned (.tuple #[.int .i64 r1, .bool r2]) ∧ Drawn0 w w' := by
 have HR0 := Aside0.mk hr0
 have HC0 := Aside0.mk hc0
 clear hr0 hc0
 have H : ((impl_isStar.f k l0).bind fun t356 => (if t356 = true then (impl_ZonoPieces.l0 k l0 0 l0 (l0.length : Int) 0) else (some (0, false)))) = some (r1, r2) := h
 clear h
 replace H := Option.bind_eq_some_iff.mp H
 obtain ⟨t356, A20, H⟩ := H
 replace H : (if t356 = true then (impl_ZonoPieces.l0 k l0 0 l0 (l0.length : Int) 0) else (some (0, false))) = some (r1, r2) := H
 have A2 := Aside0.mk A20
 clear A20
 by_cases c3 : t356 = true
 ·subst c3
  have H1 : (impl_ZonoPieces.l0 k l0 0 l0 (l0.length : Int) 0) = some (r1, r2) := by rw [if_pos rfl] at H; exact H
  clear H
  have H := H1
  clear H1
  have H' := Aside0.mk H
  clear H
  go_enter Try.func31, Try.ntmps31
  go_wp2_with (first | ((with_reducible refine gate_callee (f := 52) rfl ?_); refine goesL_ (some 10) rfl rfl Try.func52 (by kernel_rfl) rfl #[.slice A0 l0.length c0] rfl (by (try simp only [List.map_toArray, List.map_cons, List.map_nil]); first | done | rfl | (simp only [List.length_drop, List.length_take]; rfl)) ?_; (with_reducible refine (impl_isStar.calls k _ _ l0 true _ ?side1 ?side2 A2.out).mono ?_); (case side1 => repeat (first | exact HR0.out | (with_reducible refine Kd.C_alloc ?_ _) | (with_reducible refine Kd.C_drewN ?_ _) | (with_reducible refine Kd.C_drew ?_))); (case side2 => exact HC0.out); rintro e w' ⟨rfl, ⟨nd, rfl⟩⟩; refine ⟨_, rfl, ?_⟩))
  go_loopg [4, 14] k (fun kq v4 v14 w' => ∃ (x4_1 : Int) (x14_1 : Int), v4 = .int .i64 x4_1 ∧ v14 = .int .i64 x14_1 ∧ Aside0 (impl_ZonoPieces.l0 kq l0 x4_1 l0 (l0.length : Int) x14_1 = some (r1, r2)) ∧ Aside0 (kq ≤ k) ∧ Drawn0 w w')
  case atStart => exact ⟨(0), (0), (by first | rfl | (simp; done) | (simp [*]; done)), (by first | rfl | (simp; done) | (simp [*]; done)), H', ⟨Nat.le_refl _⟩, by repeat (first | exact Drawn0.refl _ | apply Drawn0.step)⟩
  case round =>
   clear H'
   try clear p2
   try clear c3
   obtain ⟨x4_1, x14_1, rfl, rfl, HA, HK1, ⟨m1, rfl⟩⟩ := hrel
   cases gk with
   | zero => exact absurd HA.out (by simp [impl_ZonoPieces.l0])
   | succ k1 =>
    have H := HA.out
    clear HA
    simp only [impl_ZonoPieces.l0] at H
    by_cases c4 : x14_1 < (l0.length : Int)
    ·rw [if_pos c4] at H
     have c4b0 : decide (x14_1 < (l0.length : Int)) = true := decide_eq_true c4
     clear c4
     by_cases c5 : 0 ≤ x14_1
     ·rw [if_pos c5] at H
      have c5b0 : decide (0 ≤ x14_1) = true := decide_eq_true c5
      clear c5
      by_cases c6 : x14_1 < (l0.length : Int)
      ·rw [if_pos c6] at H
       have c6b0 : decide (x14_1 < (l0.length : Int)) = true := decide_eq_true c6
       clear c6
       have c7b0 := eq_true (of_decide_eq_true (by first | (with_reducible assumption) | assumption) : 0 ≤ x14_1)
       by_cases c8 : x14_1 ≤ (l0.length : Int)
       ·rw [if_pos c8] at H
        have c8b0 := eq_true c8
        have c8b1 : decide (x14_1 ≤ (l0.length : Int)) = true := decide_eq_true c8
        clear c8
        obtain ⟨y358, hy358⟩ : ∃ y_ : List (List Int), y_ = (l0.take (x14_1 : Int).toNat) := ⟨_, rfl⟩
        replace H : (impl_ZonoPieces.l1 k1 l0 x4_1 (rd_L1 l0 x14_1) l0 (l0.length : Int) x14_1 y358 (y358.length : Int) 0) = some (r1, r2) := by first | (rw [hy358]; with_reducible exact H) | (have H2_ := (Option.bind_some _ _).symm.trans H; rw [hy358]; with_reducible exact H2_) | (have H2_ := (Option.bind_some _ _).symm.trans H; with_reducible exact H2_) | with_reducible exact H | (rw [hy358]; exact H) | exact H
        have Ny358 := Aside0.mk hy358
        clear hy358
        have H' := Aside0.mk H
        clear H
        have p357 : 0 ≤ (x14_1 : Int) := of_decide_eq_true (by first | (with_reducible assumption) | assumption)
        have q357 : x14_1 < (l0.length : Int) := of_decide_eq_true (by first | (with_reducible assumption) | assumption)
        obtain ⟨ad357, A357_0, c357_0, e357, hx357_0, hl357_0, hi357_0⟩ := at_L1 HR0.out x14_1 p357 q357
        cases e357
        have HR357_0 := Aside0.mk hi357_0
        have HC357_0 := Aside0.mk hl357_0
        clear hi357_0 hl357_0
        replace p357 := eq_true p357
        replace q357 := eq_true q357
        have q9 : (x14_1 : Int) ≤ ((l0.length : Int) : Int) := of_decide_eq_true (by first | (with_reducible assumption) | assumption)
        obtain ⟨i09, hi09, _, hsz9, _⟩ := info_parts info34
        have hroom9 : l0.length ≤ c0 := HC0.out
        have hC9 : Kd.C (Kd.slice 3 (Kd.int .i64)) _ (some ad357) l0.length l0 := HR0.out
        have hcut9 := cut_to (P := Try.prog) 22 34 .i64 Try.underlying22 hi09 (some ad357) l0.length c0 x14_1 (of_decide_eq_true (by first | (with_reducible assumption) | assumption)) q9 hroom9
        have hr9 := Kd.C_take (m := (x14_1 : Int).toNat) hC9 (by omega)
        have hy9 : y358.length = (x14_1 : Int).toNat := (by rw [Ny358.out, List.length_take]; omega)
        rw [← Ny358.out] at hr9
        rw [← hy9] at hcut9
        have HR361 := Aside0.mk hr9
        have HC361 := Aside0.mk (show y358.length ≤ c0 from by omega)
        clear hr9 hC9 hroom9 hi09 hsz9
        have KY9 := Aside0.mk hy9
        clear hy9
        replace q9 := eq_true q9
        go_wp2
        go_loopg [4, 23] k1 (fun kq v4 v23 w' => ∃ (x4_2 : Int) (x23_2 : Int), v4 = .int .i64 x4_2 ∧ v23 = .int .i64 x23_2 ∧ Aside0 (impl_ZonoPieces.l1 kq l0 x4_2 (rd_L1 l0 x14_1) l0 (l0.length : Int) x14_1 y358 (y358.length : Int) x23_2 = some (r1, r2)) ∧ Aside0 (kq ≤ k1) ∧ Drawn0 w w')
        case atStart => exact ⟨(x4_1), (0), (by first | rfl | (simp; done) | (simp [*]; done)), (by first | rfl | (simp; done) | (simp [*]; done)), H', ⟨Nat.le_refl _⟩, by repeat (first | exact Drawn0.refl _ | apply Drawn0.step)⟩
        case round =>
         clear H'
         try clear p2
         try clear c3
         try clear p3
         try clear q3
         try clear hx3
         try clear c4
         try clear c4b0
         try clear c5
         try clear c5b0
         try clear c6
         try clear c6b0
         try clear c7
         try clear c7b0
         try clear c8
         try clear c8b0
         try clear c8b1
         try clear q9
         try clear hx357_0
         try clear p2
         try clear p357
         try clear q357
         try clear q9
         obtain ⟨x4_2, x23_2, rfl, rfl, HA, HK2, ⟨m2, rfl⟩⟩ := hrel
         cases gk with
         | zero => exact absurd HA.out (by simp [impl_ZonoPieces.l1])
         | succ k2 =>
          have H := HA.out
          clear HA
          simp only [impl_ZonoPieces.l1] at H
          by_cases c10 : x23_2 < (y358.length : Int)
          ·rw [if_pos c10] at H
           have c10b0 : decide (x23_2 < (y358.length : Int)) = true := decide_eq_true c10
           clear c10
           by_cases c11 : 0 ≤ x23_2
           ·rw [if_pos c11] at H
            have c11b0 : decide (0 ≤ x23_2) = true := decide_eq_true c11
            clear c11
            by_cases c12 : x23_2 < (y358.length : Int)
            ·rw [if_pos c12] at H
             have c12b0 : decide (x23_2 < (y358.length : Int)) = true := decide_eq_true c12
             clear c12
             replace H := Option.bind_eq_some_iff.mp H
             obtain ⟨t363, A130, H⟩ := H
             replace H : (if t363 = 0 then (impl_ZonoPieces.l1 k2 l0 x4_2 (rd_L1 l0 x14_1) l0 (l0.length : Int) x14_1 y358 (y358.length : Int) (wrap64 (x23_2 + 1))) else (impl_ZonoPieces.l1 k2 l0 (wrap64 (x4_2 + 1)) (rd_L1 l0 x14_1) l0 (l0.length : Int) x14_1 y358 (y358.length : Int) (wrap64 (x23_2 + 1)))) = some (r1, r2) := H
             have A13 := Aside0.mk A130
             clear A130
             by_cases c14 : t363 = 0
             ·rw [if_pos c14] at H
              have c14b0 : (t363 == 0) = true := beq_iff_eq.mpr c14
              have c14b1 : (t363 != 0) = false := bne_eq_false_iff_eq.mpr c14
              clear c14
              have H' := Aside0.mk H
              clear H
              have p362 : 0 ≤ (x23_2 : Int) := of_decide_eq_true (by first | (with_reducible assumption) | assumption)
              have q362 : x23_2 < (y358.length : Int) := of_decide_eq_true (by first | (with_reducible assumption) | assumption)
              obtain ⟨ad362, A362_0, c362_0, e362, hx362_0, hl362_0, hi362_0⟩ := at_L1 HR361.out x23_2 p362 q362
              obtain rfl : ad357 = ad362 := (by injection e362)
              have HR362_0 := Aside0.mk hi362_0
              have HC362_0 := Aside0.mk hl362_0
              clear hi362_0 hl362_0
              replace p362 := eq_true p362
              replace q362 := eq_true q362
              go_wp2_with (first | ((with_reducible refine gate_callee (f := 54) rfl ?_); refine goesL_ (some 29) rfl rfl Try.func54 (by kernel_rfl) rfl #[.slice A357_0 (rd_L1 l0 x14_1).length c357_0, .slice A362_0 (rd_L1 y358 x23_2).length c362_0] rfl (by (try simp only [List.map_toArray, List.map_cons, List.map_nil]); first | done | rfl | (simp only [List.length_drop, List.length_take]; rfl)) ?_; (with_reducible refine (impl_cross.calls _ _ (rd_L1 l0 x14_1) _ _ (rd_L1 y358 x23_2) t363 _ ?side1 ?side2 ?side3 ?side4 A13.out).mono ?_); (case side1 => repeat (first | exact HR357_0.out | (with_reducible refine Kd.C_alloc ?_ _) | (with_reducible refine Kd.C_drewN ?_ _) | (with_reducible refine Kd.C_drew ?_))); (case side2 => exact HC357_0.out); (case side3 => repeat (first | exact HR362_0.out | (with_reducible refine Kd.C_alloc ?_ _) | (with_reducible refine Kd.C_drewN ?_ _) | (with_reducible refine Kd.C_drew ?_))); (case side4 => exact HC362_0.out); rintro e w' ⟨rfl, ⟨nd, rfl⟩⟩; refine ⟨_, rfl, ?_⟩))
              go_roundg k2
              case measure => have := HK1.out; have := HK2.out; omega
              case rel => exact ⟨(x4_2), (wrap64 (x23_2 + 1)), (by first | rfl | (simp; done) | (simp [*]; done)), (by first | rfl | (simp; done) | (simp [*]; done)), H', ⟨by have := HK1.out; have := HK2.out; omega⟩, by repeat (first | exact Drawn0.refl _ | apply Drawn0.step)⟩
             ·rw [if_neg c14] at H
              have c14b0 : (t363 == 0) = false := beq_eq_false_iff_ne.mpr c14
              have c14b1 : (t363 != 0) = true := bne_iff_ne.mpr c14
              have H' := Aside0.mk H
              clear H
              have p362 : 0 ≤ (x23_2 : Int) := of_decide_eq_true (by first | (with_reducible assumption) | assumption)
              have q362 : x23_2 < (y358.length : Int) := of_decide_eq_true (by first | (with_reducible assumption) | assumption)
              obtain ⟨ad362, A362_0, c362_0, e362, hx362_0, hl362_0, hi362_0⟩ := at_L1 HR361.out x23_2 p362 q362
              obtain rfl : ad357 = ad362 := (by injection e362)
              have HR362_0 := Aside0.mk hi362_0
              have HC362_0 := Aside0.mk hl362_0
              clear hi362_0 hl362_0
              replace p362 := eq_true p362
              replace q362 := eq_true q362
              go_wp2_with (first | ((with_reducible refine gate_callee (f := 54) rfl ?_); refine goesL_ (some 29) rfl rfl Try.func54 (by kernel_rfl) rfl #[.slice A357_0 (rd_L1 l0 x14_1).length c357_0, .slice A362_0 (rd_L1 y358 x23_2).length c362_0] rfl (by (try simp only [List.map_toArray, List.map_cons, List.map_nil]); first | done | rfl | (simp only [List.length_drop, List.length_take]; rfl)) ?_; (with_reducible refine (impl_cross.calls _ _ (rd_L1 l0 x14_1) _ _ (rd_L1 y358 x23_2) t363 _ ?side1 ?side2 ?side3 ?side4 A13.out).mono ?_); (case side1 => repeat (first | exact HR357_0.out | (with_reducible refine Kd.C_alloc ?_ _) | (with_reducible refine Kd.C_drewN ?_ _) | (with_reducible refine Kd.C_drew ?_))); (case side2 => exact HC357_0.out); (case side3 => repeat (first | exact HR362_0.out | (with_reducible refine Kd.C_alloc ?_ _) | (with_reducible refine Kd.C_drewN ?_ _) | (with_reducible refine Kd.C_drew ?_))); (case side4 => exact HC362_0.out); rintro e w' ⟨rfl, ⟨nd, rfl⟩⟩; refine ⟨_, rfl, ?_⟩))
              go_roundg k2
              case measure => have := HK1.out; have := HK2.out; omega
              case rel => exact ⟨(wrap64 (x4_2 + 1)), (wrap64 (x23_2 + 1)), (by first | rfl | (simp; done) | (simp [*]; done)), (by first | rfl | (simp; done) | (simp [*]; done)), H', ⟨by have := HK1.out; have := HK2.out; omega⟩, by repeat (first | exact Drawn0.refl _ | apply Drawn0.step)⟩
            ·rw [if_neg c12] at H
             exact absurd H (by simp)
           ·rw [if_neg c11] at H
            exact absurd H (by simp)
          ·rw [if_neg c10] at H
           have c10b0 : decide (x23_2 < (y358.length : Int)) = false := decide_eq_false c10
           clear c10
           have H' := Aside0.mk H
           clear H
           go_wp2
           go_roundg k2
           case measure => have := HK1.out; have := HK2.out; omega
           case rel => exact ⟨(x4_2), (wrap64 (x14_1 + 1)), (by first | rfl | (simp; done) | (simp [*]; done)), (by first | rfl | (simp; done) | (simp [*]; done)), H', ⟨by have := HK1.out; have := HK2.out; omega⟩, by repeat (first | exact Drawn0.refl _ | apply Drawn0.step)⟩
       ·rw [if_neg c8] at H
        exact absurd H (by simp)
      ·rw [if_neg c6] at H
       exact absurd H (by simp)
     ·rw [if_neg c5] at H
      exact absurd H (by simp)
    ·rw [if_neg c4] at H
     have c4b0 : decide (x14_1 < (l0.length : Int)) = false := decide_eq_false c4
     clear c4
     simp only [Option.some.injEq, Prod.mk.injEq] at H
     obtain ⟨rfl, rfl⟩ := H
     go_wp2
     go_ret2
     exact ⟨by first | rfl | (simp; done) | (simp [*]; done), by repeat (first | exact Drawn0.refl _ | apply Drawn0.step)⟩
 ·replace c3 := Bool.eq_false_iff.mpr c3
  subst c3
  have H1 : (some (0, false)) = some (r1, r2) := by rw [if_neg (show ¬ (false = true) by decide)] at H; exact H
  clear H
  have H := H1
  clear H1
  simp only [Option.some.injEq, Prod.mk.injEq] at H
  obtain ⟨rfl, rfl⟩ := H
  go_enter Try.func31, Try.ntmps31
  go_wp2_with (first | ((with_reducible refine gate_callee (f := 52) rfl ?_); refine goesL_ (some 10) rfl rfl Try.func52 (by kernel_rfl) rfl #[.slice A0 l0.length c0] rfl (by (try simp only [List.map_toArray, List.map_cons, List.map_nil]); first | done | rfl | (simp only [List.length_drop, List.length_take]; rfl)) ?_; (with_reducible refine (impl_isStar.calls k _ _ l0 false _ ?side1 ?side2 A2.out).mono ?_); (case side1 => repeat (first | exact HR0.out | (with_reducible refine Kd.C_alloc ?_ _) | (with_reducible refine Kd.C_drewN ?_ _) | (with_reducible refine Kd.C_drew ?_))); (case side2 => exact HC0.out); rintro e w' ⟨rfl, ⟨nd, rfl⟩⟩; refine ⟨_, rfl, ?_⟩))
  go_ret2
  exact ⟨by first | rfl | (simp; done) | (simp [*]; done), by repeat (first | exact Drawn0.refl _ | apply Drawn0.step)⟩

/-! ### slices_Clone_int_int_86: function 86 -/
def slices_Clone_int_int_86.f (l0 : List Int) : Option (List Int) := (some (([] : List Int) : List Int)).bind fun y364 => (if y364.length + l0.length < 17592186044416 then (some (y364 ++ l0)) else (none))
set_option maxHeartbeats 8000000 in
set_option maxRecDepth 100000 in
theorem slices_Clone_int_int_86.calls (A0 : Option Addr) (c0 : Nat) (l0 : List Int) (r : List Int) (w : World) (hr0 : Kd.C (Kd.int .i64) w A0 l0.length l0) (hc0 : l0.length ≤ c0) (h : slices_Clone_int_int_86.f l0 = some r) :
 Calls Try.prog 86 #[.slice A0 l0.length c0] w fun e w' => ∃ v0_ : Value, e = .returned (v0_) ∧ Kd.R (Kd.int .i64) 3 w' w.heap.size (fun _ => True) v0_ r ∧ Below w.heap.size w w' := by
 by_cases hn_ : A0 = none
 ·subst hn_
  have hC_ : Kd.C (Kd.int .i64) w none l0.length l0 := hr0
  obtain rfl : l0 = [] := by
   rcases Nat.eq_zero_or_pos l0.length with h0 | h0
   ·exact List.eq_nil_of_length_eq_zero h0
   ·obtain ⟨ad, h, _⟩ := hC_.2.2 h0
    cases h
  obtain rfl : r = [] := by
   have h2_ : slices_Clone_int_int_86.f [] = some [] := by decide
   rw [h2_] at h
   exact (Option.some.inj h).symm
  clear hC_ h hr0 hc0
  have he_ := fun W : World => Lib.run_eql_slice_nil (P := Try.prog) W 34 3 none 0 c0 0 0 Try.underlying34
  go_enter Try.func86, Try.ntmps86
  go_wp2
  go_ret
  exact ⟨_, rfl, Kd.R_nil _ _ _ _ _, Below.refl _ _⟩
 have he_ : ∀ W : World, (binOp .eql 34 (.slice A0 l0.length c0) (.slice none 0 0)).run Try.prog W = .ok (.bool false) W := fun W => by
  rw [Lib.run_eql_slice_nil (P := Try.prog) W 34 3 A0 l0.length c0 0 0 Try.underlying34]
  cases A0 with
  | none => exact absurd rfl hn_
  | some a => rfl
 clear hn_
 have HR0 := Aside0.mk hr0
 have HC0 := Aside0.mk hc0
 clear hr0 hc0
 have HB := Aside0.mk (Below.refl w.heap.size w)
 have H : ((some (([] : List Int) : List Int)).bind fun y364 => (if y364.length + l0.length < 17592186044416 then (some (y364 ++ l0)) else (none))) = some r := h
 clear h
 obtain ⟨y364, hy364⟩ : ∃ y_ : List Int, y_ = (([] : List Int)) := ⟨_, rfl⟩
 replace H : (if y364.length + l0.length < 17592186044416 then (some (y364 ++ l0)) else (none)) = some r := by first | (rw [hy364]; with_reducible exact H) | (have H2_ := (Option.bind_some _ _).symm.trans H; rw [hy364]; with_reducible exact H2_) | (have H2_ := (Option.bind_some _ _).symm.trans H; with_reducible exact H2_) | with_reducible exact H | (rw [hy364]; exact H) | exact H
 have Ny364 := Aside0.mk hy364
 clear hy364
 by_cases c2 : y364.length + l0.length < 17592186044416
 ·rw [if_pos c2] at H
  have LMc2 := Aside0.mk c2
  clear c2
  obtain ⟨y367, hy367⟩ : ∃ y_ : List Int, y_ = (y364 ++ l0) := ⟨_, rfl⟩
  replace H : (some y367) = some r := by first | (rw [hy367]; with_reducible exact H) | (have H2_ := (Option.bind_some _ _).symm.trans H; rw [hy367]; with_reducible exact H2_) | (have H2_ := (Option.bind_some _ _).symm.trans H; with_reducible exact H2_) | with_reducible exact H | (rw [hy367]; exact H) | exact H
  have Ny367 := Aside0.mk hy367
  clear hy367
  obtain rfl := Option.some.inj H
  go_enter Try.func86, Try.ntmps86
  go_wp2_with (first | ((with_reducible refine gate_dst (N := 5) rfl ?_); refine Kd.R_lit (Kd.int .i64) _ 3 ?hg (N := 5) ?hd (xs := ([] : List Int)) (inner := []) (ok := fun _ => True) (okp := fun _ => True) ?hr ?hp (fun _ hk => hk) trivial (Below.refl _ _) (Nat.le_refl _) (by simp) ?_; (case hd => rfl); (case hg => rfl); (case hr => first | (go_simp; done) | (go_simp; rfl)); (case hp => exact (Reps.none _ _)); intro v365 w3 ho4 hb hg_ hnew_; clear hg_ hnew_; (first | rw [← Ny364.out] at ho4 | (simp only [Int.reduceToNat] at ho4; rw [← Ny364.out] at ho4)); have n0_ := Aside0.mk (Kd.R_lower ho4 (below_size (by repeat (first | (with_reducible first | exact HB.out | apply below_alloc | apply pw_below_drewN | apply below_drew1) | exact HB.out)))); have n1_ := Aside0.mk (below_step (by repeat (first | (with_reducible first | exact HB.out | apply below_alloc | apply pw_below_drewN | apply below_drew1) | exact HB.out)) hb); clear HB; have HO366 := n0_; have HB := n1_; clear n0_ n1_; clear hb ho4) | ((with_reducible refine gate_builtin (b := .append) (xs := #[.tmp 5, .tmp 6]) rfl ?_); at_builtin; refine Kd.R_append_rows (Kd.int .i64) (w0 := w) w.heap.size rfl (.tmp 5) (.tmp 6) 34 3 (.int .i64 0) 8 rfl Try.underlying34 info3 rfl (by decide) (by omega) v365 y364 l0 _ _ _ (fun _ => True) (fun _ => False) rfl rfl ?aO ?aR (fun _ _ h => h) (fun _ h => h.elim) ?aF ?aB ?aS ?aL ?_; (case aR => repeat (first | exact (Kd.C_below HR0.out HB.out) | (with_reducible refine Kd.C_alloc ?_ _) | (with_reducible refine Kd.C_drewN ?_ _) | (with_reducible refine Kd.C_drew ?_))); (case aB => exact (by repeat (first | (with_reducible first | exact HB.out | apply below_alloc | apply pw_below_drewN | apply below_drew1) | exact HB.out))); (case aF => exact (fun _ _ => trivial)); (case aO => exact (by (with_reducible repeat (first | apply Kd.R_alloc | apply Kd.R_drewN | apply Kd.R_drew)); exact HO366.out)); (case aS => exact (below_size (by repeat (first | (with_reducible first | exact HB.out | apply below_alloc | apply pw_below_drewN | apply below_drew1) | exact HB.out)))); (case aL => have := LMc2.out; omega); intro v368 w5 ho hb hg hat; rw [← Ny367.out] at ho; have n0_ := Aside0.mk (hb); have n1_ := Aside0.mk (ho); clear HB; clear HO366; have HB := n0_; have HO369 := n1_; clear n0_ n1_; clear ho hb hg hat))
  go_ret
  exact ⟨_, by first | rfl | (simp [errW_none, errW_some] <;> rfl) | (simp [*, errW_none, errW_some] <;> rfl), by (with_reducible repeat (first | apply Kd.R_alloc | apply Kd.R_drewN | apply Kd.R_drew)); exact HO369.out, by repeat (first | (with_reducible first | exact HB.out | apply below_alloc | apply pw_below_drewN | apply below_drew1) | exact HB.out)⟩
 ·rw [if_neg c2] at H
  exact absurd H (by simp)

/-! ### impl_copySteps: function 63 -/
def impl_copySteps.l0 : Nat → List (List Int) → List (List Int) → Int → Int → Option ((List (List Int)))
 | 0, _, _, _, _ => none
 | k + 1, x3, x7, x8, x9 => if x9 < x8 then (if 0 ≤ x9 then (if x9 < (x7.length : Int) then ((slices_Clone_int_int_86.f (rd_L1 x7 x9)).bind fun t374 => (if x3.length < 5864062014805 then (impl_copySteps.l0 k (x3 ++ [t374]) x7 x8 (wrap64 (x9 + 1))) else (none))) else (none)) else (none)) else (some x3)
def impl_copySteps.f (k : Nat) (l0 : List (List Int)) : Option ((List (List Int))) := impl_copySteps.l0 k (([] : List (List Int))) l0 (l0.length : Int) 0
theorem impl_copySteps.mono_l : ∀ k, (∀ y0 y1 y2 y3, LeO (impl_copySteps.l0 k y0 y1 y2 y3) (impl_copySteps.l0 (k + 1) y0 y1 y2 y3))
 | 0 => fun _ _ _ _ r h => by simp [impl_copySteps.l0] at h
 | k + 1 => by
  have ih0 := impl_copySteps.mono_l k
  ·intro y0 y1 y2 y3
   unfold impl_copySteps.l0
   repeat' first
   | (with_reducible exact ih0 _ _ _ _)
   | (with_reducible exact LeO.refl _)
   | (with_reducible exact LeO.none _)
   | (with_reducible refine LeO.ite ?_ ?_)
   | (with_reducible refine LeO.bind ?_ (fun _ => ?_))
   | exact ih0 _ _ _ _
   | exact LeO.none _
   | refine LeO.ite ?_ ?_
   | refine LeO.bind ?_ (fun _ => ?_)
theorem impl_copySteps.mono : ∀ a0 k, LeO (impl_copySteps.f k a0) (impl_copySteps.f (k + 1) a0) := by
 intro a0 k
 have ih0 := impl_copySteps.mono_l k
 unfold impl_copySteps.f
 repeat' first
  | (with_reducible exact ih0 _ _ _ _)
  | (with_reducible exact LeO.refl _)
  | (with_reducible exact LeO.none _)
  | (with_reducible refine LeO.ite ?_ ?_)
  | (with_reducible refine LeO.bind ?_ (fun _ => ?_))
  | exact ih0 _ _ _ _
  | exact LeO.none _
  | refine LeO.ite ?_ ?_
  | refine LeO.bind ?_ (fun _ => ?_)
set_option maxHeartbeats 8000000 in
set_option maxRecDepth 100000 in
theorem impl_copySteps.calls (k : Nat) (A0 : Option Addr) (c0 : Nat) (l0 : List (List Int)) (r : List (List Int)) (w : World) (hr0 : Kd.C (Kd.slice 3 (Kd.int .i64)) w A0 l0.length l0) (hc0 : l0.length ≤ c0) (h : impl_copySteps.f k l0 = some r) :
 Calls Try.prog 63 #[.slice A0 l0.length c0] w fun e w' => ∃ v0_ : Value, e = .returned (v0_) ∧ Kd.S (Kd.slice 3 (Kd.int .i64)) 34 w' w.heap.size (fun _ => True) v0_ r ∧ Below w.heap.size w w' := by
 have HR0 := Aside0.mk hr0
 have HC0 := Aside0.mk hc0
 clear hr0 hc0
 have HB := Aside0.mk (Below.refl w.heap.size w)
 have H : (impl_copySteps.l0 k (([] : List (List Int))) l0 (l0.length : Int) 0) = some r := h
 clear h
 obtain ⟨y370, hy370⟩ : ∃ y_ : List (List Int), y_ = (([] : List (List Int))) := ⟨_, rfl⟩
 replace H : (impl_copySteps.l0 k y370 l0 (l0.length : Int) 0) = some r := by first | (rw [hy370]; with_reducible exact H) | (have H2_ := (Option.bind_some _ _).symm.trans H; rw [hy370]; with_reducible exact H2_) | (have H2_ := (Option.bind_some _ _).symm.trans H; with_reducible exact H2_) | with_reducible exact H | (rw [hy370]; exact H) | exact H
 have Ny370 := Aside0.mk hy370
 clear hy370
 have H' := Aside0.mk H
 clear H
 go_enter Try.func63, Try.ntmps63
 go_wp2_with (first | ((with_reducible refine gate_dst (N := 6) rfl ?_); refine Kd.S_lit (Kd.slice 3 (Kd.int .i64)) _ 34 ?hg (N := 6) ?hd (xs := ([] : List (List Int))) (inner := []) (ok := fun _ => True) (okp := fun _ => True) ?hr ?hp (fun _ hk => hk) trivial (Below.refl _ _) (Nat.le_refl _) (by simp) ?_; (case hd => rfl); (case hg => rfl); (case hr => first | (go_simp; done) | (go_simp; rfl)); (case hp => exact (Reps.none _ _)); intro v371 w2 ho3 hb hg_ hnew_; clear hg_ hnew_; (first | rw [← Ny370.out] at ho3 | (simp only [Int.reduceToNat] at ho3; rw [← Ny370.out] at ho3)); have n0_ := Aside0.mk (Kd.S_lower ho3 (below_size (by repeat (first | (with_reducible first | exact HB.out | apply below_alloc | apply pw_below_drewN | apply below_drew1) | exact HB.out)))); have n1_ := Aside0.mk (below_step (by repeat (first | (with_reducible first | exact HB.out | apply below_alloc | apply pw_below_drewN | apply below_drew1) | exact HB.out)) hb); clear HB; have HO372 := n0_; have HB := n1_; clear n0_ n1_; clear hb ho3))
 go_loopg [3, 9] k (fun kq v3 v9 w' => ∃ (x3_1 : List (List Int)) (x9_1 : Int), v9 = .int .i64 x9_1 ∧ Aside0 (impl_copySteps.l0 kq x3_1 l0 (l0.length : Int) x9_1 = some r) ∧ Aside0 (kq ≤ k) ∧ Aside0 (Kd.S (Kd.slice 3 (Kd.int .i64)) 34 w' w.heap.size (fun _ => True) v3 x3_1) ∧ Aside0 (Below w.heap.size w w'))
 case atStart => exact ⟨(y370), (0), (by first | rfl | (simp; done) | (simp [*]; done)), H', ⟨Nat.le_refl _⟩, ⟨by (with_reducible repeat (first | apply Kd.S_alloc | apply Kd.S_drewN | apply Kd.S_drew)); exact HO372.out⟩, ⟨by repeat (first | (with_reducible first | exact HB.out | apply below_alloc | apply pw_below_drewN | apply below_drew1) | exact HB.out)⟩⟩
 case round =>
  clear H'
  try clear p2
  obtain ⟨x3_1, x9_1, rfl, HA, HK1, HO_3, HB⟩ := hrel
  cases gk with
  | zero => exact absurd HA.out (by simp [impl_copySteps.l0])
  | succ k1 =>
   have H := HA.out
   clear HA
   simp only [impl_copySteps.l0] at H
   by_cases c4 : x9_1 < (l0.length : Int)
   ·rw [if_pos c4] at H
    have c4b0 : decide (x9_1 < (l0.length : Int)) = true := decide_eq_true c4
    clear c4
    by_cases c5 : 0 ≤ x9_1
    ·rw [if_pos c5] at H
     have c5b0 : decide (0 ≤ x9_1) = true := decide_eq_true c5
     clear c5
     by_cases c6 : x9_1 < (l0.length : Int)
     ·rw [if_pos c6] at H
      have c6b0 : decide (x9_1 < (l0.length : Int)) = true := decide_eq_true c6
      clear c6
      replace H := Option.bind_eq_some_iff.mp H
      obtain ⟨t374, A70, H⟩ := H
      replace H : (if x3_1.length < 5864062014805 then (impl_copySteps.l0 k1 (x3_1 ++ [t374]) l0 (l0.length : Int) (wrap64 (x9_1 + 1))) else (none)) = some r := H
      have A7 := Aside0.mk A70
      clear A70
      by_cases c8 : x3_1.length < 5864062014805
      ·rw [if_pos c8] at H
       have LMc8 := Aside0.mk c8
       clear c8
       obtain ⟨y377, hy377⟩ : ∃ y_ : List (List Int), y_ = (x3_1 ++ [t374]) := ⟨_, rfl⟩
       replace H : (impl_copySteps.l0 k1 y377 l0 (l0.length : Int) (wrap64 (x9_1 + 1))) = some r := by first | (rw [hy377]; with_reducible exact H) | (have H2_ := (Option.bind_some _ _).symm.trans H; rw [hy377]; with_reducible exact H2_) | (have H2_ := (Option.bind_some _ _).symm.trans H; with_reducible exact H2_) | with_reducible exact H | (rw [hy377]; exact H) | exact H
       have Ny377 := Aside0.mk hy377
       clear hy377
       have H' := Aside0.mk H
       clear H
       have p373 : 0 ≤ (x9_1 : Int) := of_decide_eq_true (by first | (with_reducible assumption) | assumption)
       have q373 : x9_1 < (l0.length : Int) := of_decide_eq_true (by first | (with_reducible assumption) | assumption)
       obtain ⟨ad373, A373_0, c373_0, e373, hx373_0, hl373_0, hi373_0⟩ := at_L1 HR0.out x9_1 p373 q373
       cases e373
       replace hx373_0 := (HB.out.cell (World.block_lt_of_cell? w _ hx373_0)).trans hx373_0
       have HR373_0 := Aside0.mk hi373_0
       have HC373_0 := Aside0.mk hl373_0
       clear hi373_0 hl373_0
       replace p373 := eq_true p373
       replace q373 := eq_true q373
       go_wp2_with (first | ((with_reducible refine gate_callee (f := 86) rfl ?_); refine goesL_ (some 15) rfl rfl Try.func86 (by kernel_rfl) rfl #[.slice A373_0 (rd_L1 l0 x9_1).length c373_0] rfl (by (try simp only [List.map_toArray, List.map_cons, List.map_nil]); first | done | rfl | (simp only [List.length_drop, List.length_take]; rfl)) ?_; (with_reducible refine (slices_Clone_int_int_86.calls _ _ (rd_L1 l0 x9_1) t374 _ ?side1 ?side2 A7.out).mono ?_); (case side1 => repeat (first | exact (Kd.C_below HR373_0.out HB.out) | (with_reducible refine Kd.C_alloc ?_ _) | (with_reducible refine Kd.C_drewN ?_ _) | (with_reducible refine Kd.C_drew ?_))); (case side2 => exact HC373_0.out); rintro e w9 ⟨v375, rfl, ho0, hb⟩; refine ⟨_, rfl, ?_⟩; have n0_ := Aside0.mk (Kd.S_elder' (by (with_reducible repeat (first | apply Kd.S_alloc | apply Kd.S_drewN | apply Kd.S_drew)); exact HO_3.out) (Kd.R_base ho0) hb); have n1_ := Aside0.mk (Kd.R_lower ho0 (below_size (by repeat (first | (with_reducible first | exact HB.out | apply below_alloc | apply pw_below_drewN | apply below_drew1) | exact HB.out)))); have n2_ := Aside0.mk (below_step (by repeat (first | (with_reducible first | exact HB.out | apply below_alloc | apply pw_below_drewN | apply below_drew1) | exact HB.out)) hb); clear HO_3; clear HB; have HO_3 := n0_; have HO376 := n1_; have HB := n2_; clear n0_ n1_ n2_; (try clear hb); (try clear hb2); (try clear hk); (try clear hi); (try clear ho0); obtain ⟨Ao11, co11, eo11⟩ := Kd.R_slice HO376.out; subst eo11) | ((with_reducible refine gate_builtin (b := .append) (xs := #[.tmp 13, .tmp 16]) rfl ?_); at_builtin; refine Kd.S_append (Kd.slice 3 (Kd.int .i64)) (w0 := w) w.heap.size rfl (.tmp 13) (.tmp 16) 22 34 (.slice none 0 0) 24 rfl Try.underlying22 info34 rfl (by decide) (by omega) u3 x3_1 t374 [.slice Ao11 t374.length co11] (fun _ => True) (fun k_ => some k_ = (.slice Ao11 t374.length co11 : Value).ownBlock) rfl rfl ?aP (fun k_ hk_ => ((Kd.R_mono (ok' := fun k_ => ((fun _ => True)) k_ ∧ some k_ ≠ (u3 : Value).ownBlock) (Kd.R_apart' (HO376.out) (Kd.S_typed HO_3.out) (by decide)) (fun k_ hk => ⟨trivial, hk.2⟩))).1 k_ hk_.symm) ?aF ?aO ?aB ?aS ?aL ?_; (case aP => exact Kd.M_row (Kd.R_mono (Kd.R_tight rfl (Kd.R_mono (ok' := fun k_ => ((fun _ => True)) k_ ∧ some k_ ≠ (u3 : Value).ownBlock) (Kd.R_apart' (HO376.out) (Kd.S_typed HO_3.out) (by decide)) (fun k_ hk => ⟨trivial, hk.2⟩))) (fun _ h_ => h_))); (case aB => exact (by repeat (first | (with_reducible first | exact HB.out | apply below_alloc | apply pw_below_drewN | apply below_drew1) | exact HB.out))); (case aF => exact (fun _ _ => trivial)); (case aO => exact (by (with_reducible repeat (first | apply Kd.S_alloc | apply Kd.S_drewN | apply Kd.S_drew)); exact Kd.S_mono HO_3.out (fun k_ hk => ⟨trivial, fun e_ => hk.2 e_⟩))); (case aS => exact (below_size (by repeat (first | (with_reducible first | exact HB.out | apply below_alloc | apply pw_below_drewN | apply below_drew1) | exact HB.out)))); (case aL => have := LMc8.out; omega); intro v378 w10 ho hb hg hat; rw [← Ny377.out] at ho; have n0_ := Aside0.mk (hb); have n1_ := Aside0.mk (ho); clear HB; clear HO_3; clear HO376; have HB := n0_; have HO379 := n1_; clear n0_ n1_; clear ho hb hg hat))
       go_roundg k1
       case measure => have := HK1.out; omega
       case rel => exact ⟨(y377), (wrap64 (x9_1 + 1)), (by first | rfl | (simp; done) | (simp [*]; done)), H', ⟨by have := HK1.out; omega⟩, ⟨by (with_reducible repeat (first | apply Kd.S_alloc | apply Kd.S_drewN | apply Kd.S_drew)); exact HO379.out⟩, ⟨by repeat (first | (with_reducible first | exact HB.out | apply below_alloc | apply pw_below_drewN | apply below_drew1) | exact HB.out)⟩⟩
      ·rw [if_neg c8] at H
       exact absurd H (by simp)
     ·rw [if_neg c6] at H
      exact absurd H (by simp)
    ·rw [if_neg c5] at H
     exact absurd H (by simp)
   ·rw [if_neg c4] at H
    have c4b0 : decide (x9_1 < (l0.length : Int)) = false := decide_eq_false c4
    clear c4
    obtain rfl := Option.some.inj H
    go_wp2
    go_ret
    exact ⟨_, by first | rfl | (simp [errW_none, errW_some] <;> rfl) | (simp [*, errW_none, errW_some] <;> rfl), by (with_reducible repeat (first | apply Kd.S_alloc | apply Kd.S_drewN | apply Kd.S_drew)); exact HO_3.out, by repeat (first | (with_reducible first | exact HB.out | apply below_alloc | apply pw_below_drewN | apply below_drew1) | exact HB.out)⟩

-- NOT PRINTED: function 93 (slices_insertionSortCmpFunc_int)

-- NOT PRINTED: function 96 (slices_swapRangeCmpFunc_int)

-- NOT PRINTED: function 95 (slices_rotateCmpFunc_int)

-- NOT PRINTED: function 94 (slices_symMergeCmpFunc_int)

-- NOT PRINTED: function 87 (slices_stableCmpFunc_int)

/-! ### slices_SortStableFunc_int_int: function 64, by hand -/
def slices_SortStableFunc_int_int.ren : Go.Shelf.Ren := ⟨fun | 20 => 93 | n => n, fun | 24 => 34 | 22 => 22 | 3 => 3 | 25 => 44 | 4 => 4 | 0 => 0 | n => n, fun n => n⟩
theorem slices_SortStableFunc_int_int.lay : SlLaysF.n20 Try.prog slices_SortStableFunc_int_int.ren :=
 { mixed := rfl, f20 := ⟨Try.f93.name, by decide, Try.func93.trans (congrArg some rfl)⟩, t0 := Try.underlying0, a0 := Try.isAgg0, z0 := Try.sizeOf0, v0 := Try.zeroValue0, t3 := Try.underlying3, a3 := Try.isAgg3, z3 := Try.sizeOf3, v3 := Try.zeroValue3, t4 := Try.underlying4, a4 := Try.isAgg4, z4 := Try.sizeOf4, v4 := Try.zeroValue4, t22 := Try.underlying22, a22 := Try.isAgg22, z22 := Try.sizeOf22, v22 := Try.zeroValue22, a24 := Try.isAgg34, z24 := Try.sizeOf34, t25 := Try.underlying44, a25 := Try.isAgg44, z25 := Try.sizeOf44, v25 := Try.zeroValue44 }
open Go.Proofs.Ytkphiccdgclldaa.HRaw Go.Proofs.Ytkphiccdgclldaa.HSrt in
set_option maxHeartbeats 8000000 in
set_option maxRecDepth 100000 in
theorem slices_SortStableFunc_int_int.calls {w : World} {e base : Nat} {ok : Nat → Prop} {v : Value} {xs : List (List Int)} {g cap : Nat} {cur : Array Value} {hs : List Hd} {f : Nat → Nat} (O : OpenS w 3 e base ok v xs g cap cur hs f) (hn : 0 < xs.length) (h20 : xs.length < 20)
 (cmp : List Int → List Int → Int) (q : Nat) (eg : ∀ args w, (callFunc q args).run Try.prog w = .ok (.enter q args) w)
 (hcmp : ∀ (W : World) (i j : Nat) (hi : i < xs.length) (hj : j < xs.length), (∀ k, k ≠ g → k < w.heap.size → W.heap[k]? = w.heap[k]?) →
  Calls Try.prog q #[encH (hs[i]'(by rw [O.hlen]; exact hi)), encH (hs[j]'(by rw [O.hlen]; exact hj))] W fun e w' => e = .returned (.int .i64 (cmp xs[i] xs[j])) ∧ ∃ m, w' = W.drewN m) :
 Calls Try.prog 64 #[v, .func (.func q) #[] #[]] w fun e' w' => e' = .returned (.tuple #[]) ∧ (∃ cur' hs' f', OpenS w' 3 e base ok v (isort (fun a b => decide (cmp a b < 0)) xs) g cap cur' hs' f') ∧ Below base w w' := by
 letI : Inhabited (Fin xs.length) := ⟨⟨0, hn⟩⟩
 have hl := O.hlen
 obtain rfl := O.val
 have hcf : ∀ a b : Fin xs.length, (fun a b : Fin xs.length => cmp xs[a.1] xs[b.1]) a b = cmp xs[a.1] xs[b.1] := fun _ _ => rfl
 generalize hod : order hn (fun a b : Fin xs.length => cmp xs[a.1] xs[b.1]) = od
 have hsz : od.size = xs.length := by
  have h1 := order_toList hn (fun a b : Fin xs.length => cmp xs[a.1] xs[b.1])
  have h2 := congrArg List.length h1
  rw [(isort_perm _ _).length_eq, hod] at h2
  simpa using h2
 have hH : Go.Sort.Holds (fun i : Fin xs.length => encH (hs[i.1]'(by rw [hl]; exact i.2))) w g 0 (Array.ofFn (id : Fin xs.length → Fin xs.length)) := by
  intro j hj
  have hj' : j < xs.length := by simpa using hj
  constructor
  ·unfold World.cell?
   rw [O.blk, getElem!_pos _ j hj]
   show cur[0 + j]? = _
   rw [Nat.zero_add, O.hd j (by omega)]
   simp
  ·unfold World.frozen?
   rw [O.blk]
   simp
 have hC := Any.insertionSortCmpFunc_one slices_SortStableFunc_int_int.lay (fun i : Fin xs.length => encH (hs[i.1]'(by rw [hl]; exact i.2))) (fun _ => rfl) (fun a b : Fin xs.length => cmp xs[a.1] xs[b.1]) q #[] g 0 cap 0 xs.length (Array.ofFn id) w eg ?_ hH (by omega) (by simp) (by simp; omega)
 ·rw [show (Array.ofFn (id : Fin xs.length → Fin xs.length)).size = xs.length from by simp] at hC
  have e0 : Go.Sort.insertionSort (ltOf fun a b : Fin xs.length => cmp xs[a.1] xs[b.1]) (Array.ofFn id) 0 xs.length = od := hod
  rw [e0] at hC
  have hC' : Calls Try.prog 93 #[.slice (some ⟨g, 0, none⟩) xs.length cap, .int .i64 ((0 : Nat) : Int), .int .i64 (xs.length : Int), .func (.func q) #[] #[]] w fun e' w' => e' = .returned (.tuple #[]) ∧ (∃ cur' hs' f', OpenS w' 3 e base ok (.slice (some ⟨g, 0, none⟩) xs.length cap) (isort (fun a b => decide (cmp a b < 0)) xs) g cap cur' hs' f') ∧ Below base w w' := by
   refine hC.mono ?_
   rintro e' w' ⟨rfl, m, rfl⟩
   refine ⟨rfl, ?_, ?_⟩
   ·obtain ⟨hs', f', O'⟩ := O.sorted (W := (Go.Sort.putRow (fun i : Fin xs.length => encH (hs[i.1]'(by rw [hl]; exact i.2))) w g 0 od).drewN m) hn cmp (fun k hk => putRow_ne _ _ _ _ _ _ hk) (putRow_at _ _ _ _ _ O.blk) (by rw [← O.size]; simp [Go.Sort.putCells]) _ hcf od hod.symm (fun j hj => by
     have hj' : j < od.size := by simpa using hj
     rw [putCells_get, O.hd j (by omega), Option.map_some, if_pos ⟨Nat.zero_le _, by omega⟩, Nat.sub_zero, getElem!_pos od j hj']
     simp)
    exact ⟨_, hs', f', O'⟩
   ·have := below_putRow (fun i : Fin xs.length => encH (hs[i.1]'(by rw [hl]; exact i.2))) (Below.refl base w) 0 O.ge 0 od
    exact pw_below_drewN this m
  clear hC hH hcmp hcf e0 hsz hod
  have c93 := hC'
  clear hC'
  have h87 : Calls Try.prog 87 #[.slice (some ⟨g, 0, none⟩) xs.length cap, .int .i64 (xs.length : Int), .func (.func q) #[] #[]] w fun e' w' => e' = .returned (.tuple #[]) ∧ (∃ cur' hs' f', OpenS w' 3 e base ok (.slice (some ⟨g, 0, none⟩) xs.length cap) (isort (fun a b => decide (cmp a b < 0)) xs) g cap cur' hs' f') ∧ Below base w w' := by
   clear O eg
   go_enter Try.func87, Try.ntmps87
   go_wp2
   go_loopg [7, 8] 0 (fun kq v7 v8 w' => v7 = .int .i64 0 ∧ v8 = .int .i64 20 ∧ w' = w)
   case atStart => exact ⟨rfl, rfl, rfl⟩
   case round =>
    obtain ⟨rfl, rfl, rfl⟩ := hrel
    have q1 : ((20 : Int) ≤ (xs.length : Int)) = False := eq_false (by omega)
    have q2 : ((20 : Int) < (xs.length : Int)) = False := eq_false (by omega)
    go_wp2_with (first | (go_at_call 93; refine c93.mono ?_; rintro e' w1 ⟨rfl, hO, hB⟩; have HOO := Aside0.mk hO; have HBB := Aside0.mk hB; clear hO hB c93))
    go_loopg [6] 0 (fun kq v6 w' => v6 = .int .i64 20 ∧ w' = w1)
    case atStart => exact ⟨rfl, rfl⟩
    case round =>
     obtain ⟨rfl, rfl⟩ := hrel
     go_wp2
     go_end0
     exact ⟨rfl, HOO.out, HBB.out⟩
  go_enter Try.func64, Try.ntmps64
  go_wp2_with (first | (go_at_call 87; refine h87.mono ?_; rintro e' w' ⟨rfl, hO, hB⟩))
  go_end0
  exact ⟨rfl, hO, hB⟩
 ·intro m os dk hdk x y
  have hW : ∀ k, k ≠ g → k < w.heap.size → (sortWorld (fun i : Fin xs.length => encH (hs[i.1]'(by rw [hl]; exact i.2))) w g 0 m dk os).heap[k]? = w.heap[k]? := by
   intro k hk hlt
   unfold sortWorld
   show ((Go.Sort.putRow _ (Go.Sort.ahead w m) g 0 dk).heap ++ os)[k]? = _
   rw [Array.getElem?_append_left (by rw [Go.Sort.size_putRow]; exact hlt), putRow_ne _ _ _ _ _ _ hk]
   rfl
  exact hcmp _ x.1 y.1 x.2 y.2 hW

/-! ### slices_Clone_int_int_79: function 79 -/
def slices_Clone_int_int_79.f (l0 : List (List Int)) : Option ((List (List Int))) := (some (([] : List (List Int)) : List (List Int))).bind fun y380 => (if y380.length + l0.length < 5864062014805 then (some (y380 ++ l0)) else (none))
set_option maxHeartbeats 8000000 in
set_option maxRecDepth 100000 in
theorem slices_Clone_int_int_79.calls (P0_ : Nat → Prop) (A0 : Option Addr) (c0 : Nat) (l0 : List (List Int)) (r : List (List Int)) (w : World) (hs0 : Kd.V (Kd.slice 3 (Kd.int .i64)) 34 w w.heap.size (fun k_ => P0_ k_) (.slice A0 l0.length c0) l0) (h : slices_Clone_int_int_79.f l0 = some r) :
 Calls Try.prog 79 #[.slice A0 l0.length c0] w fun e w' => ∃ v0_ : Value, e = .returned (v0_) ∧ Kd.N (Kd.slice 3 (Kd.int .i64)) 34 w' w.heap.size (fun k_ => (P0_ k_ ∨ w.heap.size ≤ k_)) v0_ r ∧ Below w.heap.size w w' := by
 by_cases hn_ : A0 = none
 ·subst hn_
  have hC_ : Kd.C (Kd.slice 3 (Kd.int .i64)) w none l0.length l0 := by obtain ⟨A_, c_, e_, _, hf_⟩ := hs0; injection e_ with e1_ _ _; subst e1_; exact Kd.F_now hf_
  obtain rfl : l0 = [] := by
   rcases Nat.eq_zero_or_pos l0.length with h0 | h0
   ·exact List.eq_nil_of_length_eq_zero h0
   ·obtain ⟨ad, h, _⟩ := hC_.2.2 h0
    cases h
  obtain rfl : r = [] := by
   have h2_ : slices_Clone_int_int_79.f [] = some [] := by decide
   rw [h2_] at h
   exact (Option.some.inj h).symm
  clear hC_ h hs0
  have he_ := fun W : World => Lib.run_eql_slice_nil (P := Try.prog) W 22 34 none 0 c0 0 0 Try.underlying22
  go_enter Try.func79, Try.ntmps79
  go_wp2
  go_ret
  exact ⟨_, rfl, Kd.N_nil _ _ _ _ _, Below.refl _ _⟩
 have he_ : ∀ W : World, (binOp .eql 22 (.slice A0 l0.length c0) (.slice none 0 0)).run Try.prog W = .ok (.bool false) W := fun W => by
  rw [Lib.run_eql_slice_nil (P := Try.prog) W 22 34 A0 l0.length c0 0 0 Try.underlying22]
  cases A0 with
  | none => exact absurd rfl hn_
  | some a => rfl
 clear hn_
 have HO0 := Aside0.mk (show Kd.V (Kd.slice 3 (Kd.int .i64)) 34 w w.heap.size (fun k_ => (P0_ k_ ∨ w.heap.size ≤ k_)) (.slice A0 l0.length c0) l0 from Kd.V_mono hs0 (fun k_ hk => .inl hk))
 have HB := Aside0.mk (Below.refl w.heap.size w)
 have H : ((some (([] : List (List Int)) : List (List Int))).bind fun y380 => (if y380.length + l0.length < 5864062014805 then (some (y380 ++ l0)) else (none))) = some r := h
 clear h
 obtain ⟨y380, hy380⟩ : ∃ y_ : List (List Int), y_ = (([] : List (List Int))) := ⟨_, rfl⟩
 replace H : (if y380.length + l0.length < 5864062014805 then (some (y380 ++ l0)) else (none)) = some r := by first | (rw [hy380]; with_reducible exact H) | (have H2_ := (Option.bind_some _ _).symm.trans H; rw [hy380]; with_reducible exact H2_) | (have H2_ := (Option.bind_some _ _).symm.trans H; with_reducible exact H2_) | with_reducible exact H | (rw [hy380]; exact H) | exact H
 have Ny380 := Aside0.mk hy380
 clear hy380
 by_cases c2 : y380.length + l0.length < 5864062014805
 ·rw [if_pos c2] at H
  have LMc2 := Aside0.mk c2
  clear c2
  obtain ⟨y383, hy383⟩ : ∃ y_ : List (List Int), y_ = (y380 ++ l0) := ⟨_, rfl⟩
  replace H : (some y383) = some r := by first | (rw [hy383]; with_reducible exact H) | (have H2_ := (Option.bind_some _ _).symm.trans H; rw [hy383]; with_reducible exact H2_) | (have H2_ := (Option.bind_some _ _).symm.trans H; with_reducible exact H2_) | with_reducible exact H | (rw [hy383]; exact H) | exact H
  have Ny383 := Aside0.mk hy383
  clear hy383
  obtain rfl := Option.some.inj H
  go_enter Try.func79, Try.ntmps79
  go_wp2_with (first | ((with_reducible refine gate_dst (N := 5) rfl ?_); refine Kd.N_lit (Kd.slice 3 (Kd.int .i64)) _ 34 ?hg (N' := 5) ?hd (xs := ([] : List (List Int))) (inner := []) (ok := (fun k_ => (P0_ k_ ∨ w.heap.size ≤ k_))) (okp := (fun k_ => (P0_ k_ ∨ w.heap.size ≤ k_))) ?hr ?hp (fun _ hk => hk) ((show ∀ k_, w.heap.size ≤ k_ → (fun k_ => (P0_ k_ ∨ w.heap.size ≤ k_)) k_ from fun k_ hk => (.inr (Nat.le_trans (below_size (by repeat (first | (with_reducible first | exact HB.out | apply below_alloc | apply pw_below_drewN | apply below_drew1) | exact HB.out))) hk))) _ (Nat.le_refl _)) (Below.refl _ _) (Nat.le_refl _) (by simp) ?_; (case hd => rfl); (case hg => rfl); (case hr => first | (go_simp; done) | (go_simp; rfl)); (case hp => exact (Reps.none _ _)); intro v381 w3 ho4 hb hg_ hnew_; clear hg_ hnew_; (first | rw [← Ny380.out] at ho4 | (simp only [Int.reduceToNat] at ho4; rw [← Ny380.out] at ho4)); have n0_ := Aside0.mk (Kd.V_elder' (by (with_reducible repeat (first | apply Kd.V_alloc | apply Kd.V_drewN | apply Kd.V_drew)); exact HO0.out) (by first | exact Kd.N_base ho4 | exact Kd.S_base ho4 | exact Kd.R_base ho4) hb); have n1_ := Aside0.mk (Kd.N_lower ho4 (below_size (by repeat (first | (with_reducible first | exact HB.out | apply below_alloc | apply pw_below_drewN | apply below_drew1) | exact HB.out)))); have n2_ := Aside0.mk (below_step (by repeat (first | (with_reducible first | exact HB.out | apply below_alloc | apply pw_below_drewN | apply below_drew1) | exact HB.out)) hb); clear HO0; clear HB; have HO0 := n0_; have HO382 := n1_; have HB := n2_; clear n0_ n1_ n2_; clear hb ho4) | ((with_reducible refine gate_builtin (b := .append) (xs := #[.tmp 5, .tmp 6]) rfl ?_); at_builtin; refine Kd.N_append_rows (Kd.slice 3 (Kd.int .i64)) (w0 := w) w.heap.size rfl (.tmp 5) (.tmp 6) 22 34 (.slice none 0 0) 24 rfl Try.underlying22 info34 rfl (by decide) (by omega) v381 y380 l0 _ _ _ (fun k_ => (P0_ k_ ∨ w.heap.size ≤ k_)) (fun k_ => ((fun k_ => (P0_ k_ ∨ w.heap.size ≤ k_))) k_ ∧ some k_ ≠ (v381 : Value).ownBlock) rfl rfl ?aO ?aR (fun _ hk => hk) ?aF ?aB ?aS ?aL ?_; (case aR => exact (by skip; exact Kd.V_F (Kd.V_mono (ok' := (fun k_ => ((fun k_ => (P0_ k_ ∨ w.heap.size ≤ k_))) k_ ∧ some k_ ≠ (v381 : Value).ownBlock)) (HO0.out) (fun k_ hk => ⟨hk.1, hk.2⟩)))); (case aB => exact (by repeat (first | (with_reducible first | exact HB.out | apply below_alloc | apply pw_below_drewN | apply below_drew1) | exact HB.out))); (case aF => exact (fun k_ hk => (.inr (Nat.le_trans (below_size (by repeat (first | (with_reducible first | exact HB.out | apply below_alloc | apply pw_below_drewN | apply below_drew1) | exact HB.out))) hk)))); (case aO => exact (by (with_reducible repeat (first | apply Kd.N_alloc | apply Kd.N_drewN | apply Kd.N_drew)); exact HO382.out)); (case aS => exact (below_size (by repeat (first | (with_reducible first | exact HB.out | apply below_alloc | apply pw_below_drewN | apply below_drew1) | exact HB.out)))); (case aL => have := LMc2.out; omega); intro v384 w5 ho hb hg hat; rw [← Ny383.out] at ho; have n0_ := Aside0.mk (Kd.V_afterv (ok := (fun k_ => (P0_ k_ ∨ w.heap.size ≤ k_))) (by (with_reducible repeat (first | apply Kd.V_alloc | apply Kd.V_drewN | apply Kd.V_drew)); exact HO0.out) hg hat); have n1_ := Aside0.mk (hb); have n2_ := Aside0.mk (ho); clear HO0; clear HB; clear HO382; have HO0 := n0_; have HB := n1_; have HO385 := n2_; clear n0_ n1_ n2_; clear ho hb hg hat))
  go_ret
  exact ⟨_, by first | rfl | (simp [errW_none, errW_some] <;> rfl) | (simp [*, errW_none, errW_some] <;> rfl), by (with_reducible repeat (first | apply Kd.N_alloc | apply Kd.N_drewN | apply Kd.N_drew)); exact HO385.out, by repeat (first | (with_reducible first | exact HB.out | apply below_alloc | apply pw_below_drewN | apply below_drew1) | exact HB.out)⟩
 ·rw [if_neg c2] at H
  exact absurd H (by simp)

end Go.Proofs.Ytkphiccdgclldaa.PFnExactZonoInside
