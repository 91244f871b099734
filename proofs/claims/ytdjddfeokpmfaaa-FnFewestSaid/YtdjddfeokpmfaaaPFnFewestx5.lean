-- Made by hprint.py (wip/) out of the translation; not trusted: Lean checks it.
import Derived.Test.YtdjddfeokpmfaaaPFnFewestx0
import Derived.Test.YtdjddfeokpmfaaaPFnFewestx4
namespace Go.Proofs.Ytdjddfeokpmfaaa.PFnFewest
open Go.RowKit Go.Proofs.YtdjddfeokpmfaaaW.PrintWords Go.Proofs.YtdjddfeokpmfaaaW.PrintLast Go.Proofs.YtdjddfeokpmfaaaW.PrintMore
attribute [local go_sem] max2_int min2_int max_two min_two max_three min_three max_four min_four   -- for this text's walks alone
set_option linter.unusedVariables false
set_option linter.unusedSimpArgs false

/-! ### impl_convex: function 18 -/
mutual
def impl_convex.l0 : Nat → List (List Int) → Int → List (List Int) → Int → Int → Option (Bool)
 | 0, _, _, _, _, _ => none
 | k + 1, x0, x3, x8, x9, x10 => if x10 < x9 then (if 0 ≤ x10 then (if x10 < (x8.length : Int) then (if (x0.length : Int) = 0 then (none) else (if 0 ≤ (Int.tmod (wrap64 (x10 + 1)) (x0.length : Int)) then (if (Int.tmod (wrap64 (x10 + 1)) (x0.length : Int)) < (x0.length : Int) then ((impl_cross.f (rd_L2 x8 x10) (rd_L2 x0 (Int.tmod (wrap64 (x10 + 1)) (x0.length : Int)))).bind fun t279 => (if t279 < 0 then (impl_convex.j1 k x0 x3 (rd_L2 x8 x10) (rd_L2 x0 (Int.tmod (wrap64 (x10 + 1)) (x0.length : Int))) x8 x9 x10 true) else (if t279 = 0 then (if 0 < ((rd_L2 x8 x10).length : Int) then (if 0 < ((rd_L2 x0 (Int.tmod (wrap64 (x10 + 1)) (x0.length : Int))).length : Int) then (if 1 < ((rd_L2 x8 x10).length : Int) then (if 1 < ((rd_L2 x0 (Int.tmod (wrap64 (x10 + 1)) (x0.length : Int))).length : Int) then (impl_convex.j1 k x0 x3 (rd_L2 x8 x10) (rd_L2 x0 (Int.tmod (wrap64 (x10 + 1)) (x0.length : Int))) x8 x9 x10 (decide ((wrap64 ((wrap64 ((rd (rd_L2 x8 x10) 0) * (rd (rd_L2 x0 (Int.tmod (wrap64 (x10 + 1)) (x0.length : Int))) 0))) + (wrap64 ((rd (rd_L2 x8 x10) 1) * (rd (rd_L2 x0 (Int.tmod (wrap64 (x10 + 1)) (x0.length : Int))) 1))))) < 0))) else (none)) else (none)) else (none)) else (none)) else (impl_convex.j1 k x0 x3 (rd_L2 x8 x10) (rd_L2 x0 (Int.tmod (wrap64 (x10 + 1)) (x0.length : Int))) x8 x9 x10 false)))) else (none)) else (none))) else (none)) else (none)) else (some (x3 == 1))
def impl_convex.j1 : Nat → List (List Int) → Int → List Int → List Int → List (List Int) → Int → Int → Bool → Option (Bool)
 | 0, _, _, _, _, _, _, _, _ => none
 | k + 1, x0, x3, x5, x6, x8, x9, x10, x49 => if x49 = true then (some false) else ((impl_compareSteps.f x5 x6).bind fun t284 => (if t284 > 0 then (impl_convex.l0 k x0 (wrap64 (x3 + 1)) x8 x9 (wrap64 (x10 + 1))) else (impl_convex.l0 k x0 x3 x8 x9 (wrap64 (x10 + 1)))))
end
def impl_convex.f (k : Nat) (l0 : List (List Int)) : Option (Bool) := impl_convex.l0 k l0 0 l0 (l0.length : Int) 0
theorem impl_convex.mono_l : ∀ k, (∀ y0 y1 y2 y3 y4, LeO (impl_convex.l0 k y0 y1 y2 y3 y4) (impl_convex.l0 (k + 1) y0 y1 y2 y3 y4)) ∧ (∀ y0 y1 y2 y3 y4 y5 y6 y7, LeO (impl_convex.j1 k y0 y1 y2 y3 y4 y5 y6 y7) (impl_convex.j1 (k + 1) y0 y1 y2 y3 y4 y5 y6 y7))
 | 0 => ⟨fun _ _ _ _ _ r h => by simp [impl_convex.l0] at h, fun _ _ _ _ _ _ _ _ r h => by simp [impl_convex.j1] at h⟩
 | k + 1 => by
  obtain ⟨ih0, ih1⟩ := impl_convex.mono_l k
  refine ⟨?_, ?_⟩
  ·intro y0 y1 y2 y3 y4
   unfold impl_convex.l0
   repeat' first
   | (with_reducible exact ih0 _ _ _ _ _)
   | (with_reducible exact ih1 _ _ _ _ _ _ _ _)
   | (with_reducible exact LeO.refl _)
   | (with_reducible exact LeO.none _)
   | (with_reducible refine LeO.ite ?_ ?_)
   | (with_reducible refine LeO.bind ?_ (fun _ => ?_))
   | exact ih0 _ _ _ _ _
   | exact ih1 _ _ _ _ _ _ _ _
   | exact LeO.none _
   | refine LeO.ite ?_ ?_
   | refine LeO.bind ?_ (fun _ => ?_)
  ·intro y0 y1 y2 y3 y4 y5 y6 y7
   unfold impl_convex.j1
   repeat' first
   | (with_reducible exact ih0 _ _ _ _ _)
   | (with_reducible exact ih1 _ _ _ _ _ _ _ _)
   | (with_reducible exact LeO.refl _)
   | (with_reducible exact LeO.none _)
   | (with_reducible refine LeO.ite ?_ ?_)
   | (with_reducible refine LeO.bind ?_ (fun _ => ?_))
   | exact ih0 _ _ _ _ _
   | exact ih1 _ _ _ _ _ _ _ _
   | exact LeO.none _
   | refine LeO.ite ?_ ?_
   | refine LeO.bind ?_ (fun _ => ?_)
theorem impl_convex.mono : ∀ a0 k, LeO (impl_convex.f k a0) (impl_convex.f (k + 1) a0) := by
 intro a0 k
 obtain ⟨ih0, ih1⟩ := impl_convex.mono_l k
 unfold impl_convex.f
 repeat' first
  | (with_reducible exact ih0 _ _ _ _ _)
  | (with_reducible exact ih1 _ _ _ _ _ _ _ _)
  | (with_reducible exact LeO.refl _)
  | (with_reducible exact LeO.none _)
  | (with_reducible refine LeO.ite ?_ ?_)
  | (with_reducible refine LeO.bind ?_ (fun _ => ?_))
  | exact ih0 _ _ _ _ _
  | exact ih1 _ _ _ _ _ _ _ _
  | exact LeO.none _
  | refine LeO.ite ?_ ?_
  | refine LeO.bind ?_ (fun _ => ?_)
set_option maxHeartbeats 8000000 in
set_option maxRecDepth 100000 in
theorem impl_convex.calls (k : Nat) (A0 : Option Addr) (c0 : Nat) (l0 : List (List Int)) (r : Bool) (w : World) (hr0 : Kd.C (Kd.slice 3 (Kd.int .i64)) w A0 l0.length l0) (hc0 : l0.length ≤ c0) (h : impl_convex.f k l0 = some r) :
 Calls Try.prog 18 #[.slice A0 l0.length c0] w fun e w' => e = .returned (.bool r) ∧ Drawn0 w w' := by
 have HR0 := Aside0.mk hr0
 have HC0 := Aside0.mk hc0
 clear hr0 hc0
 have H : (impl_convex.l0 k l0 0 l0 (l0.length : Int) 0) = some r := h
 clear h
 have H' := Aside0.mk H
 clear H
 go_enter Try.func18, Try.ntmps18
 go_wp2
 repeat (go_quiet (fail); try go_wp2)
 go_loopg [3, 10] k (fun kq v3 v10 w' => ∃ (x3_1 : Int) (x10_1 : Int), v3 = .int .i64 x3_1 ∧ v10 = .int .i64 x10_1 ∧ Aside0 (impl_convex.l0 kq l0 x3_1 l0 (l0.length : Int) x10_1 = some r) ∧ Aside0 (kq ≤ k) ∧ Drawn0 w w')
 case atStart => exact ⟨(0), (0), (by first | rfl | (simp; done) | (simp [*]; done)), (by first | rfl | (simp; done) | (simp [*]; done)), H', ⟨Nat.le_refl _⟩, by repeat (first | exact Drawn0.refl _ | apply Drawn0.step)⟩
 case round =>
  clear H'
  try clear c1
  obtain ⟨x3_1, x10_1, rfl, rfl, HA, HK1, ⟨m1, rfl⟩⟩ := hrel
  cases gk with
  | zero => exact absurd HA.out (by simp [impl_convex.l0])
  | succ k1 =>
   have H := HA.out
   clear HA
   simp only [impl_convex.l0] at H
   by_cases c2 : x10_1 < (l0.length : Int)
   ·rw [if_pos c2] at H
    have c2b0 : decide (x10_1 < (l0.length : Int)) = true := decide_eq_true c2
    clear c2
    by_cases c3 : 0 ≤ x10_1
    ·rw [if_pos c3] at H
     have c3b0 : decide (0 ≤ x10_1) = true := decide_eq_true c3
     clear c3
     by_cases c4 : x10_1 < (l0.length : Int)
     ·rw [if_pos c4] at H
      have c4b0 : decide (x10_1 < (l0.length : Int)) = true := decide_eq_true c4
      clear c4
      by_cases c5 : (l0.length : Int) = 0
      ·rw [if_pos c5] at H
       exact absurd H (by simp)
      ·rw [if_neg c5] at H
       have c5b0 : ((l0.length : Int) == 0) = false := beq_eq_false_iff_ne.mpr c5
       have c5b1 : ((l0.length : Int) != 0) = true := bne_iff_ne.mpr c5
       have c5b2 : ¬ (l0 = []) := fun h_ => c5 (by rw [h_]; rfl)
       obtain ⟨ji6, hji6⟩ : ∃ j_ : Int, (Int.tmod (wrap64 (x10_1 + 1)) (l0.length : Int)) = j_ := ⟨_, rfl⟩
       replace H : (if 0 ≤ (ji6) then (if (ji6) < (l0.length : Int) then ((impl_cross.f (rd_L2 l0 x10_1) (rd_L2 l0 (ji6))).bind fun t279 => (if t279 < 0 then (impl_convex.j1 k1 l0 x3_1 (rd_L2 l0 x10_1) (rd_L2 l0 (ji6)) l0 (l0.length : Int) x10_1 true) else (if t279 = 0 then (if 0 < ((rd_L2 l0 x10_1).length : Int) then (if 0 < ((rd_L2 l0 (ji6)).length : Int) then (if 1 < ((rd_L2 l0 x10_1).length : Int) then (if 1 < ((rd_L2 l0 (ji6)).length : Int) then (impl_convex.j1 k1 l0 x3_1 (rd_L2 l0 x10_1) (rd_L2 l0 (ji6)) l0 (l0.length : Int) x10_1 (decide ((wrap64 ((wrap64 ((rd (rd_L2 l0 x10_1) 0) * (rd (rd_L2 l0 (ji6)) 0))) + (wrap64 ((rd (rd_L2 l0 x10_1) 1) * (rd (rd_L2 l0 (ji6)) 1))))) < 0))) else (none)) else (none)) else (none)) else (none)) else (impl_convex.j1 k1 l0 x3_1 (rd_L2 l0 x10_1) (rd_L2 l0 (ji6)) l0 (l0.length : Int) x10_1 false)))) else (none)) else (none)) = some r := by first | (rw [hji6] at H; exact H) | (simp only [hji6] at H ⊢; exact H)
       by_cases c7 : 0 ≤ (ji6)
       ·rw [if_pos c7] at H
        have c7b0 : decide (0 ≤ (ji6)) = true := decide_eq_true c7
        clear c7
        by_cases c8 : (ji6) < (l0.length : Int)
        ·rw [if_pos c8] at H
         have c8b0 : decide ((ji6) < (l0.length : Int)) = true := decide_eq_true c8
         clear c8
         replace H := Option.bind_eq_some_iff.mp H
         obtain ⟨t279, A90, H⟩ := H
         replace H : (if t279 < 0 then (impl_convex.j1 k1 l0 x3_1 (rd_L2 l0 x10_1) (rd_L2 l0 (ji6)) l0 (l0.length : Int) x10_1 true) else (if t279 = 0 then (if 0 < ((rd_L2 l0 x10_1).length : Int) then (if 0 < ((rd_L2 l0 (ji6)).length : Int) then (if 1 < ((rd_L2 l0 x10_1).length : Int) then (if 1 < ((rd_L2 l0 (ji6)).length : Int) then (impl_convex.j1 k1 l0 x3_1 (rd_L2 l0 x10_1) (rd_L2 l0 (ji6)) l0 (l0.length : Int) x10_1 (decide ((wrap64 ((wrap64 ((rd (rd_L2 l0 x10_1) 0) * (rd (rd_L2 l0 (ji6)) 0))) + (wrap64 ((rd (rd_L2 l0 x10_1) 1) * (rd (rd_L2 l0 (ji6)) 1))))) < 0))) else (none)) else (none)) else (none)) else (none)) else (impl_convex.j1 k1 l0 x3_1 (rd_L2 l0 x10_1) (rd_L2 l0 (ji6)) l0 (l0.length : Int) x10_1 false))) = some r := H
         have A9 := Aside0.mk A90
         clear A90
         have HC10 := Aside0.mk H
         clear H
         have p277 : 0 ≤ (x10_1 : Int) := of_decide_eq_true (by first | (with_reducible assumption) | assumption)
         have q277 : x10_1 < (l0.length : Int) := of_decide_eq_true (by first | (with_reducible assumption) | assumption)
         obtain ⟨ad277, A277_0, c277_0, e277, hx277_0, hl277_0, hi277_0⟩ := at_L2 HR0.out x10_1 p277 q277
         cases e277
         have HR277_0 := Aside0.mk hi277_0
         have HC277_0 := Aside0.mk hl277_0
         clear hi277_0 hl277_0
         replace p277 := eq_true p277
         replace q277 := eq_true q277
         have p278 : 0 ≤ ((ji6) : Int) := of_decide_eq_true (by first | (with_reducible assumption) | assumption)
         have q278 : (ji6) < (l0.length : Int) := of_decide_eq_true (by first | (with_reducible assumption) | assumption)
         obtain ⟨ad278, A278_0, c278_0, e278, hx278_0, hl278_0, hi278_0⟩ := at_L2 HR0.out (ji6) p278 q278
         obtain rfl : ad277 = ad278 := (by injection e278)
         have HR278_0 := Aside0.mk hi278_0
         have HC278_0 := Aside0.mk hl278_0
         clear hi278_0 hl278_0
         replace p278 := eq_true p278
         replace q278 := eq_true q278
         go_upto_region 7 with (first | (go_at_call 37; (with_reducible refine (impl_cross.calls _ _ (rd_L2 l0 x10_1) _ _ (rd_L2 l0 (ji6)) t279 _ ?side1 ?side2 ?side3 ?side4 A9.out).mono ?_); (case side1 => repeat (first | exact HR277_0.out | (with_reducible refine Kd.C_alloc ?_ _) | (with_reducible refine Kd.C_drewN ?_ _) | (with_reducible refine Kd.C_drew ?_))); (case side2 => exact HC277_0.out); (case side3 => repeat (first | exact HR278_0.out | (with_reducible refine Kd.C_alloc ?_ _) | (with_reducible refine Kd.C_drewN ?_ _) | (with_reducible refine Kd.C_drew ?_))); (case side4 => exact HC278_0.out); rintro e w' ⟨rfl, ⟨nd, rfl⟩⟩; (try first | exact ⟨rfl, _, World.drewN_drewN _ _ _⟩ | exact ⟨rfl, _, Eq.trans (World.drewN_drewN _ _ _) (congrArg (World.drewN _) (Nat.add_assoc _ _ _))⟩)))
         repeat (go_quiet (first | (go_at_call 37; (with_reducible refine (impl_cross.calls _ _ (rd_L2 l0 x10_1) _ _ (rd_L2 l0 (ji6)) t279 _ ?side1 ?side2 ?side3 ?side4 A9.out).mono ?_); (case side1 => repeat (first | exact HR277_0.out | (with_reducible refine Kd.C_alloc ?_ _) | (with_reducible refine Kd.C_drewN ?_ _) | (with_reducible refine Kd.C_drew ?_))); (case side2 => exact HC277_0.out); (case side3 => repeat (first | exact HR278_0.out | (with_reducible refine Kd.C_alloc ?_ _) | (with_reducible refine Kd.C_drewN ?_ _) | (with_reducible refine Kd.C_drew ?_))); (case side4 => exact HC278_0.out); rintro e w' ⟨rfl, ⟨nd, rfl⟩⟩; (try first | exact ⟨rfl, _, World.drewN_drewN _ _ _⟩ | exact ⟨rfl, _, Eq.trans (World.drewN_drewN _ _ _) (congrArg (World.drewN _) (Nat.add_assoc _ _ _))⟩))); go_upto_region 7 with (first | (go_at_call 37; (with_reducible refine (impl_cross.calls _ _ (rd_L2 l0 x10_1) _ _ (rd_L2 l0 (ji6)) t279 _ ?side1 ?side2 ?side3 ?side4 A9.out).mono ?_); (case side1 => repeat (first | exact HR277_0.out | (with_reducible refine Kd.C_alloc ?_ _) | (with_reducible refine Kd.C_drewN ?_ _) | (with_reducible refine Kd.C_drew ?_))); (case side2 => exact HC277_0.out); (case side3 => repeat (first | exact HR278_0.out | (with_reducible refine Kd.C_alloc ?_ _) | (with_reducible refine Kd.C_drewN ?_ _) | (with_reducible refine Kd.C_drew ?_))); (case side4 => exact HC278_0.out); rintro e w' ⟨rfl, ⟨nd, rfl⟩⟩; (try first | exact ⟨rfl, _, World.drewN_drewN _ _ _⟩ | exact ⟨rfl, _, Eq.trans (World.drewN_drewN _ _ _) (congrArg (World.drewN _) (Nat.add_assoc _ _ _))⟩))))
         (try simp only [Act.put, List.setIfInBounds_toArray, List.set_cons_zero, List.set_cons_succ])
         go_cut [49] (fun v49 wc => ∃ (kq : Nat) (x49_9 : Bool), v49 = .bool x49_9 ∧ Aside0 (impl_convex.j1 kq l0 x3_1 (rd_L2 l0 x10_1) (rd_L2 l0 (ji6)) l0 (l0.length : Int) x10_1 x49_9 = some r) ∧ Aside0 (kq ≤ k1) ∧ Drawn0 w wc)
         case first =>
          have H := HC10.out
          clear HC10
          by_cases c11 : t279 < 0
          ·rw [if_pos c11] at H
           have c11b0 : decide (t279 < 0) = true := decide_eq_true c11
           clear c11
           (first | rw [c11b0] | (simp only [i64_w, i32_w]; rw [c11b0]) | skip)
           have H' := Aside0.mk H
           clear H
           go_wp2
           repeat (go_quiet (fail); try go_wp2)
           go_meet
           case rel => exact ⟨_, (true), (by first | rfl | (simp; done) | (simp [*]; done)), H', ⟨by have := HK1.out; first | omega | exact Nat.le_refl _⟩, by repeat (first | exact Drawn0.refl _ | apply Drawn0.step)⟩
          ·rw [if_neg c11] at H
           have c11b0 : decide (t279 < 0) = false := decide_eq_false c11
           clear c11
           (first | rw [c11b0] | (simp only [i64_w, i32_w]; rw [c11b0]) | skip)
           by_cases c12 : t279 = 0
           ·rw [if_pos c12] at H
            have c12b0 : (t279 == 0) = true := beq_iff_eq.mpr c12
            have c12b1 : (t279 != 0) = false := bne_eq_false_iff_eq.mpr c12
            clear c12
            by_cases c13 : 0 < ((rd_L2 l0 x10_1).length : Int)
            ·rw [if_pos c13] at H
             have c13b0 : decide (0 < ((rd_L2 l0 x10_1).length : Int)) = true := decide_eq_true c13
             have c13b1 : decide (0 < (rd_L2 l0 x10_1).length) = true := decide_eq_true (by omega)
             clear c13
             by_cases c14 : 0 < ((rd_L2 l0 (ji6)).length : Int)
             ·rw [if_pos c14] at H
              have c14b0 : decide (0 < ((rd_L2 l0 (ji6)).length : Int)) = true := decide_eq_true c14
              have c14b1 : decide (0 < (rd_L2 l0 (ji6)).length) = true := decide_eq_true (by omega)
              clear c14
              by_cases c15 : 1 < ((rd_L2 l0 x10_1).length : Int)
              ·rw [if_pos c15] at H
               have c15b0 : decide (1 < ((rd_L2 l0 x10_1).length : Int)) = true := decide_eq_true c15
               have c15b1 : decide (1 < (rd_L2 l0 x10_1).length) = true := decide_eq_true (by omega)
               clear c15
               by_cases c16 : 1 < ((rd_L2 l0 (ji6)).length : Int)
               ·rw [if_pos c16] at H
                have c16b0 : decide (1 < ((rd_L2 l0 (ji6)).length : Int)) = true := decide_eq_true c16
                have c16b1 : decide (1 < (rd_L2 l0 (ji6)).length) = true := decide_eq_true (by omega)
                clear c16
                have H' := Aside0.mk H
                clear H
                have p280 : 0 ≤ (0 : Int) := (by omega)
                have q280 : 0 < ((rd_L2 l0 x10_1).length : Int) := of_decide_eq_true (by first | (with_reducible assumption) | assumption)
                obtain ⟨ad280, e280, hx280_0⟩ := Kd.at_int HR277_0.out 0 p280 q280
                cases e280
                have qi280 : (0 < (rd_L2 l0 x10_1).length) = True := eq_true (by omega)
                (try rw [show ((0 : Int)).toNat = 0 from rfl] at hx280_0)
                (try rw [Addr.add_zero'] at hx280_0)
                replace p280 := eq_true p280
                replace q280 := eq_true q280
                have p281 : 0 ≤ (0 : Int) := (by omega)
                have q281 : 0 < ((rd_L2 l0 (ji6)).length : Int) := of_decide_eq_true (by first | (with_reducible assumption) | assumption)
                obtain ⟨ad281, e281, hx281_0⟩ := Kd.at_int HR278_0.out 0 p281 q281
                cases e281
                have qi281 : (0 < (rd_L2 l0 (ji6)).length) = True := eq_true (by omega)
                (try rw [show ((0 : Int)).toNat = 0 from rfl] at hx281_0)
                (try rw [Addr.add_zero'] at hx281_0)
                replace p281 := eq_true p281
                replace q281 := eq_true q281
                have p282 : 0 ≤ (1 : Int) := (by omega)
                have q282 : 1 < ((rd_L2 l0 x10_1).length : Int) := of_decide_eq_true (by first | (with_reducible assumption) | assumption)
                obtain ⟨ad282, e282, hx282_0⟩ := Kd.at_int HR277_0.out 1 p282 q282
                obtain rfl : ad280 = ad282 := (by injection e282)
                (try simp only [show (1 : Int).toNat = 1 from rfl, Nat.reduceMul, Nat.reduceEqDiff, Go.Addr.add, ↓reduceIte] at hx282_0)
                have qi282 : (1 < (rd_L2 l0 x10_1).length) = True := eq_true (by omega)
                (try rw [show ((1 : Int)).toNat = 1 from rfl] at hx282_0)
                replace p282 := eq_true p282
                replace q282 := eq_true q282
                have p283 : 0 ≤ (1 : Int) := (by omega)
                have q283 : 1 < ((rd_L2 l0 (ji6)).length : Int) := of_decide_eq_true (by first | (with_reducible assumption) | assumption)
                obtain ⟨ad283, e283, hx283_0⟩ := Kd.at_int HR278_0.out 1 p283 q283
                obtain rfl : ad281 = ad283 := (by injection e283)
                (try simp only [show (1 : Int).toNat = 1 from rfl, Nat.reduceMul, Nat.reduceEqDiff, Go.Addr.add, ↓reduceIte] at hx283_0)
                have qi283 : (1 < (rd_L2 l0 (ji6)).length) = True := eq_true (by omega)
                (try rw [show ((1 : Int)).toNat = 1 from rfl] at hx283_0)
                replace p283 := eq_true p283
                replace q283 := eq_true q283
                go_wp2
                repeat (go_quiet (fail); try go_wp2)
                go_meet
                case rel => exact ⟨_, (decide ((wrap64 ((wrap64 ((rd (rd_L2 l0 x10_1) 0) * (rd (rd_L2 l0 (ji6)) 0))) + (wrap64 ((rd (rd_L2 l0 x10_1) 1) * (rd (rd_L2 l0 (ji6)) 1))))) < 0)), (by first | rfl | (simp; done) | (simp only [← hji6] <;> (first | rfl | simp)) | (simp [*]; done)), H', ⟨by have := HK1.out; first | omega | exact Nat.le_refl _⟩, by repeat (first | exact Drawn0.refl _ | apply Drawn0.step)⟩
               ·rw [if_neg c16] at H
                exact absurd H (by simp)
              ·rw [if_neg c15] at H
               exact absurd H (by simp)
             ·rw [if_neg c14] at H
              exact absurd H (by simp)
            ·rw [if_neg c13] at H
             exact absurd H (by simp)
           ·rw [if_neg c12] at H
            have c12b0 : (t279 == 0) = false := beq_eq_false_iff_ne.mpr c12
            have c12b1 : (t279 != 0) = true := bne_iff_ne.mpr c12
            have H' := Aside0.mk H
            clear H
            go_wp2
            repeat (go_quiet (fail); try go_wp2)
            go_meet
            case rel => exact ⟨_, (false), (by first | rfl | (simp; done) | (simp [*]; done)), H', ⟨by have := HK1.out; first | omega | exact Nat.le_refl _⟩, by repeat (first | exact Drawn0.refl _ | apply Drawn0.step)⟩
         case rest =>
          clear HC10
          try clear c1
          try clear c2
          try clear c2b0
          try clear p2
          try clear q2
          try clear hx2
          try clear qi2
          try clear c3
          try clear c3b0
          try clear c4
          try clear c4b0
          try clear c5
          try clear c5b0
          try clear c5b1
          try clear c5b2
          try clear p6
          try clear c7
          try clear c7b0
          try clear c8
          try clear c8b0
          try clear c11
          try clear c11b0
          try clear c12
          try clear c12b0
          try clear c12b1
          try clear c13
          try clear c13b0
          try clear c13b1
          try clear c14
          try clear c14b0
          try clear c14b1
          try clear c15
          try clear c15b0
          try clear c15b1
          try clear c16
          try clear c16b0
          try clear c16b1
          try clear hx277_0
          try clear hx278_0
          try clear hx280_0
          try clear hx281_0
          try clear hx282_0
          try clear hx283_0
          try clear p277
          try clear p278
          try clear p280
          try clear p281
          try clear p282
          try clear p283
          try clear q277
          try clear q278
          try clear q280
          try clear q281
          try clear q282
          try clear q283
          obtain ⟨kq, x49_9, rfl, HA, HJ9, ⟨mc9, rfl⟩⟩ := hcut
          cases kq with
          | zero => exact absurd HA.out (by simp [impl_convex.j1])
          | succ kj9 =>
           have H := HA.out
           clear HA
           simp only [impl_convex.j1] at H
           by_cases c17 : x49_9 = true
           ·subst c17
            have H1 : (some false) = some r := by rw [if_pos rfl] at H; exact H
            clear H
            have H := H1
            clear H1
            obtain rfl := Option.some.inj H
            go_wp2
            repeat (go_quiet (fail); try go_wp2)
            go_ret
            exact ⟨by first | rfl | (simp; done) | (simp only [← hji6] <;> (first | rfl | simp)) | (simp [*]; done), by repeat (first | exact Drawn0.refl _ | apply Drawn0.step)⟩
           ·replace c17 := Bool.eq_false_iff.mpr c17
            subst c17
            have H1 : ((impl_compareSteps.f (rd_L2 l0 x10_1) (rd_L2 l0 (ji6))).bind fun t284 => (if t284 > 0 then (impl_convex.l0 kj9 l0 (wrap64 (x3_1 + 1)) l0 (l0.length : Int) (wrap64 (x10_1 + 1))) else (impl_convex.l0 kj9 l0 x3_1 l0 (l0.length : Int) (wrap64 (x10_1 + 1))))) = some r := by rw [if_neg (show ¬ (false = true) by decide)] at H; exact H
            clear H
            have H := H1
            clear H1
            replace H := Option.bind_eq_some_iff.mp H
            obtain ⟨t284, A180, H⟩ := H
            replace H : (if t284 > 0 then (impl_convex.l0 kj9 l0 (wrap64 (x3_1 + 1)) l0 (l0.length : Int) (wrap64 (x10_1 + 1))) else (impl_convex.l0 kj9 l0 x3_1 l0 (l0.length : Int) (wrap64 (x10_1 + 1)))) = some r := H
            have A18 := Aside0.mk A180
            clear A180
            by_cases c19 : t284 > 0
            ·rw [if_pos c19] at H
             have c19b0 : decide (0 < t284) = true := decide_eq_true c19
             clear c19
             have H' := Aside0.mk H
             clear H
             go_wp2_with (first | (go_at_call 29; (with_reducible refine (impl_compareSteps.calls _ _ (rd_L2 l0 x10_1) _ _ (rd_L2 l0 (ji6)) t284 _ ?side1 ?side2 ?side3 ?side4 A18.out).mono ?_); (case side1 => repeat (first | exact HR277_0.out | (with_reducible refine Kd.C_alloc ?_ _) | (with_reducible refine Kd.C_drewN ?_ _) | (with_reducible refine Kd.C_drew ?_))); (case side2 => exact HC277_0.out); (case side3 => repeat (first | exact HR278_0.out | (with_reducible refine Kd.C_alloc ?_ _) | (with_reducible refine Kd.C_drewN ?_ _) | (with_reducible refine Kd.C_drew ?_))); (case side4 => exact HC278_0.out); rintro e w' ⟨rfl, ⟨nd, rfl⟩⟩; (try first | exact ⟨rfl, _, World.drewN_drewN _ _ _⟩ | exact ⟨rfl, _, Eq.trans (World.drewN_drewN _ _ _) (congrArg (World.drewN _) (Nat.add_assoc _ _ _))⟩)))
             repeat (go_quiet (first | (go_at_call 29; (with_reducible refine (impl_compareSteps.calls _ _ (rd_L2 l0 x10_1) _ _ (rd_L2 l0 (ji6)) t284 _ ?side1 ?side2 ?side3 ?side4 A18.out).mono ?_); (case side1 => repeat (first | exact HR277_0.out | (with_reducible refine Kd.C_alloc ?_ _) | (with_reducible refine Kd.C_drewN ?_ _) | (with_reducible refine Kd.C_drew ?_))); (case side2 => exact HC277_0.out); (case side3 => repeat (first | exact HR278_0.out | (with_reducible refine Kd.C_alloc ?_ _) | (with_reducible refine Kd.C_drewN ?_ _) | (with_reducible refine Kd.C_drew ?_))); (case side4 => exact HC278_0.out); rintro e w' ⟨rfl, ⟨nd, rfl⟩⟩; (try first | exact ⟨rfl, _, World.drewN_drewN _ _ _⟩ | exact ⟨rfl, _, Eq.trans (World.drewN_drewN _ _ _) (congrArg (World.drewN _) (Nat.add_assoc _ _ _))⟩))); try go_wp2_with (first | (go_at_call 29; (with_reducible refine (impl_compareSteps.calls _ _ (rd_L2 l0 x10_1) _ _ (rd_L2 l0 (ji6)) t284 _ ?side1 ?side2 ?side3 ?side4 A18.out).mono ?_); (case side1 => repeat (first | exact HR277_0.out | (with_reducible refine Kd.C_alloc ?_ _) | (with_reducible refine Kd.C_drewN ?_ _) | (with_reducible refine Kd.C_drew ?_))); (case side2 => exact HC277_0.out); (case side3 => repeat (first | exact HR278_0.out | (with_reducible refine Kd.C_alloc ?_ _) | (with_reducible refine Kd.C_drewN ?_ _) | (with_reducible refine Kd.C_drew ?_))); (case side4 => exact HC278_0.out); rintro e w' ⟨rfl, ⟨nd, rfl⟩⟩; (try first | exact ⟨rfl, _, World.drewN_drewN _ _ _⟩ | exact ⟨rfl, _, Eq.trans (World.drewN_drewN _ _ _) (congrArg (World.drewN _) (Nat.add_assoc _ _ _))⟩))))
             go_roundg kj9
             case measure => have := HK1.out; have := HJ9.out; omega
             case rel => exact ⟨(wrap64 (x3_1 + 1)), (wrap64 (x10_1 + 1)), (by first | rfl | (simp; done) | (simp [*]; done)), (by first | rfl | (simp; done) | (simp [*]; done)), H', ⟨by have := HK1.out; have := HJ9.out; omega⟩, by repeat (first | exact Drawn0.refl _ | apply Drawn0.step)⟩
            ·rw [if_neg c19] at H
             have c19b0 : decide (0 < t284) = false := decide_eq_false c19
             clear c19
             have H' := Aside0.mk H
             clear H
             go_wp2_with (first | (go_at_call 29; (with_reducible refine (impl_compareSteps.calls _ _ (rd_L2 l0 x10_1) _ _ (rd_L2 l0 (ji6)) t284 _ ?side1 ?side2 ?side3 ?side4 A18.out).mono ?_); (case side1 => repeat (first | exact HR277_0.out | (with_reducible refine Kd.C_alloc ?_ _) | (with_reducible refine Kd.C_drewN ?_ _) | (with_reducible refine Kd.C_drew ?_))); (case side2 => exact HC277_0.out); (case side3 => repeat (first | exact HR278_0.out | (with_reducible refine Kd.C_alloc ?_ _) | (with_reducible refine Kd.C_drewN ?_ _) | (with_reducible refine Kd.C_drew ?_))); (case side4 => exact HC278_0.out); rintro e w' ⟨rfl, ⟨nd, rfl⟩⟩; (try first | exact ⟨rfl, _, World.drewN_drewN _ _ _⟩ | exact ⟨rfl, _, Eq.trans (World.drewN_drewN _ _ _) (congrArg (World.drewN _) (Nat.add_assoc _ _ _))⟩)))
             repeat (go_quiet (first | (go_at_call 29; (with_reducible refine (impl_compareSteps.calls _ _ (rd_L2 l0 x10_1) _ _ (rd_L2 l0 (ji6)) t284 _ ?side1 ?side2 ?side3 ?side4 A18.out).mono ?_); (case side1 => repeat (first | exact HR277_0.out | (with_reducible refine Kd.C_alloc ?_ _) | (with_reducible refine Kd.C_drewN ?_ _) | (with_reducible refine Kd.C_drew ?_))); (case side2 => exact HC277_0.out); (case side3 => repeat (first | exact HR278_0.out | (with_reducible refine Kd.C_alloc ?_ _) | (with_reducible refine Kd.C_drewN ?_ _) | (with_reducible refine Kd.C_drew ?_))); (case side4 => exact HC278_0.out); rintro e w' ⟨rfl, ⟨nd, rfl⟩⟩; (try first | exact ⟨rfl, _, World.drewN_drewN _ _ _⟩ | exact ⟨rfl, _, Eq.trans (World.drewN_drewN _ _ _) (congrArg (World.drewN _) (Nat.add_assoc _ _ _))⟩))); try go_wp2_with (first | (go_at_call 29; (with_reducible refine (impl_compareSteps.calls _ _ (rd_L2 l0 x10_1) _ _ (rd_L2 l0 (ji6)) t284 _ ?side1 ?side2 ?side3 ?side4 A18.out).mono ?_); (case side1 => repeat (first | exact HR277_0.out | (with_reducible refine Kd.C_alloc ?_ _) | (with_reducible refine Kd.C_drewN ?_ _) | (with_reducible refine Kd.C_drew ?_))); (case side2 => exact HC277_0.out); (case side3 => repeat (first | exact HR278_0.out | (with_reducible refine Kd.C_alloc ?_ _) | (with_reducible refine Kd.C_drewN ?_ _) | (with_reducible refine Kd.C_drew ?_))); (case side4 => exact HC278_0.out); rintro e w' ⟨rfl, ⟨nd, rfl⟩⟩; (try first | exact ⟨rfl, _, World.drewN_drewN _ _ _⟩ | exact ⟨rfl, _, Eq.trans (World.drewN_drewN _ _ _) (congrArg (World.drewN _) (Nat.add_assoc _ _ _))⟩))))
             go_roundg kj9
             case measure => have := HK1.out; have := HJ9.out; omega
             case rel => exact ⟨(x3_1), (wrap64 (x10_1 + 1)), (by first | rfl | (simp; done) | (simp [*]; done)), (by first | rfl | (simp; done) | (simp [*]; done)), H', ⟨by have := HK1.out; have := HJ9.out; omega⟩, by repeat (first | exact Drawn0.refl _ | apply Drawn0.step)⟩
        ·rw [if_neg c8] at H
         exact absurd H (by simp)
       ·rw [if_neg c7] at H
        exact absurd H (by simp)
     ·rw [if_neg c4] at H
      exact absurd H (by simp)
    ·rw [if_neg c3] at H
     exact absurd H (by simp)
   ·rw [if_neg c2] at H
    have c2b0 : decide (x10_1 < (l0.length : Int)) = false := decide_eq_false c2
    clear c2
    obtain rfl := Option.some.inj H
    go_wp2
    repeat (go_quiet (fail); try go_wp2)
    go_ret
    exact ⟨by first | rfl | (simp; done) | (simp [*]; done), by repeat (first | exact Drawn0.refl _ | apply Drawn0.step)⟩

/-! ### slices_Clone_int_int_38: function 38 -/
def slices_Clone_int_int_38.f (l0 : List (List Int)) : Option ((List (List Int))) := (some (([] : List (List Int)) : List (List Int))).bind fun y285 => (if y285.length + l0.length < 5864062014805 then (some (y285 ++ l0)) else (none))
set_option maxHeartbeats 8000000 in
set_option maxRecDepth 100000 in
theorem slices_Clone_int_int_38.calls (P0_ : Nat → Prop) (A0 : Option Addr) (c0 : Nat) (l0 : List (List Int)) (r : List (List Int)) (w : World) (hs0 : Kd.V (Kd.slice 3 (Kd.int .i64)) 41 w w.heap.size (fun k_ => P0_ k_) (.slice A0 l0.length c0) l0) (h : slices_Clone_int_int_38.f l0 = some r) :
 Calls Try.prog 38 #[.slice A0 l0.length c0] w fun e w' => ∃ v0_ : Value, e = .returned (v0_) ∧ Kd.N (Kd.slice 3 (Kd.int .i64)) 41 w' w.heap.size (fun k_ => (P0_ k_ ∨ w.heap.size ≤ k_)) v0_ r ∧ Below w.heap.size w w' := by
 by_cases hn_ : A0 = none
 ·subst hn_
  have hC_ : Kd.C (Kd.slice 3 (Kd.int .i64)) w none l0.length l0 := by obtain ⟨A_, c_, e_, _, hf_⟩ := hs0; injection e_ with e1_ _ _; subst e1_; exact Kd.F_now hf_
  obtain rfl : l0 = [] := by
   rcases Nat.eq_zero_or_pos l0.length with h0 | h0
   ·exact List.eq_nil_of_length_eq_zero h0
   ·obtain ⟨ad, h, _⟩ := hC_.2.2 h0
    cases h
  obtain rfl : r = [] := by
   have h2_ : slices_Clone_int_int_38.f [] = some [] := by decide
   rw [h2_] at h
   exact (Option.some.inj h).symm
  clear hC_ h hs0
  have he_ := fun W : World => Lib.run_eql_slice_nil (P := Try.prog) W 23 41 none 0 c0 0 0 Try.underlying23
  go_enter Try.func38, Try.ntmps38
  go_wp2
  go_ret
  exact ⟨_, rfl, Kd.N_nil _ _ _ _ _, Below.refl _ _⟩
 have he_ : ∀ W : World, (binOp .eql 23 (.slice A0 l0.length c0) (.slice none 0 0)).run Try.prog W = .ok (.bool false) W := fun W => by
  rw [Lib.run_eql_slice_nil (P := Try.prog) W 23 41 A0 l0.length c0 0 0 Try.underlying23]
  cases A0 with
  | none => exact absurd rfl hn_
  | some a => rfl
 clear hn_
 have HO0 := Aside0.mk (show Kd.V (Kd.slice 3 (Kd.int .i64)) 41 w w.heap.size (fun k_ => (P0_ k_ ∨ w.heap.size ≤ k_)) (.slice A0 l0.length c0) l0 from Kd.V_mono hs0 (fun k_ hk => .inl hk))
 have HB := Aside0.mk (Below.refl w.heap.size w)
 have H : ((some (([] : List (List Int)) : List (List Int))).bind fun y285 => (if y285.length + l0.length < 5864062014805 then (some (y285 ++ l0)) else (none))) = some r := h
 clear h
 obtain ⟨y285, hy285⟩ : ∃ y_ : List (List Int), y_ = (([] : List (List Int))) := ⟨_, rfl⟩
 replace H : (if y285.length + l0.length < 5864062014805 then (some (y285 ++ l0)) else (none)) = some r := by first | (rw [hy285]; with_reducible exact H) | (have H2_ := (Option.bind_some _ _).symm.trans H; rw [hy285]; with_reducible exact H2_) | (have H2_ := (Option.bind_some _ _).symm.trans H; with_reducible exact H2_) | with_reducible exact H | (rw [hy285]; exact H) | exact H
 have Ny285 := Aside0.mk hy285
 clear hy285
 by_cases c2 : y285.length + l0.length < 5864062014805
 ·rw [if_pos c2] at H
  have LMc2 := Aside0.mk c2
  clear c2
  obtain ⟨y288, hy288⟩ : ∃ y_ : List (List Int), y_ = (y285 ++ l0) := ⟨_, rfl⟩
  replace H : (some y288) = some r := by first | (rw [hy288]; with_reducible exact H) | (have H2_ := (Option.bind_some _ _).symm.trans H; rw [hy288]; with_reducible exact H2_) | (have H2_ := (Option.bind_some _ _).symm.trans H; with_reducible exact H2_) | with_reducible exact H | (rw [hy288]; exact H) | exact H
  have Ny288 := Aside0.mk hy288
  clear hy288
  obtain rfl := Option.some.inj H
  go_enter Try.func38, Try.ntmps38
  go_wp2_with (first | ((with_reducible refine gate_dst (N := 5) rfl ?_); refine Kd.N_lit (Kd.slice 3 (Kd.int .i64)) _ 41 ?hg (N' := 5) ?hd (xs := ([] : List (List Int))) (inner := []) (ok := (fun k_ => (P0_ k_ ∨ w.heap.size ≤ k_))) (okp := (fun k_ => (P0_ k_ ∨ w.heap.size ≤ k_))) ?hr ?hp (fun _ hk => hk) ((show ∀ k_, w.heap.size ≤ k_ → (fun k_ => (P0_ k_ ∨ w.heap.size ≤ k_)) k_ from fun k_ hk => (.inr (Nat.le_trans (below_size (by repeat (first | (with_reducible first | exact HB.out | apply below_alloc | apply pw_below_drewN | apply below_drew1) | exact HB.out))) hk))) _ (Nat.le_refl _)) (Below.refl _ _) (Nat.le_refl _) (by simp) ?_; (case hd => rfl); (case hg => rfl); (case hr => first | (go_simp; done) | (go_simp; rfl)); (case hp => exact (Reps.none _ _)); intro v286 w3 ho4 hb hg_ hnew_; clear hg_ hnew_; (first | rw [← Ny285.out] at ho4 | (simp only [Int.reduceToNat] at ho4; rw [← Ny285.out] at ho4)); have n0_ := Aside0.mk (Kd.V_elder' (by (with_reducible repeat (first | apply Kd.V_alloc | apply Kd.V_drewN | apply Kd.V_drew)); exact HO0.out) (by first | exact Kd.N_base ho4 | exact Kd.S_base ho4 | exact Kd.R_base ho4) hb); have n1_ := Aside0.mk (Kd.N_lower ho4 (below_size (by repeat (first | (with_reducible first | exact HB.out | apply below_alloc | apply pw_below_drewN | apply below_drew1) | exact HB.out)))); have n2_ := Aside0.mk (below_step (by repeat (first | (with_reducible first | exact HB.out | apply below_alloc | apply pw_below_drewN | apply below_drew1) | exact HB.out)) hb); clear HO0; clear HB; have HO0 := n0_; have HO287 := n1_; have HB := n2_; clear n0_ n1_ n2_; clear hb ho4) | ((with_reducible refine gate_builtin (b := .append) (xs := #[.tmp 5, .tmp 6]) rfl ?_); at_builtin; refine Kd.N_append_rows (Kd.slice 3 (Kd.int .i64)) (w0 := w) w.heap.size rfl (.tmp 5) (.tmp 6) 23 41 (.slice none 0 0) 24 rfl Try.underlying23 info41 rfl (by decide) (by omega) v286 y285 l0 _ _ _ (fun k_ => (P0_ k_ ∨ w.heap.size ≤ k_)) (fun k_ => ((fun k_ => (P0_ k_ ∨ w.heap.size ≤ k_))) k_ ∧ some k_ ≠ (v286 : Value).ownBlock) rfl rfl ?aO ?aR (fun _ hk => hk) ?aF ?aB ?aS ?aL ?_; (case aR => exact (by skip; exact Kd.V_F (Kd.V_mono (ok' := (fun k_ => ((fun k_ => (P0_ k_ ∨ w.heap.size ≤ k_))) k_ ∧ some k_ ≠ (v286 : Value).ownBlock)) (HO0.out) (fun k_ hk => ⟨hk.1, hk.2⟩)))); (case aB => exact (by repeat (first | (with_reducible first | exact HB.out | apply below_alloc | apply pw_below_drewN | apply below_drew1) | exact HB.out))); (case aF => exact (fun k_ hk => (.inr (Nat.le_trans (below_size (by repeat (first | (with_reducible first | exact HB.out | apply below_alloc | apply pw_below_drewN | apply below_drew1) | exact HB.out))) hk)))); (case aO => exact (by (with_reducible repeat (first | apply Kd.N_alloc | apply Kd.N_drewN | apply Kd.N_drew)); exact HO287.out)); (case aS => exact (below_size (by repeat (first | (with_reducible first | exact HB.out | apply below_alloc | apply pw_below_drewN | apply below_drew1) | exact HB.out)))); (case aL => have := LMc2.out; omega); intro v289 w5 ho hb hg hat; rw [← Ny288.out] at ho; have n0_ := Aside0.mk (Kd.V_afterv (ok := (fun k_ => (P0_ k_ ∨ w.heap.size ≤ k_))) (by (with_reducible repeat (first | apply Kd.V_alloc | apply Kd.V_drewN | apply Kd.V_drew)); exact HO0.out) hg hat); have n1_ := Aside0.mk (hb); have n2_ := Aside0.mk (ho); clear HO0; clear HB; clear HO287; have HO0 := n0_; have HB := n1_; have HO290 := n2_; clear n0_ n1_ n2_; clear ho hb hg hat))
  go_ret
  exact ⟨_, by first | rfl | (simp [errW_none, errW_some] <;> rfl) | (simp [*, errW_none, errW_some] <;> rfl), by (with_reducible repeat (first | apply Kd.N_alloc | apply Kd.N_drewN | apply Kd.N_drew)); exact HO290.out, by repeat (first | (with_reducible first | exact HB.out | apply below_alloc | apply pw_below_drewN | apply below_drew1) | exact HB.out)⟩
 ·rw [if_neg c2] at H
  exact absurd H (by simp)

-- NOT PRINTED: function 39 (slices_Reverse_int_int)

/-! ### impl_run: function 19, by hand -/
def impl_run.ren : Go.Shelf.Ren := ⟨fun | 35 => 39 | n => n, fun | 22 => 23 | 23 => 41 | 3 => 3 | 4 => 4 | 0 => 0 | n => n, fun n => n⟩
theorem impl_run.lay : SlLaysE.n35 Try.prog impl_run.ren :=
 { mixed := rfl, f35 := ⟨Try.f39.name, by decide, Try.func39.trans (congrArg some rfl)⟩, t0 := Try.underlying0, a0 := Try.isAgg0, z0 := Try.sizeOf0, v0 := Try.zeroValue0, t3 := Try.underlying3, a3 := Try.isAgg3, z3 := Try.sizeOf3, v3 := Try.zeroValue3, t4 := Try.underlying4, a4 := Try.isAgg4, z4 := Try.sizeOf4, v4 := Try.zeroValue4, t22 := Try.underlying23, a22 := Try.isAgg23, z22 := Try.sizeOf23, v22 := Try.zeroValue23, a23 := Try.isAgg41, z23 := Try.sizeOf41 }
def impl_run.f (l0 : List (List Int)) (a1 a2 : Int) : Option (List (List Int)) := if 0 ≤ a1 then (if a1 ≤ a2 then (if a2 < (l0.length : Int) then (if l0.length < 5864062014805 then some (Go.Proofs.Ytdjddfeokpmfaaa.HRaw.turned l0 a1.toNat a2.toNat) else none) else none) else none) else none
set_option maxHeartbeats 8000000 in
set_option maxRecDepth 100000 in
theorem impl_run.calls (P0_ : Nat → Prop) (A0 : Option Addr) (c0 : Nat) (l0 : List (List Int)) (a1 a2 : Int) (r : List (List Int)) (w : World) (hs0 : Kd.V (Kd.slice 3 (Kd.int .i64)) 41 w w.heap.size (fun k_ => P0_ k_) (.slice A0 l0.length c0) l0) (h : impl_run.f l0 a1 a2 = some r) :
 Calls Try.prog 19 #[.slice A0 l0.length c0, .int .i64 a1, .int .i64 a2] w fun e w' => ∃ v0_ : Value, e = .returned (v0_) ∧ Kd.N (Kd.slice 3 (Kd.int .i64)) 41 w' w.heap.size (fun k_ => (P0_ k_ ∨ w.heap.size ≤ k_)) v0_ r ∧ Below w.heap.size w w' := by
 unfold impl_run.f at h
 by_cases h0 : 0 ≤ a1
 ·rw [if_pos h0] at h
  by_cases h1 : a1 ≤ a2
  ·rw [if_pos h1] at h
   by_cases h2 : a2 < (l0.length : Int)
   ·rw [if_pos h2] at h
    by_cases h3 : l0.length < 5864062014805
    ·rw [if_pos h3] at h
     obtain rfl := Option.some.inj h
     clear h
     obtain ⟨i, rfl⟩ := Int.eq_ofNat_of_zero_le h0
     obtain ⟨j, rfl⟩ := Int.eq_ofNat_of_zero_le (Int.le_trans h0 h1)
     have hij : i ≤ j := by omega
     have hj : j < l0.length := by omega
     rw [Int.toNat_natCast, Int.toNat_natCast]
     clear h0 h1 h2
     have hcl : slices_Clone_int_int_38.f l0 = some l0 := by simp [slices_Clone_int_int_38.f, h3]
     have c1 := slices_Clone_int_int_38.calls P0_ A0 c0 l0 l0 w hs0 hcl
     clear hs0 hcl
     go_enter Try.func19, Try.ntmps19
     go_wp2_with (first | (go_at_call 38; refine c1.mono ?_; rintro e w1 ⟨v0, rfl, hN, hB⟩; clear c1; obtain ⟨g, cap, cur, hs, O⟩ := Go.Proofs.Ytdjddfeokpmfaaa.HRaw.open_N hN (by omega); obtain rfl := O.val; have hcap := O.len; have q1 : (0 ≤ (j : Int) + 1 ∧ (j : Int) + 1 ≤ (cap : Int)) = True := eq_true (by omega); have q2 : (cap = i) = False := eq_false (by omega); have q3 : (i ≤ j + 1) = True := eq_true (by omega)))
     have hH := O.holds i (j + 1 - i) (by omega)
     have c2 : Calls Try.prog 39 #[.slice (some ⟨g, i, none⟩) (j + 1 - i) (cap - i)] w1 fun e w' => e = .returned (.tuple #[]) ∧ ∃ n, w' = Go.Sort.putRow Go.Proofs.Ytdjddfeokpmfaaa.HRaw.encH (Go.Sort.ahead w1 n) g i ((hs.drop i).take (j + 1 - i)).reverse.toArray := by
      have hl := O.hlen
      have hlen : ((hs.drop i).take (j + 1 - i)).length = j + 1 - i := by simp; omega
      have c := AnyE.slices_Reverse impl_run.lay Go.Proofs.Ytdjddfeokpmfaaa.HRaw.encH Go.Proofs.Ytdjddfeokpmfaaa.HRaw.oneH g i (cap - i) ((hs.drop i).take (j + 1 - i)) w1 hH (by omega)
      rw [hlen] at c
      exact c
     refine c2.mono ?_
     rintro e w2 ⟨rfl, n, rfl⟩
     clear c2 hH q1 q2 q3
     go_wp2
     go_ret
     exact ⟨_, rfl, Go.Proofs.Ytdjddfeokpmfaaa.HRaw.turned_N O n hij hj, Go.Proofs.Ytdjddfeokpmfaaa.HRaw.below_putRow _ hB n O.ge _ _⟩
    ·rw [if_neg h3] at h; cases h
   ·rw [if_neg h2] at h; cases h
  ·rw [if_neg h1] at h; cases h
 ·rw [if_neg h0] at h; cases h

-- NOT PRINTED: function 40 (slices_IndexFunc_int_int)

-- NOT PRINTED: function 20 (slices_ContainsFunc_int_int)

/-! ### slices_Equal_int_int: function 42 -/
def slices_Equal_int_int.l0 : Nat → List Int → List Int → Int → Int → Option (Bool)
 | 0, _, _, _, _ => none
 | k + 1, x0, x1, x12, x13 => if x13 < x12 then (if 0 ≤ x13 then (if x13 < (x0.length : Int) then (if x13 < (x1.length : Int) then (if (rd x0 x13) = (rd x1 x13) then (slices_Equal_int_int.l0 k x0 x1 x12 (wrap64 (x13 + 1))) else (some false)) else (none)) else (none)) else (none)) else (some true)
def slices_Equal_int_int.f (k : Nat) (l0 : List Int) (l1 : List Int) : Option (Bool) := if (l0.length : Int) = (l1.length : Int) then (slices_Equal_int_int.l0 k l0 l1 (l0.length : Int) 0) else (some false)
theorem slices_Equal_int_int.mono_l : ∀ k, (∀ y0 y1 y2 y3, LeO (slices_Equal_int_int.l0 k y0 y1 y2 y3) (slices_Equal_int_int.l0 (k + 1) y0 y1 y2 y3))
 | 0 => fun _ _ _ _ r h => by simp [slices_Equal_int_int.l0] at h
 | k + 1 => by
  have ih0 := slices_Equal_int_int.mono_l k
  ·intro y0 y1 y2 y3
   unfold slices_Equal_int_int.l0
   repeat' first
   | (with_reducible exact ih0 _ _ _ _)
   | (with_reducible exact LeO.refl _)
   | (with_reducible exact LeO.none _)
   | (with_reducible refine LeO.ite ?_ ?_)
   | (with_reducible refine LeO.bind ?_ (fun _ => ?_))
   | exact ih0 _ _ _ _
   | exact LeO.none _
   | refine LeO.ite ?_ ?_
   | refine LeO.bind ?_ (fun _ => ?_)
theorem slices_Equal_int_int.mono : ∀ a0 a1 k, LeO (slices_Equal_int_int.f k a0 a1) (slices_Equal_int_int.f (k + 1) a0 a1) := by
 intro a0 a1 k
 have ih0 := slices_Equal_int_int.mono_l k
 unfold slices_Equal_int_int.f
 repeat' first
  | (with_reducible exact ih0 _ _ _ _)
  | (with_reducible exact LeO.refl _)
  | (with_reducible exact LeO.none _)
  | (with_reducible refine LeO.ite ?_ ?_)
  | (with_reducible refine LeO.bind ?_ (fun _ => ?_))
  | exact ih0 _ _ _ _
  | exact LeO.none _
  | refine LeO.ite ?_ ?_
  | refine LeO.bind ?_ (fun _ => ?_)
set_option maxHeartbeats 8000000 in
set_option maxRecDepth 100000 in
theorem slices_Equal_int_int.calls (k : Nat) (A0 : Option Addr) (c0 : Nat) (l0 : List Int) (A1 : Option Addr) (c1 : Nat) (l1 : List Int) (r : Bool) (w : World) (hr0 : Kd.C (Kd.int .i64) w A0 l0.length l0) (hc0 : l0.length ≤ c0) (hr1 : Kd.C (Kd.int .i64) w A1 l1.length l1) (hc1 : l1.length ≤ c1) (h : slices_Equal_int_int.f k l0 l1 = some r) :
 Calls Try.prog 42 #[.slice A0 l0.length c0, .slice A1 l1.length c1] w fun e w' => e = .returned (.bool r) ∧ Drawn0 w w' := by
 have HR0 := Aside0.mk hr0
 have HC0 := Aside0.mk hc0
 clear hr0 hc0
 have HR1 := Aside0.mk hr1
 have HC1 := Aside0.mk hc1
 clear hr1 hc1
 have H : (if (l0.length : Int) = (l1.length : Int) then (slices_Equal_int_int.l0 k l0 l1 (l0.length : Int) 0) else (some false)) = some r := h
 clear h
 by_cases c3 : (l0.length : Int) = (l1.length : Int)
 ·rw [if_pos c3] at H
  have c3b0 : ((l0.length : Int) == (l1.length : Int)) = true := beq_iff_eq.mpr c3
  have c3b1 : ((l0.length : Int) != (l1.length : Int)) = false := bne_eq_false_iff_eq.mpr c3
  have c3b2 : (l0.length == l1.length) = true := by first | simpa using c3 | (simp at c3 ⊢; omega)
  clear c3
  have H' := Aside0.mk H
  clear H
  go_enter Try.func42, Try.ntmps42
  go_wp2
  repeat (go_quiet (fail); try go_wp2)
  go_loopg [13] k (fun kq v13 w' => ∃ (x13_1 : Int), v13 = .int .i64 x13_1 ∧ Aside0 (slices_Equal_int_int.l0 kq l0 l1 (l0.length : Int) x13_1 = some r) ∧ Aside0 (kq ≤ k) ∧ Drawn0 w w')
  case atStart => exact ⟨(0), (by first | rfl | (simp; done) | (simp [*]; done)), H', ⟨Nat.le_refl _⟩, by repeat (first | exact Drawn0.refl _ | apply Drawn0.step)⟩
  case round =>
   clear H'
   try clear c1
   try clear p2
   try clear c3
   try clear c3b0
   try clear c3b1
   try clear c3b2
   obtain ⟨x13_1, rfl, HA, HK1, ⟨m1, rfl⟩⟩ := hrel
   cases gk with
   | zero => exact absurd HA.out (by simp [slices_Equal_int_int.l0])
   | succ k1 =>
    have H := HA.out
    clear HA
    simp only [slices_Equal_int_int.l0] at H
    by_cases c4 : x13_1 < (l0.length : Int)
    ·rw [if_pos c4] at H
     have c4b0 : decide (x13_1 < (l0.length : Int)) = true := decide_eq_true c4
     clear c4
     by_cases c5 : 0 ≤ x13_1
     ·rw [if_pos c5] at H
      have c5b0 : decide (0 ≤ x13_1) = true := decide_eq_true c5
      clear c5
      by_cases c6 : x13_1 < (l0.length : Int)
      ·rw [if_pos c6] at H
       have c6b0 : decide (x13_1 < (l0.length : Int)) = true := decide_eq_true c6
       clear c6
       by_cases c7 : x13_1 < (l1.length : Int)
       ·rw [if_pos c7] at H
        have c7b0 : decide (x13_1 < (l1.length : Int)) = true := decide_eq_true c7
        clear c7
        by_cases c8 : (rd l0 x13_1) = (rd l1 x13_1)
        ·rw [if_pos c8] at H
         have c8b0 : ((rd l0 x13_1) == (rd l1 x13_1)) = true := beq_iff_eq.mpr c8
         have c8b1 : ((rd l0 x13_1) != (rd l1 x13_1)) = false := bne_eq_false_iff_eq.mpr c8
         clear c8
         have H' := Aside0.mk H
         clear H
         have p295 : 0 ≤ (x13_1 : Int) := of_decide_eq_true (by first | (with_reducible assumption) | assumption)
         have q295 : x13_1 < (l0.length : Int) := of_decide_eq_true (by first | (with_reducible assumption) | assumption)
         obtain ⟨ad295, e295, hx295_0⟩ := Kd.at_int HR0.out x13_1 p295 q295
         cases e295
         replace p295 := eq_true p295
         replace q295 := eq_true q295
         have p296 : 0 ≤ (x13_1 : Int) := of_decide_eq_true (by first | (with_reducible assumption) | assumption)
         have q296 : x13_1 < (l1.length : Int) := of_decide_eq_true (by first | (with_reducible assumption) | assumption)
         obtain ⟨ad296, e296, hx296_0⟩ := Kd.at_int HR1.out x13_1 p296 q296
         cases e296
         replace p296 := eq_true p296
         replace q296 := eq_true q296
         go_wp2
         repeat (go_quiet (fail); try go_wp2)
         go_roundg k1
         case measure => have := HK1.out; omega
         case rel => exact ⟨(wrap64 (x13_1 + 1)), (by first | rfl | (simp; done) | (simp [*]; done)), H', ⟨by have := HK1.out; omega⟩, by repeat (first | exact Drawn0.refl _ | apply Drawn0.step)⟩
        ·rw [if_neg c8] at H
         have c8b0 : ((rd l0 x13_1) == (rd l1 x13_1)) = false := beq_eq_false_iff_ne.mpr c8
         have c8b1 : ((rd l0 x13_1) != (rd l1 x13_1)) = true := bne_iff_ne.mpr c8
         obtain rfl := Option.some.inj H
         have p295 : 0 ≤ (x13_1 : Int) := of_decide_eq_true (by first | (with_reducible assumption) | assumption)
         have q295 : x13_1 < (l0.length : Int) := of_decide_eq_true (by first | (with_reducible assumption) | assumption)
         obtain ⟨ad295, e295, hx295_0⟩ := Kd.at_int HR0.out x13_1 p295 q295
         cases e295
         replace p295 := eq_true p295
         replace q295 := eq_true q295
         have p296 : 0 ≤ (x13_1 : Int) := of_decide_eq_true (by first | (with_reducible assumption) | assumption)
         have q296 : x13_1 < (l1.length : Int) := of_decide_eq_true (by first | (with_reducible assumption) | assumption)
         obtain ⟨ad296, e296, hx296_0⟩ := Kd.at_int HR1.out x13_1 p296 q296
         cases e296
         replace p296 := eq_true p296
         replace q296 := eq_true q296
         go_wp2
         repeat (go_quiet (fail); try go_wp2)
         go_ret
         exact ⟨by first | rfl | (simp; done) | (simp [*]; done), by repeat (first | exact Drawn0.refl _ | apply Drawn0.step)⟩
       ·rw [if_neg c7] at H
        exact absurd H (by simp)
      ·rw [if_neg c6] at H
       exact absurd H (by simp)
     ·rw [if_neg c5] at H
      exact absurd H (by simp)
    ·rw [if_neg c4] at H
     have c4b0 : decide (x13_1 < (l0.length : Int)) = false := decide_eq_false c4
     clear c4
     obtain rfl := Option.some.inj H
     go_wp2
     repeat (go_quiet (fail); try go_wp2)
     go_ret
     exact ⟨by first | rfl | (simp; done) | (simp [*]; done), by repeat (first | exact Drawn0.refl _ | apply Drawn0.step)⟩
 ·rw [if_neg c3] at H
  have c3b0 : ((l0.length : Int) == (l1.length : Int)) = false := beq_eq_false_iff_ne.mpr c3
  have c3b1 : ((l0.length : Int) != (l1.length : Int)) = true := bne_iff_ne.mpr c3
  have c3b2 : (l0.length == l1.length) = false := by first | simpa using c3 | (simp at c3 ⊢; omega)
  obtain rfl := Option.some.inj H
  go_enter Try.func42, Try.ntmps42
  go_wp2
  repeat (go_quiet (fail); try go_wp2)
  go_ret
  exact ⟨by first | rfl | (simp; done) | (simp [*]; done), by repeat (first | exact Drawn0.refl _ | apply Drawn0.step)⟩

/-! ### slices_EqualFunc_int_int_int_int: function 41, by hand -/
def slices_EqualFunc_int_int_int_int.go (k : Nat) : List (List Int) → List (List Int) → Option Bool
 | x :: xs, y :: ys => (slices_Equal_int_int.f k x y).bind fun t => if t = true then slices_EqualFunc_int_int_int_int.go k xs ys else some false
 | _, _ => some true
def slices_EqualFunc_int_int_int_int.f (k : Nat) (l0 l1 : List (List Int)) : Option Bool := if l0.length = l1.length then slices_EqualFunc_int_int_int_int.go k l0 l1 else some false
theorem slices_EqualFunc_int_int_int_int.mono_go (k : Nat) : ∀ l0 l1, LeO (slices_EqualFunc_int_int_int_int.go k l0 l1) (slices_EqualFunc_int_int_int_int.go (k + 1) l0 l1)
 | x :: xs, y :: ys => LeO.bind (slices_Equal_int_int.mono _ _ _) (fun t => LeO.ite (slices_EqualFunc_int_int_int_int.mono_go k xs ys) (LeO.refl _))
 | [], _ => LeO.refl _
 | _ :: _, [] => LeO.refl _
theorem slices_EqualFunc_int_int_int_int.mono : ∀ a0 a1 k, LeO (slices_EqualFunc_int_int_int_int.f k a0 a1) (slices_EqualFunc_int_int_int_int.f (k + 1) a0 a1) := fun a0 a1 k => LeO.ite (slices_EqualFunc_int_int_int_int.mono_go k a0 a1) (LeO.refl _)
theorem slices_EqualFunc_int_int_int_int.rdi {l : List (List Int)} {i : Nat} (h : i < l.length) : rd_L2 l (i : Int) = l[i] := by simp [rd_L2, h]
set_option maxHeartbeats 8000000 in
set_option maxRecDepth 100000 in
theorem slices_EqualFunc_int_int_int_int.calls (k : Nat) (A0 : Option Addr) (c0 : Nat) (l0 : List (List Int)) (A1 : Option Addr) (c1 : Nat) (l1 : List (List Int)) (r : Bool) (w : World) (hr0 : Kd.C (Kd.slice 3 (Kd.int .i64)) w A0 l0.length l0) (hc0 : l0.length ≤ c0) (hr1 : Kd.C (Kd.slice 3 (Kd.int .i64)) w A1 l1.length l1) (hc1 : l1.length ≤ c1) (h : slices_EqualFunc_int_int_int_int.f k l0 l1 = some r) :
 Calls Try.prog 41 #[.slice A0 l0.length c0, .slice A1 l1.length c1, .func (.func 42) #[] #[]] w fun e w' => e = .returned (.bool r) ∧ Drawn0 w w' := by
 unfold slices_EqualFunc_int_int_int_int.f at h
 have hm : l0.length ≤ 9223372036854775807 := hr0.2.1
 have HR0 := Aside0.mk hr0
 have HR1 := Aside0.mk hr1
 clear hr0 hr1
 by_cases hl : l0.length = l1.length
 ·rw [if_pos hl] at h
  have q1 : ((l0.length : Int) != (l1.length : Int)) = false := bne_eq_false_iff_eq.mpr (by omega)
  have HL := Aside0.mk hl
  have H := Aside0.mk h
  clear hl h
  go_enter Try.func41, Try.ntmps41
  go_wp2
  go_loopg [17] l0.length (fun kq v17 w' => ∃ i : Nat, v17 = .int .i64 (i : Int) ∧ Aside0 (i + kq = l0.length) ∧ Aside0 (slices_EqualFunc_int_int_int_int.go k (l0.drop i) (l1.drop i) = some r) ∧ Drawn0 w w')
  case atStart => exact ⟨0, rfl, ⟨by omega⟩, ⟨H.out⟩, Drawn0.refl _⟩
  case round =>
   clear H
   obtain ⟨i, rfl, HN, H, ⟨nd, rfl⟩⟩ := hrel
   have hn1 := HN.out
   cases gk with
   | zero =>
    have q2 : decide ((i : Int) < (l0.length : Int)) = false := decide_eq_false (by omega)
    have q3 : ((i : Int) < (l0.length : Int)) = False := eq_false (by omega)
    have hr : true = r := by
     have h2 := H.out
     rw [List.drop_eq_nil_of_le (show l0.length ≤ i by omega), List.drop_eq_nil_of_le (show l1.length ≤ i by have := HL.out; omega)] at h2
     exact Option.some.inj h2
    subst hr
    clear hn1
    go_wp2
    go_ret
    exact ⟨rfl, ⟨_, rfl⟩⟩
   | succ g1 =>
    have hi0 : i < l0.length := by omega
    have hi1 : i < l1.length := by have := HL.out; omega
    have h2 := H.out
    rw [List.drop_eq_getElem_cons hi0, List.drop_eq_getElem_cons hi1] at h2
    unfold slices_EqualFunc_int_int_int_int.go at h2
    obtain ⟨t, t1, t2⟩ := Option.bind_eq_some_iff.mp h2
    obtain ⟨ad0, B0, d0, e0, hx0, hl0, hc0'⟩ := at_L2 (Kd.C_drewN HR0.out nd) (i : Int) (by omega) (by omega)
    obtain ⟨ad1, B1, d1, e1, hx1, hl1, hc1'⟩ := at_L2 (Kd.C_drewN HR1.out nd) (i : Int) (by omega) (by omega)
    cases e0
    cases e1
    rw [slices_EqualFunc_int_int_int_int.rdi hi0, Int.toNat_natCast] at hx0
    rw [slices_EqualFunc_int_int_int_int.rdi hi1, Int.toNat_natCast] at hx1
    rw [slices_EqualFunc_int_int_int_int.rdi hi0] at hl0 hc0'
    rw [slices_EqualFunc_int_int_int_int.rdi hi1] at hl1 hc1'
    have kE := fun (W : World) (hC : Kd.C (Kd.int .i64) W B0 (l0[i]'hi0).length (l0[i]'hi0)) (hD : Kd.C (Kd.int .i64) W B1 (l1[i]'hi1).length (l1[i]'hi1)) => slices_Equal_int_int.calls k B0 d0 _ B1 d1 _ t W hC hl0 hD hl1 t1
    have q2 : decide ((i : Int) < (l0.length : Int)) = true := decide_eq_true (by omega)
    have q3 : ((i : Int) < (l0.length : Int)) = True := eq_true (by omega)
    have q4 : ((i : Int) < (l1.length : Int)) = True := eq_true (by omega)
    have q5 : ((0 : Int) ≤ (i : Int)) = True := eq_true (by omega)
    have HT := Aside0.mk t2
    have HC0 := Aside0.mk hc0'
    have HC1 := Aside0.mk hc1'
    clear h2 t2 H t1 hl0 hl1 hc0' hc1'
    cases t with
    | false =>
     have hr : false = r := by have h3 := HT.out; rw [if_neg (by decide)] at h3; exact Option.some.inj h3
     subst hr
     go_wp2_with (go_at_call 42; refine (kE _ HC0.out HC1.out).mono ?_; rintro e w1 ⟨rfl, ⟨nd2, rfl⟩⟩; clear kE)
     go_ret
     exact ⟨rfl, ⟨_, rfl⟩⟩
    | true =>
     have h3 := HT.out
     rw [if_pos rfl] at h3
     have H3 := Aside0.mk h3
     clear h3 HT
     go_wp2_with (go_at_call 42; refine (kE _ HC0.out HC1.out).mono ?_; rintro e w1 ⟨rfl, ⟨nd2, rfl⟩⟩; clear kE)
     go_roundg g1
     case measure => omega
     case rel => exact ⟨i + 1, by go_num, ⟨by omega⟩, H3, ⟨_, rfl⟩⟩
 ·rw [if_neg hl] at h
  obtain rfl := Option.some.inj h
  have q1 : ((l0.length : Int) != (l1.length : Int)) = true := by simp; omega
  go_enter Try.func41, Try.ntmps41
  go_wp2
  go_ret
  exact ⟨rfl, Drawn0.refl _⟩

/-! ### impl_sameSteps: function 22, by hand -/
def impl_sameSteps.f (k : Nat) (l0 l1 : List (List Int)) : Option Bool := slices_EqualFunc_int_int_int_int.f k l0 l1
theorem impl_sameSteps.mono : ∀ a0 a1 k, LeO (impl_sameSteps.f k a0 a1) (impl_sameSteps.f (k + 1) a0 a1) := slices_EqualFunc_int_int_int_int.mono
set_option maxHeartbeats 8000000 in
set_option maxRecDepth 100000 in
theorem impl_sameSteps.calls (k : Nat) (A0 : Option Addr) (c0 : Nat) (l0 : List (List Int)) (A1 : Option Addr) (c1 : Nat) (l1 : List (List Int)) (r : Bool) (w : World) (hr0 : Kd.C (Kd.slice 3 (Kd.int .i64)) w A0 l0.length l0) (hc0 : l0.length ≤ c0) (hr1 : Kd.C (Kd.slice 3 (Kd.int .i64)) w A1 l1.length l1) (hc1 : l1.length ≤ c1) (h : impl_sameSteps.f k l0 l1 = some r) :
 Calls Try.prog 22 #[.slice A0 l0.length c0, .slice A1 l1.length c1] w fun e w' => e = .returned (.bool r) ∧ Drawn0 w w' := by
 have kE := slices_EqualFunc_int_int_int_int.calls k A0 c0 l0 A1 c1 l1 r w hr0 hc0 hr1 hc1 h
 clear hr0 hr1 h
 go_enter Try.func22, Try.ntmps22
 go_wp2_with (go_at_call 41; refine kE.mono ?_; rintro e w1 ⟨rfl, ⟨nd, rfl⟩⟩; clear kE)
 go_ret
 exact ⟨rfl, ⟨_, rfl⟩⟩

-- NOT PRINTED: function 21 (impl_OrderFewest_1)

end Go.Proofs.Ytdjddfeokpmfaaa.PFnFewest
