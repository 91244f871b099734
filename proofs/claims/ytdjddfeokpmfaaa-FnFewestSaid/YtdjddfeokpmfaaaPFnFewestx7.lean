-- Made by hprint.py (wip/) out of the translation; not trusted: Lean checks it.
import Derived.Test.YtdjddfeokpmfaaaPFnFewestx0
import Derived.Test.YtdjddfeokpmfaaaPFnFewestx1
namespace Go.Proofs.Ytdjddfeokpmfaaa.PFnFewest
open Go.RowKit Go.Proofs.YtdjddfeokpmfaaaW.PrintWords Go.Proofs.YtdjddfeokpmfaaaW.PrintLast Go.Proofs.YtdjddfeokpmfaaaW.PrintMore
attribute [local go_sem] max2_int min2_int max_two min_two max_three min_three max_four min_four   -- for this text's walks alone
set_option linter.unusedVariables false
set_option linter.unusedSimpArgs false

/-! ### spec_l6sConvex: function 24 -/
mutual
def spec_l6sConvex.l0 : Nat → List (List Int) → Int → Int → Option (Bool)
 | 0, _, _, _ => none
 | k + 1, x0, x3, x4 => if x4 < (x0.length : Int) then (if 0 ≤ x4 then (if (x0.length : Int) = 0 then (none) else (if 0 ≤ (Int.tmod (wrap64 (x4 + 1)) (x0.length : Int)) then (if (Int.tmod (wrap64 (x4 + 1)) (x0.length : Int)) < (x0.length : Int) then ((spec_l6sCross.f (rd_L2 x0 x4) (rd_L2 x0 (Int.tmod (wrap64 (x4 + 1)) (x0.length : Int)))).bind fun t314 => (if t314 < 0 then (spec_l6sConvex.j1 k x0 x3 x4 (rd_L2 x0 x4) (rd_L2 x0 (Int.tmod (wrap64 (x4 + 1)) (x0.length : Int))) true) else (if t314 = 0 then (if 0 < ((rd_L2 x0 x4).length : Int) then (if 0 < ((rd_L2 x0 (Int.tmod (wrap64 (x4 + 1)) (x0.length : Int))).length : Int) then (if 1 < ((rd_L2 x0 x4).length : Int) then (if 1 < ((rd_L2 x0 (Int.tmod (wrap64 (x4 + 1)) (x0.length : Int))).length : Int) then (spec_l6sConvex.j1 k x0 x3 x4 (rd_L2 x0 x4) (rd_L2 x0 (Int.tmod (wrap64 (x4 + 1)) (x0.length : Int))) (decide ((wrap64 ((wrap64 ((rd (rd_L2 x0 x4) 0) * (rd (rd_L2 x0 (Int.tmod (wrap64 (x4 + 1)) (x0.length : Int))) 0))) + (wrap64 ((rd (rd_L2 x0 x4) 1) * (rd (rd_L2 x0 (Int.tmod (wrap64 (x4 + 1)) (x0.length : Int))) 1))))) < 0))) else (none)) else (none)) else (none)) else (none)) else (spec_l6sConvex.j1 k x0 x3 x4 (rd_L2 x0 x4) (rd_L2 x0 (Int.tmod (wrap64 (x4 + 1)) (x0.length : Int))) false)))) else (none)) else (none))) else (none)) else (some (x3 == 1))
def spec_l6sConvex.j1 : Nat → List (List Int) → Int → Int → List Int → List Int → Bool → Option (Bool)
 | 0, _, _, _, _, _, _ => none
 | k + 1, x0, x3, x4, x5, x6, x52 => if x52 = true then (some false) else ((spec_l6sBefore.f x6 x5).bind fun t319 => (if t319 = true then (spec_l6sConvex.l0 k x0 (wrap64 (x3 + 1)) (wrap64 (x4 + 1))) else (spec_l6sConvex.l0 k x0 x3 (wrap64 (x4 + 1)))))
end
def spec_l6sConvex.f (k : Nat) (l0 : List (List Int)) : Option (Bool) := spec_l6sConvex.l0 k l0 0 0
theorem spec_l6sConvex.mono_l : ∀ k, (∀ y0 y1 y2, LeO (spec_l6sConvex.l0 k y0 y1 y2) (spec_l6sConvex.l0 (k + 1) y0 y1 y2)) ∧ (∀ y0 y1 y2 y3 y4 y5, LeO (spec_l6sConvex.j1 k y0 y1 y2 y3 y4 y5) (spec_l6sConvex.j1 (k + 1) y0 y1 y2 y3 y4 y5))
 | 0 => ⟨fun _ _ _ r h => by simp [spec_l6sConvex.l0] at h, fun _ _ _ _ _ _ r h => by simp [spec_l6sConvex.j1] at h⟩
 | k + 1 => by
  obtain ⟨ih0, ih1⟩ := spec_l6sConvex.mono_l k
  refine ⟨?_, ?_⟩
  ·intro y0 y1 y2
   unfold spec_l6sConvex.l0
   repeat' first
   | (with_reducible exact ih0 _ _ _)
   | (with_reducible exact ih1 _ _ _ _ _ _)
   | (with_reducible exact LeO.refl _)
   | (with_reducible exact LeO.none _)
   | (with_reducible refine LeO.ite ?_ ?_)
   | (with_reducible refine LeO.bind ?_ (fun _ => ?_))
   | exact ih0 _ _ _
   | exact ih1 _ _ _ _ _ _
   | exact LeO.none _
   | refine LeO.ite ?_ ?_
   | refine LeO.bind ?_ (fun _ => ?_)
  ·intro y0 y1 y2 y3 y4 y5
   unfold spec_l6sConvex.j1
   repeat' first
   | (with_reducible exact ih0 _ _ _)
   | (with_reducible exact ih1 _ _ _ _ _ _)
   | (with_reducible exact LeO.refl _)
   | (with_reducible exact LeO.none _)
   | (with_reducible refine LeO.ite ?_ ?_)
   | (with_reducible refine LeO.bind ?_ (fun _ => ?_))
   | exact ih0 _ _ _
   | exact ih1 _ _ _ _ _ _
   | exact LeO.none _
   | refine LeO.ite ?_ ?_
   | refine LeO.bind ?_ (fun _ => ?_)
theorem spec_l6sConvex.mono : ∀ a0 k, LeO (spec_l6sConvex.f k a0) (spec_l6sConvex.f (k + 1) a0) := by
 intro a0 k
 obtain ⟨ih0, ih1⟩ := spec_l6sConvex.mono_l k
 unfold spec_l6sConvex.f
 repeat' first
  | (with_reducible exact ih0 _ _ _)
  | (with_reducible exact ih1 _ _ _ _ _ _)
  | (with_reducible exact LeO.refl _)
  | (with_reducible exact LeO.none _)
  | (with_reducible refine LeO.ite ?_ ?_)
  | (with_reducible refine LeO.bind ?_ (fun _ => ?_))
  | exact ih0 _ _ _
  | exact ih1 _ _ _ _ _ _
  | exact LeO.none _
  | refine LeO.ite ?_ ?_
  | refine LeO.bind ?_ (fun _ => ?_)
set_option maxHeartbeats 8000000 in
set_option maxRecDepth 100000 in
theorem spec_l6sConvex.calls (k : Nat) (A0 : Option Addr) (c0 : Nat) (l0 : List (List Int)) (r : Bool) (w : World) (hr0 : Kd.C (Kd.slice 3 (Kd.int .i64)) w A0 l0.length l0) (hc0 : l0.length ≤ c0) (h : spec_l6sConvex.f k l0 = some r) :
 Calls Try.prog 24 #[.slice A0 l0.length c0] w fun e w' => e = .returned (.bool r) ∧ Drawn0 w w' := by
 have HR0 := Aside0.mk hr0
 have HC0 := Aside0.mk hc0
 clear hr0 hc0
 have H : (spec_l6sConvex.l0 k l0 0 0) = some r := h
 clear h
 have H' := Aside0.mk H
 clear H
 go_enter Try.func24, Try.ntmps24
 go_wp2
 repeat (go_quiet (fail); try go_wp2)
 go_loopg [3, 4] k (fun kq v3 v4 w' => ∃ (x3_1 : Int) (x4_1 : Int), v3 = .int .i64 x3_1 ∧ v4 = .int .i64 x4_1 ∧ Aside0 (spec_l6sConvex.l0 kq l0 x3_1 x4_1 = some r) ∧ Aside0 (kq ≤ k) ∧ Drawn0 w w')
 case atStart => exact ⟨(0), (0), (by first | rfl | (simp; done) | (simp [*]; done)), (by first | rfl | (simp; done) | (simp [*]; done)), H', ⟨Nat.le_refl _⟩, by repeat (first | exact Drawn0.refl _ | apply Drawn0.step)⟩
 case round =>
  clear H'
  obtain ⟨x3_1, x4_1, rfl, rfl, HA, HK1, ⟨m1, rfl⟩⟩ := hrel
  cases gk with
  | zero => exact absurd HA.out (by simp [spec_l6sConvex.l0])
  | succ k1 =>
   have H := HA.out
   clear HA
   simp only [spec_l6sConvex.l0] at H
   by_cases c2 : x4_1 < (l0.length : Int)
   ·rw [if_pos c2] at H
    have c2b0 : decide (x4_1 < (l0.length : Int)) = true := decide_eq_true c2
    clear c2
    by_cases c3 : 0 ≤ x4_1
    ·rw [if_pos c3] at H
     have c3b0 : decide (0 ≤ x4_1) = true := decide_eq_true c3
     clear c3
     by_cases c4 : (l0.length : Int) = 0
     ·rw [if_pos c4] at H
      exact absurd H (by simp)
     ·rw [if_neg c4] at H
      have c4b0 : ((l0.length : Int) == 0) = false := beq_eq_false_iff_ne.mpr c4
      have c4b1 : ((l0.length : Int) != 0) = true := bne_iff_ne.mpr c4
      have c4b2 : ¬ (l0 = []) := fun h_ => c4 (by rw [h_]; rfl)
      obtain ⟨ji5, hji5⟩ : ∃ j_ : Int, (Int.tmod (wrap64 (x4_1 + 1)) (l0.length : Int)) = j_ := ⟨_, rfl⟩
      replace H : (if 0 ≤ (ji5) then (if (ji5) < (l0.length : Int) then ((spec_l6sCross.f (rd_L2 l0 x4_1) (rd_L2 l0 (ji5))).bind fun t314 => (if t314 < 0 then (spec_l6sConvex.j1 k1 l0 x3_1 x4_1 (rd_L2 l0 x4_1) (rd_L2 l0 (ji5)) true) else (if t314 = 0 then (if 0 < ((rd_L2 l0 x4_1).length : Int) then (if 0 < ((rd_L2 l0 (ji5)).length : Int) then (if 1 < ((rd_L2 l0 x4_1).length : Int) then (if 1 < ((rd_L2 l0 (ji5)).length : Int) then (spec_l6sConvex.j1 k1 l0 x3_1 x4_1 (rd_L2 l0 x4_1) (rd_L2 l0 (ji5)) (decide ((wrap64 ((wrap64 ((rd (rd_L2 l0 x4_1) 0) * (rd (rd_L2 l0 (ji5)) 0))) + (wrap64 ((rd (rd_L2 l0 x4_1) 1) * (rd (rd_L2 l0 (ji5)) 1))))) < 0))) else (none)) else (none)) else (none)) else (none)) else (spec_l6sConvex.j1 k1 l0 x3_1 x4_1 (rd_L2 l0 x4_1) (rd_L2 l0 (ji5)) false)))) else (none)) else (none)) = some r := by first | (rw [hji5] at H; exact H) | (simp only [hji5] at H ⊢; exact H)
      by_cases c6 : 0 ≤ (ji5)
      ·rw [if_pos c6] at H
       have c6b0 : decide (0 ≤ (ji5)) = true := decide_eq_true c6
       clear c6
       by_cases c7 : (ji5) < (l0.length : Int)
       ·rw [if_pos c7] at H
        have c7b0 : decide ((ji5) < (l0.length : Int)) = true := decide_eq_true c7
        clear c7
        replace H := Option.bind_eq_some_iff.mp H
        obtain ⟨t314, A80, H⟩ := H
        replace H : (if t314 < 0 then (spec_l6sConvex.j1 k1 l0 x3_1 x4_1 (rd_L2 l0 x4_1) (rd_L2 l0 (ji5)) true) else (if t314 = 0 then (if 0 < ((rd_L2 l0 x4_1).length : Int) then (if 0 < ((rd_L2 l0 (ji5)).length : Int) then (if 1 < ((rd_L2 l0 x4_1).length : Int) then (if 1 < ((rd_L2 l0 (ji5)).length : Int) then (spec_l6sConvex.j1 k1 l0 x3_1 x4_1 (rd_L2 l0 x4_1) (rd_L2 l0 (ji5)) (decide ((wrap64 ((wrap64 ((rd (rd_L2 l0 x4_1) 0) * (rd (rd_L2 l0 (ji5)) 0))) + (wrap64 ((rd (rd_L2 l0 x4_1) 1) * (rd (rd_L2 l0 (ji5)) 1))))) < 0))) else (none)) else (none)) else (none)) else (none)) else (spec_l6sConvex.j1 k1 l0 x3_1 x4_1 (rd_L2 l0 x4_1) (rd_L2 l0 (ji5)) false))) = some r := H
        have A8 := Aside0.mk A80
        clear A80
        have HC9 := Aside0.mk H
        clear H
        have p312 : 0 ≤ (x4_1 : Int) := of_decide_eq_true (by first | (with_reducible assumption) | assumption)
        have q312 : x4_1 < (l0.length : Int) := of_decide_eq_true (by first | (with_reducible assumption) | assumption)
        obtain ⟨ad312, A312_0, c312_0, e312, hx312_0, hl312_0, hi312_0⟩ := at_L2 HR0.out x4_1 p312 q312
        cases e312
        have HR312_0 := Aside0.mk hi312_0
        have HC312_0 := Aside0.mk hl312_0
        clear hi312_0 hl312_0
        replace p312 := eq_true p312
        replace q312 := eq_true q312
        have p313 : 0 ≤ ((ji5) : Int) := of_decide_eq_true (by first | (with_reducible assumption) | assumption)
        have q313 : (ji5) < (l0.length : Int) := of_decide_eq_true (by first | (with_reducible assumption) | assumption)
        obtain ⟨ad313, A313_0, c313_0, e313, hx313_0, hl313_0, hi313_0⟩ := at_L2 HR0.out (ji5) p313 q313
        obtain rfl : ad312 = ad313 := (by injection e313)
        have HR313_0 := Aside0.mk hi313_0
        have HC313_0 := Aside0.mk hl313_0
        clear hi313_0 hl313_0
        replace p313 := eq_true p313
        replace q313 := eq_true q313
        go_upto_region 8 with (first | (go_at_call 46; (with_reducible refine (spec_l6sCross.calls _ _ (rd_L2 l0 x4_1) _ _ (rd_L2 l0 (ji5)) t314 _ ?side1 ?side2 ?side3 ?side4 A8.out).mono ?_); (case side1 => repeat (first | exact HR312_0.out | (with_reducible refine Kd.C_alloc ?_ _) | (with_reducible refine Kd.C_drewN ?_ _) | (with_reducible refine Kd.C_drew ?_))); (case side2 => exact HC312_0.out); (case side3 => repeat (first | exact HR313_0.out | (with_reducible refine Kd.C_alloc ?_ _) | (with_reducible refine Kd.C_drewN ?_ _) | (with_reducible refine Kd.C_drew ?_))); (case side4 => exact HC313_0.out); rintro e w' ⟨rfl, ⟨nd, rfl⟩⟩; (try first | exact ⟨rfl, _, World.drewN_drewN _ _ _⟩ | exact ⟨rfl, _, Eq.trans (World.drewN_drewN _ _ _) (congrArg (World.drewN _) (Nat.add_assoc _ _ _))⟩)))
        repeat (go_quiet (first | (go_at_call 46; (with_reducible refine (spec_l6sCross.calls _ _ (rd_L2 l0 x4_1) _ _ (rd_L2 l0 (ji5)) t314 _ ?side1 ?side2 ?side3 ?side4 A8.out).mono ?_); (case side1 => repeat (first | exact HR312_0.out | (with_reducible refine Kd.C_alloc ?_ _) | (with_reducible refine Kd.C_drewN ?_ _) | (with_reducible refine Kd.C_drew ?_))); (case side2 => exact HC312_0.out); (case side3 => repeat (first | exact HR313_0.out | (with_reducible refine Kd.C_alloc ?_ _) | (with_reducible refine Kd.C_drewN ?_ _) | (with_reducible refine Kd.C_drew ?_))); (case side4 => exact HC313_0.out); rintro e w' ⟨rfl, ⟨nd, rfl⟩⟩; (try first | exact ⟨rfl, _, World.drewN_drewN _ _ _⟩ | exact ⟨rfl, _, Eq.trans (World.drewN_drewN _ _ _) (congrArg (World.drewN _) (Nat.add_assoc _ _ _))⟩))); go_upto_region 8 with (first | (go_at_call 46; (with_reducible refine (spec_l6sCross.calls _ _ (rd_L2 l0 x4_1) _ _ (rd_L2 l0 (ji5)) t314 _ ?side1 ?side2 ?side3 ?side4 A8.out).mono ?_); (case side1 => repeat (first | exact HR312_0.out | (with_reducible refine Kd.C_alloc ?_ _) | (with_reducible refine Kd.C_drewN ?_ _) | (with_reducible refine Kd.C_drew ?_))); (case side2 => exact HC312_0.out); (case side3 => repeat (first | exact HR313_0.out | (with_reducible refine Kd.C_alloc ?_ _) | (with_reducible refine Kd.C_drewN ?_ _) | (with_reducible refine Kd.C_drew ?_))); (case side4 => exact HC313_0.out); rintro e w' ⟨rfl, ⟨nd, rfl⟩⟩; (try first | exact ⟨rfl, _, World.drewN_drewN _ _ _⟩ | exact ⟨rfl, _, Eq.trans (World.drewN_drewN _ _ _) (congrArg (World.drewN _) (Nat.add_assoc _ _ _))⟩))))
        (try simp only [Act.put, List.setIfInBounds_toArray, List.set_cons_zero, List.set_cons_succ])
        go_cut [52] (fun v52 wc => ∃ (kq : Nat) (x52_8 : Bool), v52 = .bool x52_8 ∧ Aside0 (spec_l6sConvex.j1 kq l0 x3_1 x4_1 (rd_L2 l0 x4_1) (rd_L2 l0 (ji5)) x52_8 = some r) ∧ Aside0 (kq ≤ k1) ∧ Drawn0 w wc)
        case first =>
         have H := HC9.out
         clear HC9
         by_cases c10 : t314 < 0
         ·rw [if_pos c10] at H
          have c10b0 : decide (t314 < 0) = true := decide_eq_true c10
          clear c10
          (first | rw [c10b0] | (simp only [i64_w, i32_w]; rw [c10b0]) | skip)
          have H' := Aside0.mk H
          clear H
          go_wp2
          repeat (go_quiet (fail); try go_wp2)
          go_meet
          case rel => exact ⟨_, (true), (by first | rfl | (simp; done) | (simp [*]; done)), H', ⟨by have := HK1.out; first | omega | exact Nat.le_refl _⟩, by repeat (first | exact Drawn0.refl _ | apply Drawn0.step)⟩
         ·rw [if_neg c10] at H
          have c10b0 : decide (t314 < 0) = false := decide_eq_false c10
          clear c10
          (first | rw [c10b0] | (simp only [i64_w, i32_w]; rw [c10b0]) | skip)
          by_cases c11 : t314 = 0
          ·rw [if_pos c11] at H
           have c11b0 : (t314 == 0) = true := beq_iff_eq.mpr c11
           have c11b1 : (t314 != 0) = false := bne_eq_false_iff_eq.mpr c11
           clear c11
           by_cases c12 : 0 < ((rd_L2 l0 x4_1).length : Int)
           ·rw [if_pos c12] at H
            have c12b0 : decide (0 < ((rd_L2 l0 x4_1).length : Int)) = true := decide_eq_true c12
            have c12b1 : decide (0 < (rd_L2 l0 x4_1).length) = true := decide_eq_true (by omega)
            clear c12
            by_cases c13 : 0 < ((rd_L2 l0 (ji5)).length : Int)
            ·rw [if_pos c13] at H
             have c13b0 : decide (0 < ((rd_L2 l0 (ji5)).length : Int)) = true := decide_eq_true c13
             have c13b1 : decide (0 < (rd_L2 l0 (ji5)).length) = true := decide_eq_true (by omega)
             clear c13
             by_cases c14 : 1 < ((rd_L2 l0 x4_1).length : Int)
             ·rw [if_pos c14] at H
              have c14b0 : decide (1 < ((rd_L2 l0 x4_1).length : Int)) = true := decide_eq_true c14
              have c14b1 : decide (1 < (rd_L2 l0 x4_1).length) = true := decide_eq_true (by omega)
              clear c14
              by_cases c15 : 1 < ((rd_L2 l0 (ji5)).length : Int)
              ·rw [if_pos c15] at H
               have c15b0 : decide (1 < ((rd_L2 l0 (ji5)).length : Int)) = true := decide_eq_true c15
               have c15b1 : decide (1 < (rd_L2 l0 (ji5)).length) = true := decide_eq_true (by omega)
               clear c15
               have H' := Aside0.mk H
               clear H
               have p315 : 0 ≤ (0 : Int) := (by omega)
               have q315 : 0 < ((rd_L2 l0 x4_1).length : Int) := of_decide_eq_true (by first | (with_reducible assumption) | assumption)
               obtain ⟨ad315, e315, hx315_0⟩ := Kd.at_int HR312_0.out 0 p315 q315
               cases e315
               have qi315 : (0 < (rd_L2 l0 x4_1).length) = True := eq_true (by omega)
               (try rw [show ((0 : Int)).toNat = 0 from rfl] at hx315_0)
               (try rw [Addr.add_zero'] at hx315_0)
               replace p315 := eq_true p315
               replace q315 := eq_true q315
               have p316 : 0 ≤ (0 : Int) := (by omega)
               have q316 : 0 < ((rd_L2 l0 (ji5)).length : Int) := of_decide_eq_true (by first | (with_reducible assumption) | assumption)
               obtain ⟨ad316, e316, hx316_0⟩ := Kd.at_int HR313_0.out 0 p316 q316
               cases e316
               have qi316 : (0 < (rd_L2 l0 (ji5)).length) = True := eq_true (by omega)
               (try rw [show ((0 : Int)).toNat = 0 from rfl] at hx316_0)
               (try rw [Addr.add_zero'] at hx316_0)
               replace p316 := eq_true p316
               replace q316 := eq_true q316
               have p317 : 0 ≤ (1 : Int) := (by omega)
               have q317 : 1 < ((rd_L2 l0 x4_1).length : Int) := of_decide_eq_true (by first | (with_reducible assumption) | assumption)
               obtain ⟨ad317, e317, hx317_0⟩ := Kd.at_int HR312_0.out 1 p317 q317
               obtain rfl : ad315 = ad317 := (by injection e317)
               (try simp only [show (1 : Int).toNat = 1 from rfl, Nat.reduceMul, Nat.reduceEqDiff, Go.Addr.add, ↓reduceIte] at hx317_0)
               have qi317 : (1 < (rd_L2 l0 x4_1).length) = True := eq_true (by omega)
               (try rw [show ((1 : Int)).toNat = 1 from rfl] at hx317_0)
               replace p317 := eq_true p317
               replace q317 := eq_true q317
               have p318 : 0 ≤ (1 : Int) := (by omega)
               have q318 : 1 < ((rd_L2 l0 (ji5)).length : Int) := of_decide_eq_true (by first | (with_reducible assumption) | assumption)
               obtain ⟨ad318, e318, hx318_0⟩ := Kd.at_int HR313_0.out 1 p318 q318
               obtain rfl : ad316 = ad318 := (by injection e318)
               (try simp only [show (1 : Int).toNat = 1 from rfl, Nat.reduceMul, Nat.reduceEqDiff, Go.Addr.add, ↓reduceIte] at hx318_0)
               have qi318 : (1 < (rd_L2 l0 (ji5)).length) = True := eq_true (by omega)
               (try rw [show ((1 : Int)).toNat = 1 from rfl] at hx318_0)
               replace p318 := eq_true p318
               replace q318 := eq_true q318
               go_wp2
               repeat (go_quiet (fail); try go_wp2)
               go_meet
               case rel => exact ⟨_, (decide ((wrap64 ((wrap64 ((rd (rd_L2 l0 x4_1) 0) * (rd (rd_L2 l0 (ji5)) 0))) + (wrap64 ((rd (rd_L2 l0 x4_1) 1) * (rd (rd_L2 l0 (ji5)) 1))))) < 0)), (by first | rfl | (simp; done) | (simp only [← hji5] <;> (first | rfl | simp)) | (simp [*]; done)), H', ⟨by have := HK1.out; first | omega | exact Nat.le_refl _⟩, by repeat (first | exact Drawn0.refl _ | apply Drawn0.step)⟩
              ·rw [if_neg c15] at H
               exact absurd H (by simp)
             ·rw [if_neg c14] at H
              exact absurd H (by simp)
            ·rw [if_neg c13] at H
             exact absurd H (by simp)
           ·rw [if_neg c12] at H
            exact absurd H (by simp)
          ·rw [if_neg c11] at H
           have c11b0 : (t314 == 0) = false := beq_eq_false_iff_ne.mpr c11
           have c11b1 : (t314 != 0) = true := bne_iff_ne.mpr c11
           have H' := Aside0.mk H
           clear H
           go_wp2
           repeat (go_quiet (fail); try go_wp2)
           go_meet
           case rel => exact ⟨_, (false), (by first | rfl | (simp; done) | (simp [*]; done)), H', ⟨by have := HK1.out; first | omega | exact Nat.le_refl _⟩, by repeat (first | exact Drawn0.refl _ | apply Drawn0.step)⟩
        case rest =>
         clear HC9
         try clear c1
         try clear c2
         try clear c2b0
         try clear p2
         try clear c3
         try clear c3b0
         try clear p3
         try clear q3
         try clear hx3
         try clear qi3
         try clear c4
         try clear c4b0
         try clear c4b1
         try clear c4b2
         try clear c6
         try clear c6b0
         try clear p6
         try clear c7
         try clear c7b0
         try clear c10
         try clear c10b0
         try clear c11
         try clear c11b0
         try clear c11b1
         try clear c12
         try clear c12b0
         try clear c12b1
         try clear c13
         try clear c13b0
         try clear c13b1
         try clear c14
         try clear c14b0
         try clear c14b1
         try clear c15
         try clear c15b0
         try clear c15b1
         try clear hx312_0
         try clear hx313_0
         try clear hx315_0
         try clear hx316_0
         try clear hx317_0
         try clear hx318_0
         try clear p312
         try clear p313
         try clear p315
         try clear p316
         try clear p317
         try clear p318
         try clear q312
         try clear q313
         try clear q315
         try clear q316
         try clear q317
         try clear q318
         obtain ⟨kq, x52_8, rfl, HA, HJ8, ⟨mc8, rfl⟩⟩ := hcut
         cases kq with
         | zero => exact absurd HA.out (by simp [spec_l6sConvex.j1])
         | succ kj8 =>
          have H := HA.out
          clear HA
          simp only [spec_l6sConvex.j1] at H
          by_cases c16 : x52_8 = true
          ·subst c16
           have H1 : (some false) = some r := by rw [if_pos rfl] at H; exact H
           clear H
           have H := H1
           clear H1
           obtain rfl := Option.some.inj H
           go_wp2
           repeat (go_quiet (fail); try go_wp2)
           go_ret
           exact ⟨by first | rfl | (simp; done) | (simp only [← hji5] <;> (first | rfl | simp)) | (simp [*]; done), by repeat (first | exact Drawn0.refl _ | apply Drawn0.step)⟩
          ·replace c16 := Bool.eq_false_iff.mpr c16
           subst c16
           have H1 : ((spec_l6sBefore.f (rd_L2 l0 (ji5)) (rd_L2 l0 x4_1)).bind fun t319 => (if t319 = true then (spec_l6sConvex.l0 kj8 l0 (wrap64 (x3_1 + 1)) (wrap64 (x4_1 + 1))) else (spec_l6sConvex.l0 kj8 l0 x3_1 (wrap64 (x4_1 + 1))))) = some r := by rw [if_neg (show ¬ (false = true) by decide)] at H; exact H
           clear H
           have H := H1
           clear H1
           replace H := Option.bind_eq_some_iff.mp H
           obtain ⟨t319, A170, H⟩ := H
           replace H : (if t319 = true then (spec_l6sConvex.l0 kj8 l0 (wrap64 (x3_1 + 1)) (wrap64 (x4_1 + 1))) else (spec_l6sConvex.l0 kj8 l0 x3_1 (wrap64 (x4_1 + 1)))) = some r := H
           have A17 := Aside0.mk A170
           clear A170
           by_cases c18 : t319 = true
           ·subst c18
            have H1 : (spec_l6sConvex.l0 kj8 l0 (wrap64 (x3_1 + 1)) (wrap64 (x4_1 + 1))) = some r := by rw [if_pos rfl] at H; exact H
            clear H
            have H := H1
            clear H1
            have H' := Aside0.mk H
            clear H
            go_wp2_with (first | (go_at_call 47; (with_reducible refine (spec_l6sBefore.calls _ _ (rd_L2 l0 (ji5)) _ _ (rd_L2 l0 x4_1) true _ ?side1 ?side2 ?side3 ?side4 A17.out).mono ?_); (case side1 => repeat (first | exact HR313_0.out | (with_reducible refine Kd.C_alloc ?_ _) | (with_reducible refine Kd.C_drewN ?_ _) | (with_reducible refine Kd.C_drew ?_))); (case side2 => exact HC313_0.out); (case side3 => repeat (first | exact HR312_0.out | (with_reducible refine Kd.C_alloc ?_ _) | (with_reducible refine Kd.C_drewN ?_ _) | (with_reducible refine Kd.C_drew ?_))); (case side4 => exact HC312_0.out); rintro e w' ⟨rfl, ⟨nd, rfl⟩⟩; (try first | exact ⟨rfl, _, World.drewN_drewN _ _ _⟩ | exact ⟨rfl, _, Eq.trans (World.drewN_drewN _ _ _) (congrArg (World.drewN _) (Nat.add_assoc _ _ _))⟩)))
            repeat (go_quiet (first | (go_at_call 47; (with_reducible refine (spec_l6sBefore.calls _ _ (rd_L2 l0 (ji5)) _ _ (rd_L2 l0 x4_1) true _ ?side1 ?side2 ?side3 ?side4 A17.out).mono ?_); (case side1 => repeat (first | exact HR313_0.out | (with_reducible refine Kd.C_alloc ?_ _) | (with_reducible refine Kd.C_drewN ?_ _) | (with_reducible refine Kd.C_drew ?_))); (case side2 => exact HC313_0.out); (case side3 => repeat (first | exact HR312_0.out | (with_reducible refine Kd.C_alloc ?_ _) | (with_reducible refine Kd.C_drewN ?_ _) | (with_reducible refine Kd.C_drew ?_))); (case side4 => exact HC312_0.out); rintro e w' ⟨rfl, ⟨nd, rfl⟩⟩; (try first | exact ⟨rfl, _, World.drewN_drewN _ _ _⟩ | exact ⟨rfl, _, Eq.trans (World.drewN_drewN _ _ _) (congrArg (World.drewN _) (Nat.add_assoc _ _ _))⟩))); try go_wp2_with (first | (go_at_call 47; (with_reducible refine (spec_l6sBefore.calls _ _ (rd_L2 l0 (ji5)) _ _ (rd_L2 l0 x4_1) true _ ?side1 ?side2 ?side3 ?side4 A17.out).mono ?_); (case side1 => repeat (first | exact HR313_0.out | (with_reducible refine Kd.C_alloc ?_ _) | (with_reducible refine Kd.C_drewN ?_ _) | (with_reducible refine Kd.C_drew ?_))); (case side2 => exact HC313_0.out); (case side3 => repeat (first | exact HR312_0.out | (with_reducible refine Kd.C_alloc ?_ _) | (with_reducible refine Kd.C_drewN ?_ _) | (with_reducible refine Kd.C_drew ?_))); (case side4 => exact HC312_0.out); rintro e w' ⟨rfl, ⟨nd, rfl⟩⟩; (try first | exact ⟨rfl, _, World.drewN_drewN _ _ _⟩ | exact ⟨rfl, _, Eq.trans (World.drewN_drewN _ _ _) (congrArg (World.drewN _) (Nat.add_assoc _ _ _))⟩))))
            go_roundg kj8
            case measure => have := HK1.out; have := HJ8.out; omega
            case rel => exact ⟨(wrap64 (x3_1 + 1)), (wrap64 (x4_1 + 1)), (by first | rfl | (simp; done) | (simp [*]; done)), (by first | rfl | (simp; done) | (simp [*]; done)), H', ⟨by have := HK1.out; have := HJ8.out; omega⟩, by repeat (first | exact Drawn0.refl _ | apply Drawn0.step)⟩
           ·replace c18 := Bool.eq_false_iff.mpr c18
            subst c18
            have H1 : (spec_l6sConvex.l0 kj8 l0 x3_1 (wrap64 (x4_1 + 1))) = some r := by rw [if_neg (show ¬ (false = true) by decide)] at H; exact H
            clear H
            have H := H1
            clear H1
            have H' := Aside0.mk H
            clear H
            go_wp2_with (first | (go_at_call 47; (with_reducible refine (spec_l6sBefore.calls _ _ (rd_L2 l0 (ji5)) _ _ (rd_L2 l0 x4_1) false _ ?side1 ?side2 ?side3 ?side4 A17.out).mono ?_); (case side1 => repeat (first | exact HR313_0.out | (with_reducible refine Kd.C_alloc ?_ _) | (with_reducible refine Kd.C_drewN ?_ _) | (with_reducible refine Kd.C_drew ?_))); (case side2 => exact HC313_0.out); (case side3 => repeat (first | exact HR312_0.out | (with_reducible refine Kd.C_alloc ?_ _) | (with_reducible refine Kd.C_drewN ?_ _) | (with_reducible refine Kd.C_drew ?_))); (case side4 => exact HC312_0.out); rintro e w' ⟨rfl, ⟨nd, rfl⟩⟩; (try first | exact ⟨rfl, _, World.drewN_drewN _ _ _⟩ | exact ⟨rfl, _, Eq.trans (World.drewN_drewN _ _ _) (congrArg (World.drewN _) (Nat.add_assoc _ _ _))⟩)))
            repeat (go_quiet (first | (go_at_call 47; (with_reducible refine (spec_l6sBefore.calls _ _ (rd_L2 l0 (ji5)) _ _ (rd_L2 l0 x4_1) false _ ?side1 ?side2 ?side3 ?side4 A17.out).mono ?_); (case side1 => repeat (first | exact HR313_0.out | (with_reducible refine Kd.C_alloc ?_ _) | (with_reducible refine Kd.C_drewN ?_ _) | (with_reducible refine Kd.C_drew ?_))); (case side2 => exact HC313_0.out); (case side3 => repeat (first | exact HR312_0.out | (with_reducible refine Kd.C_alloc ?_ _) | (with_reducible refine Kd.C_drewN ?_ _) | (with_reducible refine Kd.C_drew ?_))); (case side4 => exact HC312_0.out); rintro e w' ⟨rfl, ⟨nd, rfl⟩⟩; (try first | exact ⟨rfl, _, World.drewN_drewN _ _ _⟩ | exact ⟨rfl, _, Eq.trans (World.drewN_drewN _ _ _) (congrArg (World.drewN _) (Nat.add_assoc _ _ _))⟩))); try go_wp2_with (first | (go_at_call 47; (with_reducible refine (spec_l6sBefore.calls _ _ (rd_L2 l0 (ji5)) _ _ (rd_L2 l0 x4_1) false _ ?side1 ?side2 ?side3 ?side4 A17.out).mono ?_); (case side1 => repeat (first | exact HR313_0.out | (with_reducible refine Kd.C_alloc ?_ _) | (with_reducible refine Kd.C_drewN ?_ _) | (with_reducible refine Kd.C_drew ?_))); (case side2 => exact HC313_0.out); (case side3 => repeat (first | exact HR312_0.out | (with_reducible refine Kd.C_alloc ?_ _) | (with_reducible refine Kd.C_drewN ?_ _) | (with_reducible refine Kd.C_drew ?_))); (case side4 => exact HC312_0.out); rintro e w' ⟨rfl, ⟨nd, rfl⟩⟩; (try first | exact ⟨rfl, _, World.drewN_drewN _ _ _⟩ | exact ⟨rfl, _, Eq.trans (World.drewN_drewN _ _ _) (congrArg (World.drewN _) (Nat.add_assoc _ _ _))⟩))))
            go_roundg kj8
            case measure => have := HK1.out; have := HJ8.out; omega
            case rel => exact ⟨(x3_1), (wrap64 (x4_1 + 1)), (by first | rfl | (simp; done) | (simp [*]; done)), (by first | rfl | (simp; done) | (simp [*]; done)), H', ⟨by have := HK1.out; have := HJ8.out; omega⟩, by repeat (first | exact Drawn0.refl _ | apply Drawn0.step)⟩
       ·rw [if_neg c7] at H
        exact absurd H (by simp)
      ·rw [if_neg c6] at H
       exact absurd H (by simp)
    ·rw [if_neg c3] at H
     exact absurd H (by simp)
   ·rw [if_neg c2] at H
    have c2b0 : decide (x4_1 < (l0.length : Int)) = false := decide_eq_false c2
    clear c2
    obtain rfl := Option.some.inj H
    go_wp2
    repeat (go_quiet (fail); try go_wp2)
    go_ret
    exact ⟨by first | rfl | (simp; done) | (simp [*]; done), by repeat (first | exact Drawn0.refl _ | apply Drawn0.step)⟩

end Go.Proofs.Ytdjddfeokpmfaaa.PFnFewest
