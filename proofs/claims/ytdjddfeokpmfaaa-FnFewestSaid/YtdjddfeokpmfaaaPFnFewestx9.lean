-- Made by hprint.py (wip/) out of the translation; not trusted: Lean checks it.
import Derived.Test.YtdjddfeokpmfaaaPFnFewestx0
namespace Go.Proofs.Ytdjddfeokpmfaaa.PFnFewest
open Go.RowKit Go.Proofs.YtdjddfeokpmfaaaW.PrintWords Go.Proofs.YtdjddfeokpmfaaaW.PrintLast Go.Proofs.YtdjddfeokpmfaaaW.PrintMore
attribute [local go_sem] max2_int min2_int max_two min_two max_three min_three max_four min_four   -- for this text's walks alone
set_option linter.unusedVariables false
set_option linter.unusedSimpArgs false

/-! ### spec_l7Equal: function 26 -/
def spec_l7Equal.l0 : Nat → List (List Int) → List (List Int) → Int → Option (Bool)
 | 0, _, _, _ => none
 | k + 1, x0, x1, x5 => if x5 < (x0.length : Int) then (if 0 ≤ x5 then (if 0 < ((rd_L2 x0 x5).length : Int) then (if x5 < (x1.length : Int) then (if 0 < ((rd_L2 x1 x5).length : Int) then (if (rd (rd_L2 x0 x5) 0) = (rd (rd_L2 x1 x5) 0) then (if 1 < ((rd_L2 x0 x5).length : Int) then (if 1 < ((rd_L2 x1 x5).length : Int) then (if (rd (rd_L2 x0 x5) 1) = (rd (rd_L2 x1 x5) 1) then (spec_l7Equal.l0 k x0 x1 (wrap64 (x5 + 1))) else (some false)) else (none)) else (none)) else (some false)) else (none)) else (none)) else (none)) else (none)) else (some ((x0.length : Int) == (x1.length : Int)))
def spec_l7Equal.f (k : Nat) (l0 : List (List Int)) (l1 : List (List Int)) : Option (Bool) := spec_l7Equal.l0 k l0 l1 0
theorem spec_l7Equal.mono_l : ∀ k, (∀ y0 y1 y2, LeO (spec_l7Equal.l0 k y0 y1 y2) (spec_l7Equal.l0 (k + 1) y0 y1 y2))
 | 0 => fun _ _ _ r h => by simp [spec_l7Equal.l0] at h
 | k + 1 => by
  have ih0 := spec_l7Equal.mono_l k
  ·intro y0 y1 y2
   unfold spec_l7Equal.l0
   repeat' first
   | (with_reducible exact ih0 _ _ _)
   | (with_reducible exact LeO.refl _)
   | (with_reducible exact LeO.none _)
   | (with_reducible refine LeO.ite ?_ ?_)
   | (with_reducible refine LeO.bind ?_ (fun _ => ?_))
   | exact ih0 _ _ _
   | exact LeO.none _
   | refine LeO.ite ?_ ?_
   | refine LeO.bind ?_ (fun _ => ?_)
theorem spec_l7Equal.mono : ∀ a0 a1 k, LeO (spec_l7Equal.f k a0 a1) (spec_l7Equal.f (k + 1) a0 a1) := by
 intro a0 a1 k
 have ih0 := spec_l7Equal.mono_l k
 unfold spec_l7Equal.f
 repeat' first
  | (with_reducible exact ih0 _ _ _)
  | (with_reducible exact LeO.refl _)
  | (with_reducible exact LeO.none _)
  | (with_reducible refine LeO.ite ?_ ?_)
  | (with_reducible refine LeO.bind ?_ (fun _ => ?_))
  | exact ih0 _ _ _
  | exact LeO.none _
  | refine LeO.ite ?_ ?_
  | refine LeO.bind ?_ (fun _ => ?_)
set_option maxHeartbeats 8000000 in
set_option maxRecDepth 100000 in
theorem spec_l7Equal.calls (k : Nat) (A0 : Option Addr) (c0 : Nat) (l0 : List (List Int)) (A1 : Option Addr) (c1 : Nat) (l1 : List (List Int)) (r : Bool) (w : World) (hr0 : Kd.C (Kd.slice 3 (Kd.int .i64)) w A0 l0.length l0) (hc0 : l0.length ≤ c0) (hr1 : Kd.C (Kd.slice 3 (Kd.int .i64)) w A1 l1.length l1) (hc1 : l1.length ≤ c1) (h : spec_l7Equal.f k l0 l1 = some r) :
 Calls Try.prog 26 #[.slice A0 l0.length c0, .slice A1 l1.length c1] w fun e w' => e = .returned (.bool r) ∧ Drawn0 w w' := by
 have HR0 := Aside0.mk hr0
 have HC0 := Aside0.mk hc0
 clear hr0 hc0
 have HR1 := Aside0.mk hr1
 have HC1 := Aside0.mk hc1
 clear hr1 hc1
 have H : (spec_l7Equal.l0 k l0 l1 0) = some r := h
 clear h
 have H' := Aside0.mk H
 clear H
 go_enter Try.func26, Try.ntmps26
 go_wp2
 repeat (go_quiet (fail); try go_wp2)
 go_loopg [5] k (fun kq v5 w' => ∃ (x5_1 : Int), v5 = .int .i64 x5_1 ∧ Aside0 (spec_l7Equal.l0 kq l0 l1 x5_1 = some r) ∧ Aside0 (kq ≤ k) ∧ Drawn0 w w')
 case atStart => exact ⟨(0), (by first | rfl | (simp; done) | (simp [*]; done)), H', ⟨Nat.le_refl _⟩, by repeat (first | exact Drawn0.refl _ | apply Drawn0.step)⟩
 case round =>
  clear H'
  try clear c1
  try clear c2
  try clear p2
  obtain ⟨x5_1, rfl, HA, HK1, ⟨m1, rfl⟩⟩ := hrel
  cases gk with
  | zero => exact absurd HA.out (by simp [spec_l7Equal.l0])
  | succ k1 =>
   have H := HA.out
   clear HA
   simp only [spec_l7Equal.l0] at H
   by_cases c3 : x5_1 < (l0.length : Int)
   ·rw [if_pos c3] at H
    have c3b0 : decide (x5_1 < (l0.length : Int)) = true := decide_eq_true c3
    clear c3
    by_cases c4 : 0 ≤ x5_1
    ·rw [if_pos c4] at H
     have c4b0 : decide (0 ≤ x5_1) = true := decide_eq_true c4
     clear c4
     by_cases c5 : 0 < ((rd_L2 l0 x5_1).length : Int)
     ·rw [if_pos c5] at H
      have c5b0 : decide (0 < ((rd_L2 l0 x5_1).length : Int)) = true := decide_eq_true c5
      have c5b1 : decide (0 < (rd_L2 l0 x5_1).length) = true := decide_eq_true (by omega)
      clear c5
      by_cases c6 : x5_1 < (l1.length : Int)
      ·rw [if_pos c6] at H
       have c6b0 : decide (x5_1 < (l1.length : Int)) = true := decide_eq_true c6
       clear c6
       by_cases c7 : 0 < ((rd_L2 l1 x5_1).length : Int)
       ·rw [if_pos c7] at H
        have c7b0 : decide (0 < ((rd_L2 l1 x5_1).length : Int)) = true := decide_eq_true c7
        have c7b1 : decide (0 < (rd_L2 l1 x5_1).length) = true := decide_eq_true (by omega)
        clear c7
        by_cases c8 : (rd (rd_L2 l0 x5_1) 0) = (rd (rd_L2 l1 x5_1) 0)
        ·rw [if_pos c8] at H
         have c8b0 : ((rd (rd_L2 l0 x5_1) 0) == (rd (rd_L2 l1 x5_1) 0)) = true := beq_iff_eq.mpr c8
         have c8b1 : ((rd (rd_L2 l0 x5_1) 0) != (rd (rd_L2 l1 x5_1) 0)) = false := bne_eq_false_iff_eq.mpr c8
         clear c8
         by_cases c9 : 1 < ((rd_L2 l0 x5_1).length : Int)
         ·rw [if_pos c9] at H
          have c9b0 : decide (1 < ((rd_L2 l0 x5_1).length : Int)) = true := decide_eq_true c9
          have c9b1 : decide (1 < (rd_L2 l0 x5_1).length) = true := decide_eq_true (by omega)
          clear c9
          by_cases c10 : 1 < ((rd_L2 l1 x5_1).length : Int)
          ·rw [if_pos c10] at H
           have c10b0 : decide (1 < ((rd_L2 l1 x5_1).length : Int)) = true := decide_eq_true c10
           have c10b1 : decide (1 < (rd_L2 l1 x5_1).length) = true := decide_eq_true (by omega)
           clear c10
           by_cases c11 : (rd (rd_L2 l0 x5_1) 1) = (rd (rd_L2 l1 x5_1) 1)
           ·rw [if_pos c11] at H
            have c11b0 : ((rd (rd_L2 l0 x5_1) 1) == (rd (rd_L2 l1 x5_1) 1)) = true := beq_iff_eq.mpr c11
            have c11b1 : ((rd (rd_L2 l0 x5_1) 1) != (rd (rd_L2 l1 x5_1) 1)) = false := bne_eq_false_iff_eq.mpr c11
            clear c11
            have H' := Aside0.mk H
            clear H
            have p349 : 0 ≤ (x5_1 : Int) := of_decide_eq_true (by first | (with_reducible assumption) | assumption)
            have q349 : x5_1 < (l0.length : Int) := of_decide_eq_true (by first | (with_reducible assumption) | assumption)
            obtain ⟨ad349, A349_0, c349_0, e349, hx349_0, hl349_0, hi349_0⟩ := at_L2 HR0.out x5_1 p349 q349
            cases e349
            have HR349_0 := Aside0.mk hi349_0
            have HC349_0 := Aside0.mk hl349_0
            clear hi349_0 hl349_0
            replace p349 := eq_true p349
            replace q349 := eq_true q349
            have p350 : 0 ≤ (0 : Int) := (by omega)
            have q350 : 0 < ((rd_L2 l0 x5_1).length : Int) := of_decide_eq_true (by first | (with_reducible assumption) | assumption)
            obtain ⟨ad350, e350, hx350_0⟩ := Kd.at_int HR349_0.out 0 p350 q350
            cases e350
            have qi350 : (0 < (rd_L2 l0 x5_1).length) = True := eq_true (by omega)
            (try rw [show ((0 : Int)).toNat = 0 from rfl] at hx350_0)
            (try rw [Addr.add_zero'] at hx350_0)
            replace p350 := eq_true p350
            replace q350 := eq_true q350
            have p351 : 0 ≤ (x5_1 : Int) := of_decide_eq_true (by first | (with_reducible assumption) | assumption)
            have q351 : x5_1 < (l1.length : Int) := of_decide_eq_true (by first | (with_reducible assumption) | assumption)
            obtain ⟨ad351, A351_0, c351_0, e351, hx351_0, hl351_0, hi351_0⟩ := at_L2 HR1.out x5_1 p351 q351
            cases e351
            have HR351_0 := Aside0.mk hi351_0
            have HC351_0 := Aside0.mk hl351_0
            clear hi351_0 hl351_0
            replace p351 := eq_true p351
            replace q351 := eq_true q351
            have p352 : 0 ≤ (0 : Int) := (by omega)
            have q352 : 0 < ((rd_L2 l1 x5_1).length : Int) := of_decide_eq_true (by first | (with_reducible assumption) | assumption)
            obtain ⟨ad352, e352, hx352_0⟩ := Kd.at_int HR351_0.out 0 p352 q352
            cases e352
            have qi352 : (0 < (rd_L2 l1 x5_1).length) = True := eq_true (by omega)
            (try rw [show ((0 : Int)).toNat = 0 from rfl] at hx352_0)
            (try rw [Addr.add_zero'] at hx352_0)
            replace p352 := eq_true p352
            replace q352 := eq_true q352
            have p353 : 0 ≤ (x5_1 : Int) := of_decide_eq_true (by first | (with_reducible assumption) | assumption)
            have q353 : x5_1 < (l0.length : Int) := of_decide_eq_true (by first | (with_reducible assumption) | assumption)
            obtain ⟨ad353, A353_0, c353_0, e353, hx353_0, hl353_0, hi353_0⟩ := at_L2 HR0.out x5_1 p353 q353
            obtain rfl : ad349 = ad353 := (by injection e353)
            have HR353_0 := Aside0.mk hi353_0
            have HC353_0 := Aside0.mk hl353_0
            clear hi353_0 hl353_0
            replace p353 := eq_true p353
            replace q353 := eq_true q353
            have ea_ := Option.some.inj (hx349_0.symm.trans hx353_0)
            injection ea_ with ea_ en_ ec_
            subst ea_
            subst ec_
            clear en_
            have p354 : 0 ≤ (1 : Int) := (by omega)
            have q354 : 1 < ((rd_L2 l0 x5_1).length : Int) := of_decide_eq_true (by first | (with_reducible assumption) | assumption)
            obtain ⟨ad354, e354, hx354_0⟩ := Kd.at_int HR353_0.out 1 p354 q354
            cases e354
            (try simp only [show (1 : Int).toNat = 1 from rfl, Nat.reduceMul, Nat.reduceEqDiff, Go.Addr.add, ↓reduceIte] at hx354_0)
            have qi354 : (1 < (rd_L2 l0 x5_1).length) = True := eq_true (by omega)
            (try rw [show ((1 : Int)).toNat = 1 from rfl] at hx354_0)
            replace p354 := eq_true p354
            replace q354 := eq_true q354
            have p355 : 0 ≤ (x5_1 : Int) := of_decide_eq_true (by first | (with_reducible assumption) | assumption)
            have q355 : x5_1 < (l1.length : Int) := of_decide_eq_true (by first | (with_reducible assumption) | assumption)
            obtain ⟨ad355, A355_0, c355_0, e355, hx355_0, hl355_0, hi355_0⟩ := at_L2 HR1.out x5_1 p355 q355
            obtain rfl : ad351 = ad355 := (by injection e355)
            have HR355_0 := Aside0.mk hi355_0
            have HC355_0 := Aside0.mk hl355_0
            clear hi355_0 hl355_0
            replace p355 := eq_true p355
            replace q355 := eq_true q355
            have ea_ := Option.some.inj (hx351_0.symm.trans hx355_0)
            injection ea_ with ea_ en_ ec_
            subst ea_
            subst ec_
            clear en_
            have p356 : 0 ≤ (1 : Int) := (by omega)
            have q356 : 1 < ((rd_L2 l1 x5_1).length : Int) := of_decide_eq_true (by first | (with_reducible assumption) | assumption)
            obtain ⟨ad356, e356, hx356_0⟩ := Kd.at_int HR355_0.out 1 p356 q356
            cases e356
            (try simp only [show (1 : Int).toNat = 1 from rfl, Nat.reduceMul, Nat.reduceEqDiff, Go.Addr.add, ↓reduceIte] at hx356_0)
            have qi356 : (1 < (rd_L2 l1 x5_1).length) = True := eq_true (by omega)
            (try rw [show ((1 : Int)).toNat = 1 from rfl] at hx356_0)
            replace p356 := eq_true p356
            replace q356 := eq_true q356
            go_wp2
            repeat (go_quiet (fail); try go_wp2)
            go_roundg k1
            case measure => have := HK1.out; omega
            case rel => exact ⟨(wrap64 (x5_1 + 1)), (by first | rfl | (simp; done) | (simp [*]; done)), H', ⟨by have := HK1.out; omega⟩, by repeat (first | exact Drawn0.refl _ | apply Drawn0.step)⟩
           ·rw [if_neg c11] at H
            have c11b0 : ((rd (rd_L2 l0 x5_1) 1) == (rd (rd_L2 l1 x5_1) 1)) = false := beq_eq_false_iff_ne.mpr c11
            have c11b1 : ((rd (rd_L2 l0 x5_1) 1) != (rd (rd_L2 l1 x5_1) 1)) = true := bne_iff_ne.mpr c11
            obtain rfl := Option.some.inj H
            have p349 : 0 ≤ (x5_1 : Int) := of_decide_eq_true (by first | (with_reducible assumption) | assumption)
            have q349 : x5_1 < (l0.length : Int) := of_decide_eq_true (by first | (with_reducible assumption) | assumption)
            obtain ⟨ad349, A349_0, c349_0, e349, hx349_0, hl349_0, hi349_0⟩ := at_L2 HR0.out x5_1 p349 q349
            cases e349
            have HR349_0 := Aside0.mk hi349_0
            have HC349_0 := Aside0.mk hl349_0
            clear hi349_0 hl349_0
            replace p349 := eq_true p349
            replace q349 := eq_true q349
            have p350 : 0 ≤ (0 : Int) := (by omega)
            have q350 : 0 < ((rd_L2 l0 x5_1).length : Int) := of_decide_eq_true (by first | (with_reducible assumption) | assumption)
            obtain ⟨ad350, e350, hx350_0⟩ := Kd.at_int HR349_0.out 0 p350 q350
            cases e350
            have qi350 : (0 < (rd_L2 l0 x5_1).length) = True := eq_true (by omega)
            (try rw [show ((0 : Int)).toNat = 0 from rfl] at hx350_0)
            (try rw [Addr.add_zero'] at hx350_0)
            replace p350 := eq_true p350
            replace q350 := eq_true q350
            have p351 : 0 ≤ (x5_1 : Int) := of_decide_eq_true (by first | (with_reducible assumption) | assumption)
            have q351 : x5_1 < (l1.length : Int) := of_decide_eq_true (by first | (with_reducible assumption) | assumption)
            obtain ⟨ad351, A351_0, c351_0, e351, hx351_0, hl351_0, hi351_0⟩ := at_L2 HR1.out x5_1 p351 q351
            cases e351
            have HR351_0 := Aside0.mk hi351_0
            have HC351_0 := Aside0.mk hl351_0
            clear hi351_0 hl351_0
            replace p351 := eq_true p351
            replace q351 := eq_true q351
            have p352 : 0 ≤ (0 : Int) := (by omega)
            have q352 : 0 < ((rd_L2 l1 x5_1).length : Int) := of_decide_eq_true (by first | (with_reducible assumption) | assumption)
            obtain ⟨ad352, e352, hx352_0⟩ := Kd.at_int HR351_0.out 0 p352 q352
            cases e352
            have qi352 : (0 < (rd_L2 l1 x5_1).length) = True := eq_true (by omega)
            (try rw [show ((0 : Int)).toNat = 0 from rfl] at hx352_0)
            (try rw [Addr.add_zero'] at hx352_0)
            replace p352 := eq_true p352
            replace q352 := eq_true q352
            have p353 : 0 ≤ (x5_1 : Int) := of_decide_eq_true (by first | (with_reducible assumption) | assumption)
            have q353 : x5_1 < (l0.length : Int) := of_decide_eq_true (by first | (with_reducible assumption) | assumption)
            obtain ⟨ad353, A353_0, c353_0, e353, hx353_0, hl353_0, hi353_0⟩ := at_L2 HR0.out x5_1 p353 q353
            obtain rfl : ad349 = ad353 := (by injection e353)
            have HR353_0 := Aside0.mk hi353_0
            have HC353_0 := Aside0.mk hl353_0
            clear hi353_0 hl353_0
            replace p353 := eq_true p353
            replace q353 := eq_true q353
            have ea_ := Option.some.inj (hx349_0.symm.trans hx353_0)
            injection ea_ with ea_ en_ ec_
            subst ea_
            subst ec_
            clear en_
            have p354 : 0 ≤ (1 : Int) := (by omega)
            have q354 : 1 < ((rd_L2 l0 x5_1).length : Int) := of_decide_eq_true (by first | (with_reducible assumption) | assumption)
            obtain ⟨ad354, e354, hx354_0⟩ := Kd.at_int HR353_0.out 1 p354 q354
            cases e354
            (try simp only [show (1 : Int).toNat = 1 from rfl, Nat.reduceMul, Nat.reduceEqDiff, Go.Addr.add, ↓reduceIte] at hx354_0)
            have qi354 : (1 < (rd_L2 l0 x5_1).length) = True := eq_true (by omega)
            (try rw [show ((1 : Int)).toNat = 1 from rfl] at hx354_0)
            replace p354 := eq_true p354
            replace q354 := eq_true q354
            have p355 : 0 ≤ (x5_1 : Int) := of_decide_eq_true (by first | (with_reducible assumption) | assumption)
            have q355 : x5_1 < (l1.length : Int) := of_decide_eq_true (by first | (with_reducible assumption) | assumption)
            obtain ⟨ad355, A355_0, c355_0, e355, hx355_0, hl355_0, hi355_0⟩ := at_L2 HR1.out x5_1 p355 q355
            obtain rfl : ad351 = ad355 := (by injection e355)
            have HR355_0 := Aside0.mk hi355_0
            have HC355_0 := Aside0.mk hl355_0
            clear hi355_0 hl355_0
            replace p355 := eq_true p355
            replace q355 := eq_true q355
            have ea_ := Option.some.inj (hx351_0.symm.trans hx355_0)
            injection ea_ with ea_ en_ ec_
            subst ea_
            subst ec_
            clear en_
            have p356 : 0 ≤ (1 : Int) := (by omega)
            have q356 : 1 < ((rd_L2 l1 x5_1).length : Int) := of_decide_eq_true (by first | (with_reducible assumption) | assumption)
            obtain ⟨ad356, e356, hx356_0⟩ := Kd.at_int HR355_0.out 1 p356 q356
            cases e356
            (try simp only [show (1 : Int).toNat = 1 from rfl, Nat.reduceMul, Nat.reduceEqDiff, Go.Addr.add, ↓reduceIte] at hx356_0)
            have qi356 : (1 < (rd_L2 l1 x5_1).length) = True := eq_true (by omega)
            (try rw [show ((1 : Int)).toNat = 1 from rfl] at hx356_0)
            replace p356 := eq_true p356
            replace q356 := eq_true q356
            go_wp2
            repeat (go_quiet (fail); try go_wp2)
            go_ret
            exact ⟨by first | rfl | (simp; done) | (simp [*]; done), by repeat (first | exact Drawn0.refl _ | apply Drawn0.step)⟩
          ·rw [if_neg c10] at H
           exact absurd H (by simp)
         ·rw [if_neg c9] at H
          exact absurd H (by simp)
        ·rw [if_neg c8] at H
         have c8b0 : ((rd (rd_L2 l0 x5_1) 0) == (rd (rd_L2 l1 x5_1) 0)) = false := beq_eq_false_iff_ne.mpr c8
         have c8b1 : ((rd (rd_L2 l0 x5_1) 0) != (rd (rd_L2 l1 x5_1) 0)) = true := bne_iff_ne.mpr c8
         obtain rfl := Option.some.inj H
         have p349 : 0 ≤ (x5_1 : Int) := of_decide_eq_true (by first | (with_reducible assumption) | assumption)
         have q349 : x5_1 < (l0.length : Int) := of_decide_eq_true (by first | (with_reducible assumption) | assumption)
         obtain ⟨ad349, A349_0, c349_0, e349, hx349_0, hl349_0, hi349_0⟩ := at_L2 HR0.out x5_1 p349 q349
         cases e349
         have HR349_0 := Aside0.mk hi349_0
         have HC349_0 := Aside0.mk hl349_0
         clear hi349_0 hl349_0
         replace p349 := eq_true p349
         replace q349 := eq_true q349
         have p350 : 0 ≤ (0 : Int) := (by omega)
         have q350 : 0 < ((rd_L2 l0 x5_1).length : Int) := of_decide_eq_true (by first | (with_reducible assumption) | assumption)
         obtain ⟨ad350, e350, hx350_0⟩ := Kd.at_int HR349_0.out 0 p350 q350
         cases e350
         have qi350 : (0 < (rd_L2 l0 x5_1).length) = True := eq_true (by omega)
         (try rw [show ((0 : Int)).toNat = 0 from rfl] at hx350_0)
         (try rw [Addr.add_zero'] at hx350_0)
         replace p350 := eq_true p350
         replace q350 := eq_true q350
         have p351 : 0 ≤ (x5_1 : Int) := of_decide_eq_true (by first | (with_reducible assumption) | assumption)
         have q351 : x5_1 < (l1.length : Int) := of_decide_eq_true (by first | (with_reducible assumption) | assumption)
         obtain ⟨ad351, A351_0, c351_0, e351, hx351_0, hl351_0, hi351_0⟩ := at_L2 HR1.out x5_1 p351 q351
         cases e351
         have HR351_0 := Aside0.mk hi351_0
         have HC351_0 := Aside0.mk hl351_0
         clear hi351_0 hl351_0
         replace p351 := eq_true p351
         replace q351 := eq_true q351
         have p352 : 0 ≤ (0 : Int) := (by omega)
         have q352 : 0 < ((rd_L2 l1 x5_1).length : Int) := of_decide_eq_true (by first | (with_reducible assumption) | assumption)
         obtain ⟨ad352, e352, hx352_0⟩ := Kd.at_int HR351_0.out 0 p352 q352
         cases e352
         have qi352 : (0 < (rd_L2 l1 x5_1).length) = True := eq_true (by omega)
         (try rw [show ((0 : Int)).toNat = 0 from rfl] at hx352_0)
         (try rw [Addr.add_zero'] at hx352_0)
         replace p352 := eq_true p352
         replace q352 := eq_true q352
         go_wp2
         repeat (go_quiet (fail); try go_wp2)
         go_ret
         exact ⟨by first | rfl | (simp; done) | (simp [*]; done), by repeat (first | exact Drawn0.refl _ | apply Drawn0.step)⟩
       ·rw [if_neg c7] at H
        exact absurd H (by simp)
      ·rw [if_neg c6] at H
       exact absurd H (by simp)
     ·rw [if_neg c5] at H
      exact absurd H (by simp)
    ·rw [if_neg c4] at H
     exact absurd H (by simp)
   ·rw [if_neg c3] at H
    have c3b0 : decide (x5_1 < (l0.length : Int)) = false := decide_eq_false c3
    clear c3
    obtain rfl := Option.some.inj H
    go_wp2
    repeat (go_quiet (fail); try go_wp2)
    go_ret
    exact ⟨by first | rfl | (simp; done) | (simp [*]; done), by repeat (first | exact Drawn0.refl _ | apply Drawn0.step)⟩

end Go.Proofs.Ytdjddfeokpmfaaa.PFnFewest
