-- Made by hprint.py (wip/) out of the translation; not trusted: Lean checks it.
import Derived.Test.YtbcfgglcabeckaaPFnOrderLatticex0
import Derived.Test.YtbcfgglcabeckaaPFnOrderLatticex2
namespace Go.Proofs.Ytbcfgglcabeckaa.PFnOrderLattice
open Go.RowKit Go.Proofs.YtbcfgglcabeckaaW.PrintWords Go.Proofs.YtbcfgglcabeckaaW.PrintLast Go.Proofs.YtbcfgglcabeckaaW.PrintMore
attribute [local go_sem] max2_int min2_int max_two min_two max_three min_three max_four min_four   -- for this text's walks alone
set_option linter.unusedVariables false
set_option linter.unusedSimpArgs false

/-! ### impl_PathIn: function 23 -/
mutual
def impl_PathIn.j0 : Nat → List (List Int) → Bool → Option (Bool)
  | 0, _, _ => none
  | k + 1, x0, x14 => if x14 = true then (some false) else (impl_PathIn.l0 k 0 0 x0 (x0.length : Int) 0)
def impl_PathIn.l0 : Nat → Int → Int → List (List Int) → Int → Int → Option (Bool)
  | 0, _, _, _, _, _ => none
  | k + 1, x3, x4, x15, x16, x17 => if x17 < x16 then (if 0 ≤ x17 then (if x17 < (x15.length : Int) then ((impl_isStep.f (rd_L1 x15 x17)).bind fun t132 => (if t132 = true then (if 0 < ((rd_L1 x15 x17).length : Int) then (if 1 < ((rd_L1 x15 x17).length : Int) then (impl_PathIn.l0 k (wrap64 (x3 + (rd (rd_L1 x15 x17) 0))) (wrap64 (x4 + (rd (rd_L1 x15 x17) 1))) x15 x16 (wrap64 (x17 + 1))) else (none)) else (none)) else (some false))) else (none)) else (none)) else (if x3 = 0 then (some (x4 == 0)) else (some false))
end
def impl_PathIn.f (k : Nat) (l0 : List (List Int)) : Option (Bool) := if (l0.length : Int) < 3 then (impl_PathIn.j0 k l0 true) else (impl_PathIn.j0 k l0 (decide ((l0.length : Int) > 8)))
theorem impl_PathIn.mono_l : ∀ k, (∀ y0 y1, LeO (impl_PathIn.j0 k y0 y1) (impl_PathIn.j0 (k + 1) y0 y1)) ∧ (∀ y0 y1 y2 y3 y4, LeO (impl_PathIn.l0 k y0 y1 y2 y3 y4) (impl_PathIn.l0 (k + 1) y0 y1 y2 y3 y4))
  | 0 => ⟨fun _ _ r h => by simp [impl_PathIn.j0] at h, fun _ _ _ _ _ r h => by simp [impl_PathIn.l0] at h⟩
  | k + 1 => by
    obtain ⟨ih0, ih1⟩ := impl_PathIn.mono_l k
    refine ⟨?_, ?_⟩
    · intro y0 y1
      unfold impl_PathIn.j0
      repeat' first
      | (with_reducible exact ih0 _ _)
      | (with_reducible exact ih1 _ _ _ _ _)
      | (with_reducible exact LeO.refl _)
      | (with_reducible exact LeO.none _)
      | (with_reducible refine LeO.ite ?_ ?_)
      | (with_reducible refine LeO.bind ?_ (fun _ => ?_))
      | exact ih0 _ _
      | exact ih1 _ _ _ _ _
      | exact LeO.none _
      | refine LeO.ite ?_ ?_
      | refine LeO.bind ?_ (fun _ => ?_)
    · intro y0 y1 y2 y3 y4
      unfold impl_PathIn.l0
      repeat' first
      | (with_reducible exact ih0 _ _)
      | (with_reducible exact ih1 _ _ _ _ _)
      | (with_reducible exact LeO.refl _)
      | (with_reducible exact LeO.none _)
      | (with_reducible refine LeO.ite ?_ ?_)
      | (with_reducible refine LeO.bind ?_ (fun _ => ?_))
      | exact ih0 _ _
      | exact ih1 _ _ _ _ _
      | exact LeO.none _
      | refine LeO.ite ?_ ?_
      | refine LeO.bind ?_ (fun _ => ?_)
theorem impl_PathIn.mono : ∀ a0 k, LeO (impl_PathIn.f k a0) (impl_PathIn.f (k + 1) a0) := by
  intro a0 k
  obtain ⟨ih0, ih1⟩ := impl_PathIn.mono_l k
  unfold impl_PathIn.f
  repeat' first
      | (with_reducible exact ih0 _ _)
      | (with_reducible exact ih1 _ _ _ _ _)
      | (with_reducible exact LeO.refl _)
      | (with_reducible exact LeO.none _)
      | (with_reducible refine LeO.ite ?_ ?_)
      | (with_reducible refine LeO.bind ?_ (fun _ => ?_))
      | exact ih0 _ _
      | exact ih1 _ _ _ _ _
      | exact LeO.none _
      | refine LeO.ite ?_ ?_
      | refine LeO.bind ?_ (fun _ => ?_)
set_option maxHeartbeats 8000000 in
set_option maxRecDepth 100000 in
theorem impl_PathIn.calls (k : Nat) (A0 : Option Addr) (c0 : Nat) (l0 : List (List Int)) (r : Bool) (w : World) (hr0 : Kd.C (Kd.slice 3 (Kd.int .i64)) w A0 l0.length l0) (hc0 : l0.length ≤ c0) (h : impl_PathIn.f k l0 = some r) :
    Calls Try.prog 23 #[.slice A0 l0.length c0] w fun e w' => e = .returned (.bool r) ∧ Drawn0 w w' := by
  have HR0 := Aside0.mk hr0
  have HC0 := Aside0.mk hc0
  clear hr0 hc0
  have H : (if (l0.length : Int) < 3 then (impl_PathIn.j0 k l0 true) else (impl_PathIn.j0 k l0 (decide ((l0.length : Int) > 8)))) = some r := h
  clear h
  have HC2 := Aside0.mk H
  clear H
  go_enter Try.func23, Try.ntmps23
  go_upto_region 1 with (fail)
  go_cut [14] (fun v14 wc => ∃ (kq : Nat) (x14_1 : Bool), v14 = .bool x14_1 ∧ Aside0 (impl_PathIn.j0 kq l0 x14_1 = some r) ∧ Aside0 (kq ≤ k) ∧ Drawn0 w wc)
  case first =>
    have H := HC2.out
    clear HC2
    by_cases c3 : (l0.length : Int) < 3
    · rw [if_pos c3] at H
      have c3b0 : decide ((l0.length : Int) < 3) = true := decide_eq_true c3
      have c3b1 : decide (l0.length < 3) = true := decide_eq_true (by omega)
      clear c3
      (first | rw [c3b0] | (simp only [i64_w, i32_w]; rw [c3b0]) | skip)
      have H' := Aside0.mk H
      clear H
      go_wp2
      go_meet
      case rel => exact ⟨_, (true), (by first | rfl | (simp; done) | (simp [*]; done)), H', ⟨by first | omega | exact Nat.le_refl _⟩, by repeat (first | exact Drawn0.refl _ | apply Drawn0.step)⟩
    · rw [if_neg c3] at H
      have c3b0 : decide ((l0.length : Int) < 3) = false := decide_eq_false c3
      have c3b1 : decide (l0.length < 3) = false := decide_eq_false (by omega)
      clear c3
      (first | rw [c3b0] | (simp only [i64_w, i32_w]; rw [c3b0]) | skip)
      have H' := Aside0.mk H
      clear H
      go_wp2
      go_meet
      case rel => exact ⟨_, (decide ((l0.length : Int) > 8)), (by first | rfl | (simp; done) | (simp [*]; done)), H', ⟨by first | omega | exact Nat.le_refl _⟩, by repeat (first | exact Drawn0.refl _ | apply Drawn0.step)⟩
  case rest =>
    clear HC2
    try clear c2
    try clear p2
    try clear c3
    try clear c3b0
    try clear c3b1
    obtain ⟨kq, x14_1, rfl, HA, HJ1, ⟨mc1, rfl⟩⟩ := hcut
    cases kq with
    | zero => exact absurd HA.out (by simp [impl_PathIn.j0])
    | succ kj1 =>
      have H := HA.out
      clear HA
      simp only [impl_PathIn.j0] at H
      by_cases c4 : x14_1 = true
      · subst c4
        have H1 : (some false) = some r := by rw [if_pos rfl] at H; exact H
        clear H
        have H := H1
        clear H1
        obtain rfl := Option.some.inj H
        go_wp2
        go_ret
        exact ⟨by first | rfl | (simp; done) | (simp [*]; done), by repeat (first | exact Drawn0.refl _ | apply Drawn0.step)⟩
      · replace c4 := Bool.eq_false_iff.mpr c4
        subst c4
        have H1 : (impl_PathIn.l0 kj1 0 0 l0 (l0.length : Int) 0) = some r := by rw [if_neg (show ¬ (false = true) by decide)] at H; exact H
        clear H
        have H := H1
        clear H1
        have H' := Aside0.mk H
        clear H
        go_wp2
        go_loopg [3, 4, 17] kj1 (fun kq v3 v4 v17 w' => ∃ (x3_2 : Int) (x4_2 : Int) (x17_2 : Int), v3 = .int .i64 x3_2 ∧ v4 = .int .i64 x4_2 ∧ v17 = .int .i64 x17_2 ∧ Aside0 (impl_PathIn.l0 kq x3_2 x4_2 l0 (l0.length : Int) x17_2 = some r) ∧ Aside0 (kq ≤ kj1) ∧ Drawn0 w w')
        case atStart => exact ⟨(0), (0), (0), (by first | rfl | (simp; done) | (simp [*]; done)), (by first | rfl | (simp; done) | (simp [*]; done)), (by first | rfl | (simp; done) | (simp [*]; done)), H', ⟨Nat.le_refl _⟩, by repeat (first | exact Drawn0.refl _ | apply Drawn0.step)⟩
        case round =>
          clear H'
          try clear c1
          try clear c2
          try clear p2
          try clear c3
          try clear c3b0
          try clear c3b1
          try clear c4
          try clear p2
          obtain ⟨x3_2, x4_2, x17_2, rfl, rfl, rfl, HA, HK2, ⟨m2, rfl⟩⟩ := hrel
          cases gk with
          | zero => exact absurd HA.out (by simp [impl_PathIn.l0])
          | succ k2 =>
            have H := HA.out
            clear HA
            simp only [impl_PathIn.l0] at H
            by_cases c5 : x17_2 < (l0.length : Int)
            · rw [if_pos c5] at H
              have c5b0 : decide (x17_2 < (l0.length : Int)) = true := decide_eq_true c5
              clear c5
              by_cases c6 : 0 ≤ x17_2
              · rw [if_pos c6] at H
                have c6b0 : decide (0 ≤ x17_2) = true := decide_eq_true c6
                clear c6
                by_cases c7 : x17_2 < (l0.length : Int)
                · rw [if_pos c7] at H
                  have c7b0 : decide (x17_2 < (l0.length : Int)) = true := decide_eq_true c7
                  clear c7
                  replace H := Option.bind_eq_some_iff.mp H
                  obtain ⟨t132, A80, H⟩ := H
                  replace H : (if t132 = true then (if 0 < ((rd_L1 l0 x17_2).length : Int) then (if 1 < ((rd_L1 l0 x17_2).length : Int) then (impl_PathIn.l0 k2 (wrap64 (x3_2 + (rd (rd_L1 l0 x17_2) 0))) (wrap64 (x4_2 + (rd (rd_L1 l0 x17_2) 1))) l0 (l0.length : Int) (wrap64 (x17_2 + 1))) else (none)) else (none)) else (some false)) = some r := H
                  have A8 := Aside0.mk A80
                  clear A80
                  by_cases c9 : t132 = true
                  · subst c9
                    have H1 : (if 0 < ((rd_L1 l0 x17_2).length : Int) then (if 1 < ((rd_L1 l0 x17_2).length : Int) then (impl_PathIn.l0 k2 (wrap64 (x3_2 + (rd (rd_L1 l0 x17_2) 0))) (wrap64 (x4_2 + (rd (rd_L1 l0 x17_2) 1))) l0 (l0.length : Int) (wrap64 (x17_2 + 1))) else (none)) else (none)) = some r := by rw [if_pos rfl] at H; exact H
                    clear H
                    have H := H1
                    clear H1
                    by_cases c10 : 0 < ((rd_L1 l0 x17_2).length : Int)
                    · rw [if_pos c10] at H
                      have c10b0 : decide (0 < ((rd_L1 l0 x17_2).length : Int)) = true := decide_eq_true c10
                      have c10b1 : decide (0 < (rd_L1 l0 x17_2).length) = true := decide_eq_true (by omega)
                      clear c10
                      by_cases c11 : 1 < ((rd_L1 l0 x17_2).length : Int)
                      · rw [if_pos c11] at H
                        have c11b0 : decide (1 < ((rd_L1 l0 x17_2).length : Int)) = true := decide_eq_true c11
                        have c11b1 : decide (1 < (rd_L1 l0 x17_2).length) = true := decide_eq_true (by omega)
                        clear c11
                        have H' := Aside0.mk H
                        clear H
                        have p131 : 0 ≤ (x17_2 : Int) := of_decide_eq_true (by first | (with_reducible assumption) | assumption)
                        have q131 : x17_2 < (l0.length : Int) := of_decide_eq_true (by first | (with_reducible assumption) | assumption)
                        obtain ⟨ad131, A131_0, c131_0, e131, hx131_0, hl131_0, hi131_0⟩ := at_L1 HR0.out x17_2 p131 q131
                        cases e131
                        have HR131_0 := Aside0.mk hi131_0
                        have HC131_0 := Aside0.mk hl131_0
                        clear hi131_0 hl131_0
                        replace p131 := eq_true p131
                        replace q131 := eq_true q131
                        go_wp2_with (first | ((with_reducible refine gate_callee (f := 39) rfl ?_); refine goesL_ (some 22) rfl rfl Try.func39 (by kernel_rfl) rfl #[.slice A131_0 (rd_L1 l0 x17_2).length c131_0] rfl (by (try simp only [List.map_toArray, List.map_cons, List.map_nil]); first | done | rfl | (simp only [List.length_drop, List.length_take]; rfl)) ?_; (with_reducible refine (impl_isStep.calls _ _ (rd_L1 l0 x17_2) true _ ?side1 ?side2 A8.out).mono ?_); (case side1 => repeat (first | exact HR131_0.out | (with_reducible refine Kd.C_alloc ?_ _) | (with_reducible refine Kd.C_drewN ?_ _) | (with_reducible refine Kd.C_drew ?_))); (case side2 => exact HC131_0.out); rintro e w' ⟨rfl, ⟨nd, rfl⟩⟩; refine ⟨_, rfl, ?_⟩; have p133 : 0 ≤ (0 : Int) := (by omega); have q133 : 0 < ((rd_L1 l0 x17_2).length : Int) := of_decide_eq_true (by first | (with_reducible assumption) | assumption); obtain ⟨ad133, e133, hx133_0⟩ := Kd.at_int HR131_0.out 0 p133 q133; cases e133; have qi133 : (0 < (rd_L1 l0 x17_2).length) = True := eq_true (by omega); (try rw [show ((0 : Int)).toNat = 0 from rfl] at hx133_0); (try rw [Addr.add_zero'] at hx133_0); replace p133 := eq_true p133; replace q133 := eq_true q133; have p134 : 0 ≤ (1 : Int) := (by omega); have q134 : 1 < ((rd_L1 l0 x17_2).length : Int) := of_decide_eq_true (by first | (with_reducible assumption) | assumption); obtain ⟨ad134, e134, hx134_0⟩ := Kd.at_int HR131_0.out 1 p134 q134; obtain rfl : ad133 = ad134 := (by injection e134); (try simp only [show (1 : Int).toNat = 1 from rfl, Nat.reduceMul, Nat.reduceEqDiff, Go.Addr.add, ↓reduceIte] at hx134_0); have qi134 : (1 < (rd_L1 l0 x17_2).length) = True := eq_true (by omega); (try rw [show ((1 : Int)).toNat = 1 from rfl] at hx134_0); replace p134 := eq_true p134; replace q134 := eq_true q134))
                        go_roundg k2
                        case measure => have := HJ1.out; have := HK2.out; omega
                        case rel => exact ⟨(wrap64 (x3_2 + (rd (rd_L1 l0 x17_2) 0))), (wrap64 (x4_2 + (rd (rd_L1 l0 x17_2) 1))), (wrap64 (x17_2 + 1)), (by first | rfl | (simp; done) | (simp [*]; done)), (by first | rfl | (simp; done) | (simp [*]; done)), (by first | rfl | (simp; done) | (simp [*]; done)), H', ⟨by have := HJ1.out; have := HK2.out; omega⟩, by repeat (first | exact Drawn0.refl _ | apply Drawn0.step)⟩
                      · rw [if_neg c11] at H
                        exact absurd H (by simp)
                    · rw [if_neg c10] at H
                      exact absurd H (by simp)
                  · replace c9 := Bool.eq_false_iff.mpr c9
                    subst c9
                    have H1 : (some false) = some r := by rw [if_neg (show ¬ (false = true) by decide)] at H; exact H
                    clear H
                    have H := H1
                    clear H1
                    obtain rfl := Option.some.inj H
                    have p131 : 0 ≤ (x17_2 : Int) := of_decide_eq_true (by first | (with_reducible assumption) | assumption)
                    have q131 : x17_2 < (l0.length : Int) := of_decide_eq_true (by first | (with_reducible assumption) | assumption)
                    obtain ⟨ad131, A131_0, c131_0, e131, hx131_0, hl131_0, hi131_0⟩ := at_L1 HR0.out x17_2 p131 q131
                    cases e131
                    have HR131_0 := Aside0.mk hi131_0
                    have HC131_0 := Aside0.mk hl131_0
                    clear hi131_0 hl131_0
                    replace p131 := eq_true p131
                    replace q131 := eq_true q131
                    go_wp2_with (first | ((with_reducible refine gate_callee (f := 39) rfl ?_); refine goesL_ (some 22) rfl rfl Try.func39 (by kernel_rfl) rfl #[.slice A131_0 (rd_L1 l0 x17_2).length c131_0] rfl (by (try simp only [List.map_toArray, List.map_cons, List.map_nil]); first | done | rfl | (simp only [List.length_drop, List.length_take]; rfl)) ?_; (with_reducible refine (impl_isStep.calls _ _ (rd_L1 l0 x17_2) false _ ?side1 ?side2 A8.out).mono ?_); (case side1 => repeat (first | exact HR131_0.out | (with_reducible refine Kd.C_alloc ?_ _) | (with_reducible refine Kd.C_drewN ?_ _) | (with_reducible refine Kd.C_drew ?_))); (case side2 => exact HC131_0.out); rintro e w' ⟨rfl, ⟨nd, rfl⟩⟩; refine ⟨_, rfl, ?_⟩))
                    go_ret
                    exact ⟨by first | rfl | (simp; done) | (simp [*]; done), by repeat (first | exact Drawn0.refl _ | apply Drawn0.step)⟩
                · rw [if_neg c7] at H
                  exact absurd H (by simp)
              · rw [if_neg c6] at H
                exact absurd H (by simp)
            · rw [if_neg c5] at H
              have c5b0 : decide (x17_2 < (l0.length : Int)) = false := decide_eq_false c5
              clear c5
              by_cases c12 : x3_2 = 0
              · rw [if_pos c12] at H
                have c12b0 : (x3_2 == 0) = true := beq_iff_eq.mpr c12
                have c12b1 : (x3_2 != 0) = false := bne_eq_false_iff_eq.mpr c12
                clear c12
                obtain rfl := Option.some.inj H
                go_wp2
                go_ret
                exact ⟨by first | rfl | (simp; done) | (simp [*]; done), by repeat (first | exact Drawn0.refl _ | apply Drawn0.step)⟩
              · rw [if_neg c12] at H
                have c12b0 : (x3_2 == 0) = false := beq_eq_false_iff_ne.mpr c12
                have c12b1 : (x3_2 != 0) = true := bne_iff_ne.mpr c12
                obtain rfl := Option.some.inj H
                go_wp2
                go_ret
                exact ⟨by first | rfl | (simp; done) | (simp [*]; done), by repeat (first | exact Drawn0.refl _ | apply Drawn0.step)⟩

/-! ### slices_Clone_int_int: function 40 -/
def slices_Clone_int_int.f (l0 : List (List Int)) : Option ((List (List Int))) := (some (([] : List (List Int)) : List (List Int))).bind fun y135 => (if y135.length + l0.length < 5864062014805 then (some (y135 ++ l0)) else (none))
set_option maxHeartbeats 8000000 in
set_option maxRecDepth 100000 in
theorem slices_Clone_int_int.calls (P0_ : Nat → Prop) (A0 : Option Addr) (c0 : Nat) (l0 : List (List Int)) (r : List (List Int)) (w : World) (hs0 : Kd.V (Kd.slice 3 (Kd.int .i64)) 35 w w.heap.size (fun k_ => P0_ k_) (.slice A0 l0.length c0) l0) (h : slices_Clone_int_int.f l0 = some r) :
    Calls Try.prog 40 #[.slice A0 l0.length c0] w fun e w' => ∃ v0_ : Value, e = .returned (v0_) ∧ Kd.N (Kd.slice 3 (Kd.int .i64)) 35 w' w.heap.size (fun k_ => (P0_ k_ ∨ w.heap.size ≤ k_)) v0_ r ∧ Below w.heap.size w w' := by
  by_cases hn_ : A0 = none
  · subst hn_
    have hC_ : Kd.C (Kd.slice 3 (Kd.int .i64)) w none l0.length l0 := by obtain ⟨A_, c_, e_, _, hf_⟩ := hs0; injection e_ with e1_ _ _; subst e1_; exact Kd.F_now hf_
    obtain rfl : l0 = [] := by
      rcases Nat.eq_zero_or_pos l0.length with h0 | h0
      · exact List.eq_nil_of_length_eq_zero h0
      · obtain ⟨ad, h, _⟩ := hC_.2.2 h0
        cases h
    obtain rfl : r = [] := by
      have h2_ : slices_Clone_int_int.f [] = some [] := by decide
      rw [h2_] at h
      exact (Option.some.inj h).symm
    clear hC_ h hs0
    have he_ := fun W : World => Lib.run_eql_slice_nil (P := Try.prog) W 22 35 none 0 c0 0 0 Try.underlying22
    go_enter Try.func40, Try.ntmps40
    go_wp2
    go_ret
    exact ⟨_, rfl, Kd.N_nil _ _ _ _ _, Below.refl _ _⟩
  have he_ : ∀ W : World, (binOp .eql 22 (.slice A0 l0.length c0) (.slice none 0 0)).run Try.prog W = .ok (.bool false) W := fun W => by
    rw [Lib.run_eql_slice_nil (P := Try.prog) W 22 35 A0 l0.length c0 0 0 Try.underlying22]
    cases A0 with
    | none => exact absurd rfl hn_
    | some a => rfl
  clear hn_
  have HO0 := Aside0.mk (show Kd.V (Kd.slice 3 (Kd.int .i64)) 35 w w.heap.size (fun k_ => (P0_ k_ ∨ w.heap.size ≤ k_)) (.slice A0 l0.length c0) l0 from Kd.V_mono hs0 (fun k_ hk => .inl hk))
  have HB := Aside0.mk (Below.refl w.heap.size w)
  have H : ((some (([] : List (List Int)) : List (List Int))).bind fun y135 => (if y135.length + l0.length < 5864062014805 then (some (y135 ++ l0)) else (none))) = some r := h
  clear h
  obtain ⟨y135, hy135⟩ : ∃ y_ : List (List Int), y_ = (([] : List (List Int))) := ⟨_, rfl⟩
  replace H : (if y135.length + l0.length < 5864062014805 then (some (y135 ++ l0)) else (none)) = some r := by first | (rw [hy135]; with_reducible exact H) | (have H2_ := (Option.bind_some _ _).symm.trans H; rw [hy135]; with_reducible exact H2_) | (have H2_ := (Option.bind_some _ _).symm.trans H; with_reducible exact H2_) | with_reducible exact H | (rw [hy135]; exact H) | exact H
  have Ny135 := Aside0.mk hy135
  clear hy135
  by_cases c2 : y135.length + l0.length < 5864062014805
  · rw [if_pos c2] at H
    have LMc2 := Aside0.mk c2
    clear c2
    obtain ⟨y138, hy138⟩ : ∃ y_ : List (List Int), y_ = (y135 ++ l0) := ⟨_, rfl⟩
    replace H : (some y138) = some r := by first | (rw [hy138]; with_reducible exact H) | (have H2_ := (Option.bind_some _ _).symm.trans H; rw [hy138]; with_reducible exact H2_) | (have H2_ := (Option.bind_some _ _).symm.trans H; with_reducible exact H2_) | with_reducible exact H | (rw [hy138]; exact H) | exact H
    have Ny138 := Aside0.mk hy138
    clear hy138
    obtain rfl := Option.some.inj H
    go_enter Try.func40, Try.ntmps40
    go_wp2_with (first | ((with_reducible refine gate_dst (N := 5) rfl ?_); refine Kd.N_lit (Kd.slice 3 (Kd.int .i64)) _ 35 ?hg (N' := 5) ?hd (xs := ([] : List (List Int))) (inner := []) (ok := (fun k_ => (P0_ k_ ∨ w.heap.size ≤ k_))) (okp := (fun k_ => (P0_ k_ ∨ w.heap.size ≤ k_))) ?hr ?hp (fun _ hk => hk) ((show ∀ k_, w.heap.size ≤ k_ → (fun k_ => (P0_ k_ ∨ w.heap.size ≤ k_)) k_ from fun k_ hk => (.inr (Nat.le_trans (below_size (by repeat (first | (with_reducible first | exact HB.out | apply below_alloc | apply pw_below_drewN | apply below_drew1) | exact HB.out))) hk))) _ (Nat.le_refl _)) (Below.refl _ _) (Nat.le_refl _) (by simp) ?_; (case hd => rfl); (case hg => rfl); (case hr => first | (go_simp; done) | (go_simp; rfl)); (case hp => exact (Reps.none _ _)); intro v136 w3 ho4 hb hg_ hnew_; clear hg_ hnew_; (first | rw [← Ny135.out] at ho4 | (simp only [Int.reduceToNat] at ho4; rw [← Ny135.out] at ho4)); have n0_ := Aside0.mk (Kd.V_elder' (by (with_reducible repeat (first | apply Kd.V_alloc | apply Kd.V_drewN | apply Kd.V_drew)); exact HO0.out) (by first | exact Kd.N_base ho4 | exact Kd.S_base ho4 | exact Kd.R_base ho4) hb); have n1_ := Aside0.mk (Kd.N_lower ho4 (below_size (by repeat (first | (with_reducible first | exact HB.out | apply below_alloc | apply pw_below_drewN | apply below_drew1) | exact HB.out)))); have n2_ := Aside0.mk (below_step (by repeat (first | (with_reducible first | exact HB.out | apply below_alloc | apply pw_below_drewN | apply below_drew1) | exact HB.out)) hb); clear HO0; clear HB; have HO0 := n0_; have HO137 := n1_; have HB := n2_; clear n0_ n1_ n2_; clear hb ho4) | ((with_reducible refine gate_builtin (b := .append) (xs := #[.tmp 5, .tmp 6]) rfl ?_); at_builtin; refine Kd.N_append_rows (Kd.slice 3 (Kd.int .i64)) (w0 := w) w.heap.size rfl (.tmp 5) (.tmp 6) 22 35 (.slice none 0 0) 24 rfl Try.underlying22 info35 rfl (by decide) (by omega) v136 y135 l0 _ _ _ (fun k_ => (P0_ k_ ∨ w.heap.size ≤ k_)) (fun k_ => ((fun k_ => (P0_ k_ ∨ w.heap.size ≤ k_))) k_ ∧ some k_ ≠ (v136 : Value).ownBlock) rfl rfl ?aO ?aR (fun _ hk => hk) ?aF ?aB ?aS ?aL ?_; (case aR => exact (by skip; exact Kd.V_F (Kd.V_mono (ok' := (fun k_ => ((fun k_ => (P0_ k_ ∨ w.heap.size ≤ k_))) k_ ∧ some k_ ≠ (v136 : Value).ownBlock)) (HO0.out) (fun k_ hk => ⟨hk.1, hk.2⟩)))); (case aB => exact (by repeat (first | (with_reducible first | exact HB.out | apply below_alloc | apply pw_below_drewN | apply below_drew1) | exact HB.out))); (case aF => exact (fun k_ hk => (.inr (Nat.le_trans (below_size (by repeat (first | (with_reducible first | exact HB.out | apply below_alloc | apply pw_below_drewN | apply below_drew1) | exact HB.out))) hk)))); (case aO => exact (by (with_reducible repeat (first | apply Kd.N_alloc | apply Kd.N_drewN | apply Kd.N_drew)); exact HO137.out)); (case aS => exact (below_size (by repeat (first | (with_reducible first | exact HB.out | apply below_alloc | apply pw_below_drewN | apply below_drew1) | exact HB.out)))); (case aL => have := LMc2.out; omega); intro v139 w5 ho hb hg hat; rw [← Ny138.out] at ho; have n0_ := Aside0.mk (Kd.V_afterv (ok := (fun k_ => (P0_ k_ ∨ w.heap.size ≤ k_))) (by (with_reducible repeat (first | apply Kd.V_alloc | apply Kd.V_drewN | apply Kd.V_drew)); exact HO0.out) hg hat); have n1_ := Aside0.mk (hb); have n2_ := Aside0.mk (ho); clear HO0; clear HB; clear HO137; have HO0 := n0_; have HB := n1_; have HO140 := n2_; clear n0_ n1_ n2_; clear ho hb hg hat))
    go_ret
    exact ⟨_, by first | rfl | (simp [errW_none, errW_some] <;> rfl) | (simp [*, errW_none, errW_some] <;> rfl), by (with_reducible repeat (first | apply Kd.N_alloc | apply Kd.N_drewN | apply Kd.N_drew)); exact HO140.out, by repeat (first | (with_reducible first | exact HB.out | apply below_alloc | apply pw_below_drewN | apply below_drew1) | exact HB.out)⟩
  · rw [if_neg c2] at H
    exact absurd H (by simp)

-- NOT PRINTED: function 41 (impl_orders_1)

/-! ### impl_orders: function 25, by hand -/
open Go.Proofs.Ytbcfgglcabeckaa.HOrd Go.Proofs.Ytbcfgglcabeckaa.HRaw in
def impl_orders.f {σ : Type} (step : σ → List (List Int) → Option σ) (s : σ) (l0 : List (List Int)) : Option σ := if 0 < l0.length then (if l0.length < 1000 then vis step l0.length l0 s else none) else none
abbrev impl_orders.try (E Q : Nat) : Value := .func (.func 41) #[] #[Go.Proofs.Ytbcfgglcabeckaa.HOrd.pt Q, Go.Proofs.Ytbcfgglcabeckaa.HOrd.pt E, Go.Proofs.Ytbcfgglcabeckaa.HOrd.pt (Q + 1)]
/-- What 'tell' answers, in every world in which its state lies. -/
def impl_orders.Tells {σ : Type} (tell : Nat) (tb B E : Nat) (J : Nat → Prop) (Inv : σ → World → Prop) (step : σ → List (List Int) → Option σ) : Prop :=
  ∀ (W : World) (A : Option Addr) (c : Nat) (ys : List (List Int)) (s s' : σ), Kd.C (Kd.slice 3 (Kd.int .i64)) W A ys.length ys → ys.length ≤ c → Inv s W → E ≤ W.heap.size → step s ys = some s' →
    Calls Try.prog tell #[.slice A ys.length c, Go.Proofs.Ytbcfgglcabeckaa.HOrd.pt tb] W fun e w' => e = .returned (.tuple #[]) ∧ Inv s' w' ∧ Below B W w' ∧ ∀ k, k < W.heap.size → ¬ J k → w'.heap[k]? = W.heap[k]?
open Go.Proofs.Ytbcfgglcabeckaa.HOrd in
set_option maxHeartbeats 8000000 in
set_option maxRecDepth 100000 in
theorem impl_orders.swap5 {K : Exit → Act → World → Prop} {w : World} {Q g n cap a i n1 c1 n2 c2 : Nat} {A1 A2 : Option Addr} {u2 u3 u4 u6 u7 u8 u9 u10 u11 u12 u13 u14 u15 u16 u17 u18 u19 u20 u21 u22 u23 u24 u25 u26 u27 u28 u29 u30 u31 u32 u33 u34 u35 u36 u37 u38 u39 u40 u41 u42 u43 u44 u45 u46 u47 u48 u49 u50 u51 : Value} (cQ : w.cell? ⟨Q, 0, none⟩ = some (.slice (some ⟨g, 0, none⟩) n cap))
    (ca : w.cell? ⟨g, a, none⟩ = some (.slice A1 n1 c1)) (ci : w.cell? ⟨g, i, none⟩ = some (.slice A2 n2 c2)) (fa : w.frozen? ⟨g, a, none⟩ = false) (fi : w.frozen? ⟨g, i, none⟩ = false) (ha : a < n) (hi : i < n) (hgq : g < Q)
    (h : K .normal { tmps := List.toArray ((.int .i64 (a : Int) : Value) :: (pt Q) :: (u2) :: (u3) :: (u4) :: (.int .i64 (i : Int)) :: (u6) :: (u7) :: (u8) :: (u9) :: (u10) :: (u11) :: (u12) :: (u13) :: (u14) :: (u15) :: (u16) :: (u17) :: (u18) :: (u19) :: (.slice (some ⟨g, 0, none⟩) n cap) :: (.int .i64 (a : Int)) :: (.slice (some ⟨g, 0, none⟩) n cap) :: (.int .i64 (i : Int)) :: (.slice (some ⟨g, 0, none⟩) n cap) :: (.int .i64 (i : Int)) :: (.pointer (some ⟨g, i, none⟩)) :: (.slice A2 n2 c2) :: (.slice (some ⟨g, 0, none⟩) n cap) :: (.int .i64 (a : Int)) :: (.pointer (some ⟨g, a, none⟩)) :: (.slice A1 n1 c1) :: (.pointer (some ⟨g, a, none⟩)) :: (.pointer (some ⟨g, i, none⟩)) :: (u34) :: (u35) :: (u36) :: (u37) :: (u38) :: (u39) :: (u40) :: (u41) :: (u42) :: (u43) :: (u44) :: (u45) :: (u46) :: (u47) :: (u48) :: (u49) :: (u50) :: (u51) :: []), defers := [] } ((w.setCell ⟨g, a, none⟩ (.slice A2 n2 c2)).setCell ⟨g, i, none⟩ (.slice A1 n1 c1)).drew) :
    (Code.region 5 #[{ dst := some 20, op := Go.Op.load 22 (Go.Operand.tmp 1), type := 22, pos := "l7_orders.go:154", after := #[], guard := none }, { dst := some 21, op := Go.Op.move (Go.Operand.tmp 0), type := 3, pos := "l7_orders.go:154", after := #[], guard := none }, { dst := some 22, op := Go.Op.load 22 (Go.Operand.tmp 1), type := 22, pos := "l7_orders.go:154", after := #[], guard := none }, { dst := some 23, op := Go.Op.move (Go.Operand.tmp 5), type := 3, pos := "l7_orders.go:154", after := #[{ on := 13, ground := Go.Ground.gcOnly Go.Departure.lateStores }], guard := none }, { dst := some 24, op := Go.Op.load 22 (Go.Operand.tmp 1), type := 22, pos := "l7_orders.go:154", after := #[], guard := none }, { dst := some 25, op := Go.Op.move (Go.Operand.tmp 5), type := 3, pos := "l7_orders.go:154", after := #[], guard := none }, { dst := some 26, op := Go.Op.indexAddr 22 (Go.Operand.tmp 24) (Go.Operand.tmp 25), type := 0, pos := "l7_orders.go:154", after := #[{ on := 4, ground := Go.Ground.data }, { on := 5, ground := Go.Ground.data }], guard := none }, { dst := some 27, op := Go.Op.load 35 (Go.Operand.tmp 26), type := 35, pos := "l7_orders.go:154", after := #[{ on := 6, ground := Go.Ground.data }], guard := none }, { dst := some 28, op := Go.Op.load 22 (Go.Operand.tmp 1), type := 22, pos := "l7_orders.go:154", after := #[], guard := none }, { dst := some 29, op := Go.Op.move (Go.Operand.tmp 0), type := 3, pos := "l7_orders.go:154", after := #[], guard := none }, { dst := some 30, op := Go.Op.indexAddr 22 (Go.Operand.tmp 28) (Go.Operand.tmp 29), type := 0, pos := "l7_orders.go:154", after := #[{ on := 8, ground := Go.Ground.data }, { on := 9, ground := Go.Ground.data }], guard := none }, { dst := some 31, op := Go.Op.load 35 (Go.Operand.tmp 30), type := 35, pos := "l7_orders.go:154", after := #[{ on := 10, ground := Go.Ground.data }], guard := none }, { dst := some 32, op := Go.Op.indexAddr 22 (Go.Operand.tmp 20) (Go.Operand.tmp 21), type := 0, pos := "l7_orders.go:154", after := #[{ on := 0, ground := Go.Ground.data }, { on := 1, ground := Go.Ground.data }, { on := 0, ground := Go.Ground.phase }, { on := 1, ground := Go.Ground.phase }, { on := 2, ground := Go.Ground.textOnly Go.Departure.inlinedCapture }, { on := 3, ground := Go.Ground.textOnly Go.Departure.lateStores }, { on := 4, ground := Go.Ground.phase }, { on := 5, ground := Go.Ground.phase }, { on := 6, ground := Go.Ground.phase }, { on := 7, ground := Go.Ground.phase }, { on := 8, ground := Go.Ground.textOnly Go.Departure.inlinedCapture }, { on := 9, ground := Go.Ground.textOnly Go.Departure.lateStores }, { on := 10, ground := Go.Ground.textOnly Go.Departure.lateStoresUnsure }, { on := 11, ground := Go.Ground.phase }], guard := none }, { dst := none, op := Go.Op.store 35 (Go.Operand.tmp 32) (Go.Operand.tmp 27), type := 0, pos := "l7_orders.go:154", after := #[{ on := 12, ground := Go.Ground.data }, { on := 7, ground := Go.Ground.data }, { on := 0, ground := Go.Ground.phase }, { on := 1, ground := Go.Ground.phase }, { on := 2, ground := Go.Ground.textOnly Go.Departure.inlinedCapture }, { on := 3, ground := Go.Ground.textOnly Go.Departure.lateStores }, { on := 4, ground := Go.Ground.phase }, { on := 5, ground := Go.Ground.phase }, { on := 6, ground := Go.Ground.phase }, { on := 7, ground := Go.Ground.phase }, { on := 8, ground := Go.Ground.textOnly Go.Departure.inlinedCapture }, { on := 9, ground := Go.Ground.textOnly Go.Departure.lateStores }, { on := 10, ground := Go.Ground.textOnly Go.Departure.lateStoresUnsure }, { on := 11, ground := Go.Ground.phase }], guard := none }, { dst := some 33, op := Go.Op.indexAddr 22 (Go.Operand.tmp 22) (Go.Operand.tmp 23), type := 0, pos := "l7_orders.go:154", after := #[{ on := 2, ground := Go.Ground.data }, { on := 3, ground := Go.Ground.data }, { on := 0, ground := Go.Ground.phase }, { on := 1, ground := Go.Ground.phase }, { on := 2, ground := Go.Ground.phase }, { on := 3, ground := Go.Ground.phase }, { on := 4, ground := Go.Ground.phase }, { on := 5, ground := Go.Ground.phase }, { on := 6, ground := Go.Ground.phase }, { on := 7, ground := Go.Ground.phase }, { on := 8, ground := Go.Ground.phase }, { on := 9, ground := Go.Ground.phase }, { on := 10, ground := Go.Ground.phase }, { on := 11, ground := Go.Ground.phase }, { on := 12, ground := Go.Ground.phase }, { on := 13, ground := Go.Ground.phase }], guard := none }, { dst := none, op := Go.Op.store 35 (Go.Operand.tmp 33) (Go.Operand.tmp 31), type := 0, pos := "l7_orders.go:154", after := #[{ on := 14, ground := Go.Ground.data }, { on := 11, ground := Go.Ground.data }, { on := 13, ground := Go.Ground.chain }, { on := 0, ground := Go.Ground.phase }, { on := 1, ground := Go.Ground.phase }, { on := 2, ground := Go.Ground.phase }, { on := 3, ground := Go.Ground.phase }, { on := 4, ground := Go.Ground.phase }, { on := 5, ground := Go.Ground.phase }, { on := 6, ground := Go.Ground.phase }, { on := 7, ground := Go.Ground.phase }, { on := 8, ground := Go.Ground.phase }, { on := 9, ground := Go.Ground.phase }, { on := 10, ground := Go.Ground.phase }, { on := 11, ground := Go.Ground.phase }, { on := 12, ground := Go.Ground.phase }, { on := 13, ground := Go.Ground.phase }], guard := none }] true).wp Try.prog K { tmps := List.toArray ((.int .i64 (a : Int) : Value) :: (pt Q) :: (u2) :: (u3) :: (u4) :: (.int .i64 (i : Int)) :: (u6) :: (u7) :: (u8) :: (u9) :: (u10) :: (u11) :: (u12) :: (u13) :: (u14) :: (u15) :: (u16) :: (u17) :: (u18) :: (u19) :: (u20) :: (u21) :: (u22) :: (u23) :: (u24) :: (u25) :: (u26) :: (u27) :: (u28) :: (u29) :: (u30) :: (u31) :: (u32) :: (u33) :: (u34) :: (u35) :: (u36) :: (u37) :: (u38) :: (u39) :: (u40) :: (u41) :: (u42) :: (u43) :: (u44) :: (u45) :: (u46) :: (u47) :: (u48) :: (u49) :: (u50) :: (u51) :: []), defers := [] } w := by
  have q3 : (0 : Int) ≤ (a : Int) := by omega
  have q4 : (a : Int) < (n : Int) := by omega
  have q5 : (0 : Int) ≤ (i : Int) := by omega
  have q6 : (i : Int) < (n : Int) := by omega
  have cQ2 : (w.setCell ⟨g, a, none⟩ (.slice A2 n2 c2)).cell? ⟨Q, 0, none⟩ = some (.slice (some ⟨g, 0, none⟩) n cap) := (World.cell?_setCell_other _ _ _ _ (by intro e; injection e with e1 _ _; omega)).trans cQ
  obtain ⟨vi, ci2⟩ := cell?_setCell_some (w := w) (p := ⟨g, a, none⟩) (x := .slice A2 n2 c2) (q := ⟨g, i, none⟩) ci
  clear ha hi hgq
  refine Code.wp_mono (Q := Exit.then (K .normal) (fun _ _ _ => False)) (fun e a w hq => by cases e <;> first | exact hq | exact (hq : False).elim) ?_
  go_region
  exact h
open Go.Proofs.Ytbcfgglcabeckaa.HOrd in
set_option maxHeartbeats 8000000 in
set_option maxRecDepth 100000 in
theorem impl_orders.swap7 {K : Exit → Act → World → Prop} {w : World} {Q g n cap a i n1 c1 n2 c2 : Nat} {A1 A2 : Option Addr} {u2 u3 u4 u6 u7 u8 u9 u10 u11 u12 u13 u14 u15 u16 u17 u18 u19 u20 u21 u22 u23 u24 u25 u26 u27 u28 u29 u30 u31 u32 u33 u34 u35 u36 u37 u38 u39 u40 u41 u42 u43 u44 u45 u46 u47 u48 u49 u50 u51 : Value} (cQ : w.cell? ⟨Q, 0, none⟩ = some (.slice (some ⟨g, 0, none⟩) n cap))
    (ca : w.cell? ⟨g, a, none⟩ = some (.slice A1 n1 c1)) (ci : w.cell? ⟨g, i, none⟩ = some (.slice A2 n2 c2)) (fa : w.frozen? ⟨g, a, none⟩ = false) (fi : w.frozen? ⟨g, i, none⟩ = false) (ha : a < n) (hi : i < n) (hgq : g < Q)
    (h : K .normal { tmps := List.toArray ((.int .i64 (a : Int) : Value) :: (pt Q) :: (u2) :: (u3) :: (u4) :: (.int .i64 (i : Int)) :: (u6) :: (u7) :: (u8) :: (u9) :: (u10) :: (u11) :: (u12) :: (u13) :: (u14) :: (u15) :: (u16) :: (u17) :: (u18) :: (u19) :: (u20) :: (u21) :: (u22) :: (u23) :: (u24) :: (u25) :: (u26) :: (u27) :: (u28) :: (u29) :: (u30) :: (u31) :: (u32) :: (u33) :: (u34) :: (u35) :: (u36) :: (u37) :: (.slice (some ⟨g, 0, none⟩) n cap) :: (.int .i64 (a : Int)) :: (.slice (some ⟨g, 0, none⟩) n cap) :: (.int .i64 (i : Int)) :: (.slice (some ⟨g, 0, none⟩) n cap) :: (.int .i64 (i : Int)) :: (.pointer (some ⟨g, i, none⟩)) :: (.slice A2 n2 c2) :: (.slice (some ⟨g, 0, none⟩) n cap) :: (.int .i64 (a : Int)) :: (.pointer (some ⟨g, a, none⟩)) :: (.slice A1 n1 c1) :: (.pointer (some ⟨g, a, none⟩)) :: (.pointer (some ⟨g, i, none⟩)) :: []), defers := [] } ((w.setCell ⟨g, a, none⟩ (.slice A2 n2 c2)).setCell ⟨g, i, none⟩ (.slice A1 n1 c1)).drew) :
    (Code.region 7 #[{ dst := some 38, op := Go.Op.load 22 (Go.Operand.tmp 1), type := 22, pos := "l7_orders.go:156", after := #[], guard := none }, { dst := some 39, op := Go.Op.move (Go.Operand.tmp 0), type := 3, pos := "l7_orders.go:156", after := #[], guard := none }, { dst := some 40, op := Go.Op.load 22 (Go.Operand.tmp 1), type := 22, pos := "l7_orders.go:156", after := #[], guard := none }, { dst := some 41, op := Go.Op.move (Go.Operand.tmp 5), type := 3, pos := "l7_orders.go:156", after := #[{ on := 13, ground := Go.Ground.gcOnly Go.Departure.lateStores }], guard := none }, { dst := some 42, op := Go.Op.load 22 (Go.Operand.tmp 1), type := 22, pos := "l7_orders.go:156", after := #[], guard := none }, { dst := some 43, op := Go.Op.move (Go.Operand.tmp 5), type := 3, pos := "l7_orders.go:156", after := #[], guard := none }, { dst := some 44, op := Go.Op.indexAddr 22 (Go.Operand.tmp 42) (Go.Operand.tmp 43), type := 0, pos := "l7_orders.go:156", after := #[{ on := 4, ground := Go.Ground.data }, { on := 5, ground := Go.Ground.data }], guard := none }, { dst := some 45, op := Go.Op.load 35 (Go.Operand.tmp 44), type := 35, pos := "l7_orders.go:156", after := #[{ on := 6, ground := Go.Ground.data }], guard := none }, { dst := some 46, op := Go.Op.load 22 (Go.Operand.tmp 1), type := 22, pos := "l7_orders.go:156", after := #[], guard := none }, { dst := some 47, op := Go.Op.move (Go.Operand.tmp 0), type := 3, pos := "l7_orders.go:156", after := #[], guard := none }, { dst := some 48, op := Go.Op.indexAddr 22 (Go.Operand.tmp 46) (Go.Operand.tmp 47), type := 0, pos := "l7_orders.go:156", after := #[{ on := 8, ground := Go.Ground.data }, { on := 9, ground := Go.Ground.data }], guard := none }, { dst := some 49, op := Go.Op.load 35 (Go.Operand.tmp 48), type := 35, pos := "l7_orders.go:156", after := #[{ on := 10, ground := Go.Ground.data }], guard := none }, { dst := some 50, op := Go.Op.indexAddr 22 (Go.Operand.tmp 38) (Go.Operand.tmp 39), type := 0, pos := "l7_orders.go:156", after := #[{ on := 0, ground := Go.Ground.data }, { on := 1, ground := Go.Ground.data }, { on := 0, ground := Go.Ground.phase }, { on := 1, ground := Go.Ground.phase }, { on := 2, ground := Go.Ground.textOnly Go.Departure.inlinedCapture }, { on := 3, ground := Go.Ground.textOnly Go.Departure.lateStores }, { on := 4, ground := Go.Ground.phase }, { on := 5, ground := Go.Ground.phase }, { on := 6, ground := Go.Ground.phase }, { on := 7, ground := Go.Ground.phase }, { on := 8, ground := Go.Ground.textOnly Go.Departure.inlinedCapture }, { on := 9, ground := Go.Ground.textOnly Go.Departure.lateStores }, { on := 10, ground := Go.Ground.textOnly Go.Departure.lateStoresUnsure }, { on := 11, ground := Go.Ground.phase }], guard := none }, { dst := none, op := Go.Op.store 35 (Go.Operand.tmp 50) (Go.Operand.tmp 45), type := 0, pos := "l7_orders.go:156", after := #[{ on := 12, ground := Go.Ground.data }, { on := 7, ground := Go.Ground.data }, { on := 0, ground := Go.Ground.phase }, { on := 1, ground := Go.Ground.phase }, { on := 2, ground := Go.Ground.textOnly Go.Departure.inlinedCapture }, { on := 3, ground := Go.Ground.textOnly Go.Departure.lateStores }, { on := 4, ground := Go.Ground.phase }, { on := 5, ground := Go.Ground.phase }, { on := 6, ground := Go.Ground.phase }, { on := 7, ground := Go.Ground.phase }, { on := 8, ground := Go.Ground.textOnly Go.Departure.inlinedCapture }, { on := 9, ground := Go.Ground.textOnly Go.Departure.lateStores }, { on := 10, ground := Go.Ground.textOnly Go.Departure.lateStoresUnsure }, { on := 11, ground := Go.Ground.phase }], guard := none }, { dst := some 51, op := Go.Op.indexAddr 22 (Go.Operand.tmp 40) (Go.Operand.tmp 41), type := 0, pos := "l7_orders.go:156", after := #[{ on := 2, ground := Go.Ground.data }, { on := 3, ground := Go.Ground.data }, { on := 0, ground := Go.Ground.phase }, { on := 1, ground := Go.Ground.phase }, { on := 2, ground := Go.Ground.phase }, { on := 3, ground := Go.Ground.phase }, { on := 4, ground := Go.Ground.phase }, { on := 5, ground := Go.Ground.phase }, { on := 6, ground := Go.Ground.phase }, { on := 7, ground := Go.Ground.phase }, { on := 8, ground := Go.Ground.phase }, { on := 9, ground := Go.Ground.phase }, { on := 10, ground := Go.Ground.phase }, { on := 11, ground := Go.Ground.phase }, { on := 12, ground := Go.Ground.phase }, { on := 13, ground := Go.Ground.phase }], guard := none }, { dst := none, op := Go.Op.store 35 (Go.Operand.tmp 51) (Go.Operand.tmp 49), type := 0, pos := "l7_orders.go:156", after := #[{ on := 14, ground := Go.Ground.data }, { on := 11, ground := Go.Ground.data }, { on := 13, ground := Go.Ground.chain }, { on := 0, ground := Go.Ground.phase }, { on := 1, ground := Go.Ground.phase }, { on := 2, ground := Go.Ground.phase }, { on := 3, ground := Go.Ground.phase }, { on := 4, ground := Go.Ground.phase }, { on := 5, ground := Go.Ground.phase }, { on := 6, ground := Go.Ground.phase }, { on := 7, ground := Go.Ground.phase }, { on := 8, ground := Go.Ground.phase }, { on := 9, ground := Go.Ground.phase }, { on := 10, ground := Go.Ground.phase }, { on := 11, ground := Go.Ground.phase }, { on := 12, ground := Go.Ground.phase }, { on := 13, ground := Go.Ground.phase }], guard := none }] true).wp Try.prog K { tmps := List.toArray ((.int .i64 (a : Int) : Value) :: (pt Q) :: (u2) :: (u3) :: (u4) :: (.int .i64 (i : Int)) :: (u6) :: (u7) :: (u8) :: (u9) :: (u10) :: (u11) :: (u12) :: (u13) :: (u14) :: (u15) :: (u16) :: (u17) :: (u18) :: (u19) :: (u20) :: (u21) :: (u22) :: (u23) :: (u24) :: (u25) :: (u26) :: (u27) :: (u28) :: (u29) :: (u30) :: (u31) :: (u32) :: (u33) :: (u34) :: (u35) :: (u36) :: (u37) :: (u38) :: (u39) :: (u40) :: (u41) :: (u42) :: (u43) :: (u44) :: (u45) :: (u46) :: (u47) :: (u48) :: (u49) :: (u50) :: (u51) :: []), defers := [] } w := by
  have q3 : (0 : Int) ≤ (a : Int) := by omega
  have q4 : (a : Int) < (n : Int) := by omega
  have q5 : (0 : Int) ≤ (i : Int) := by omega
  have q6 : (i : Int) < (n : Int) := by omega
  have cQ2 : (w.setCell ⟨g, a, none⟩ (.slice A2 n2 c2)).cell? ⟨Q, 0, none⟩ = some (.slice (some ⟨g, 0, none⟩) n cap) := (World.cell?_setCell_other _ _ _ _ (by intro e; injection e with e1 _ _; omega)).trans cQ
  obtain ⟨vi, ci2⟩ := cell?_setCell_some (w := w) (p := ⟨g, a, none⟩) (x := .slice A2 n2 c2) (q := ⟨g, i, none⟩) ci
  clear ha hi hgq
  refine Code.wp_mono (Q := Exit.then (K .normal) (fun _ _ _ => False)) (fun e a w hq => by cases e <;> first | exact hq | exact (hq : False).elim) ?_
  go_region
  exact h

open Go.Proofs.Ytbcfgglcabeckaa.HOrd Go.Proofs.Ytbcfgglcabeckaa.HRaw in
set_option maxHeartbeats 8000000 in
set_option maxRecDepth 100000 in
theorem impl_orders.try_calls {σ : Type} {tell tb B E Q g n cap : Nat} {J ok : Nat → Prop} {Inv : σ → World → Prop} {step : σ → List (List Int) → Option σ} {w2 : World} (eg : ∀ args w, (callFunc tell args).run Try.prog w = .ok (.enter tell args) w)
    (hT : impl_orders.Tells tell tb B E J Inv step) (hJ : ∀ k, J k → ¬ ok k ∧ k < E) (hok : ∀ k, ok k → k ≠ E) (hBE : B ≤ E) (hn : n < 1000) (hI : ∀ s W W', Inv s W → (∀ k, J k → W'.heap[k]? = W.heap[k]?) → Inv s W') :
    ∀ (d a : Nat), a + d = n → ∀ (v : Int) (zs : List Hr) (s s' : σ) (w : World), v = a → St 22 40 53 (impl_orders.try E Q) (.func (.func tell) #[] #[pt tb]) w2 E Q g n cap ok w zs → w2.heap.size ≤ w.heap.size → Inv s w → vis step d (zs.map (·.2)) s = some s' →
    Calls Try.prog 41 #[.int .i64 v, pt Q, pt E, pt (Q + 1)] w fun e w' => e = .returned (.tuple #[]) ∧ St 22 40 53 (impl_orders.try E Q) (.func (.func tell) #[] #[pt tb]) w2 E Q g n cap ok w' zs ∧ Inv s' w' ∧ Below B w w' := by
  intro d
  induction d with
  | zero =>
    intro a ha v zs s s' w hv hst hsz hinv h
    have ha : a = n := by omega
    subst ha
    subst hv
    have hl := hst.lt
    have h1 := hst.eg
    have h2 := hst.gq
    have cQ := cell_of_one hst.bq
    have cE := cell_of_one hst.be
    have hq1 : ((a : Int) == (a : Int)) = true := beq_self_eq_true _
    have kt : Calls Try.prog tell #[.slice (some ⟨g, 0, none⟩) a cap, pt tb] w fun e w' => e = .returned (.tuple #[]) ∧ Inv s' w' ∧ Below B w w' ∧ ∀ k, k < w.heap.size → ¬ J k → w'.heap[k]? = w.heap[k]? := by
      have h' : step s (zs.map (·.2)) = some s' := h
      have := hT w (some ⟨g, 0, none⟩) cap (zs.map (·.2)) s s' (by rw [List.length_map, hst.len]; exact hst.C) (by rw [List.length_map, hst.len]; exact hst.cp) hinv (by omega) h'
      rwa [List.length_map, hst.len] at this
    have HST := Aside0.mk hst
    clear hst hT hI h hinv
    go_enter Try.func41, Try.ntmps41
    go_wp2_with (go_at_fn tell; refine kt.mono ?_; rintro e w1 ⟨rfl, hi, hb, hk⟩; have HI := Aside0.mk hi; have HB := Aside0.mk hb; have HS1 := Aside0.mk (HST.out.step hsz hJ hk); clear kt hi hb hk)
    first | go_end0 | refine bodyPost_ret (results_none rfl _ _ _) rfl ?_
    exact ⟨rfl, HS1.out, HI.out, HB.out⟩
  | succ d ih =>
    intro a ha v zs s s' w hv hst hsz hinv h
    have han : a < n := by omega
    have q1 : ((a : Int) == (n : Int)) = false := beq_eq_false_iff_ne.mpr (by omega)
    subst hv
    have hl := hst.lt
    have h1 := hst.eg
    have h2 := hst.gq
    have cQ := cell_of_one hst.bq
    have hlen := hst.len
    have H : row (fun i s => vis step d (swap (zs.map (·.2)) a i) s) (d + 1) a s = some s' := by
      have h3 : row (fun i s => vis step d (swap (zs.map (·.2)) ((zs.map (·.2)).length - (d + 1)) i) s) (d + 1) ((zs.map (·.2)).length - (d + 1)) s = some s' := h
      rw [List.length_map, hlen, show n - (d + 1) = a by omega] at h3
      exact h3
    have HH := Aside0.mk H
    have HST := Aside0.mk hst
    have HV := Aside0.mk hinv
    have IH := Aside0.mk ih
    clear h H hst hinv ih hT
    go_enter Try.func41, Try.ntmps41
    go_wp2
    go_loopg [5] (d + 1) (fun kq v5 w' => ∃ (i : Nat) (s1 : σ), v5 = .int .i64 (i : Int) ∧ Aside0 (kq + i = n ∧ a ≤ i) ∧ Aside0 (row (fun i s => vis step d (swap (zs.map (·.2)) a i) s) kq i s1 = some s') ∧ Aside0 (St 22 40 53 (impl_orders.try E Q) (.func (.func tell) #[] #[pt tb]) w2 E Q g n cap ok w' zs ∧ w2.heap.size ≤ w'.heap.size) ∧ Aside0 (Inv s1 w') ∧ Aside0 (Below B w w'))
    case atStart => exact ⟨a, s, rfl, ⟨by omega⟩, HH, ⟨HST.out, hsz⟩, HV, ⟨Below.refl _ _⟩⟩
    case round =>
      clear HH HST HV
      obtain ⟨i, s1, rfl, HN, HR, HS, HV, HB⟩ := hrel
      have hn1 := HN.out
      have cQ1 := cell_of_one HS.out.1.bq
      cases gk with
      | zero =>
        have hi : i = n := by omega
        subst hi
        have hR := Option.some.inj HR.out
        subst hR
        clear HR
        have q2 : ((i : Int) < (i : Int)) = False := eq_false (by omega)
        go_wp2
        go_end0
        exact ⟨rfl, HS.out.1, HV.out, HB.out⟩
      | succ g1 =>
        have hin : i < n := by omega
        obtain ⟨s2, R1, R2⟩ := Option.bind_eq_some_iff.mp HR.out
        clear HR
        have hza : a < zs.length := by omega
        have hzi : i < zs.length := by omega
        have cT := cell_of_one HS.out.1.bt
        have ca := HS.out.1.cell hza
        have ci := HS.out.1.cell hzi
        obtain ⟨A1, n1, c1, ea⟩ : ∃ A n c, zs[a].1 = (A, n, c) := ⟨_, _, _, rfl⟩
        obtain ⟨A2, n2, c2, ei⟩ : ∃ A n c, zs[i].1 = (A, n, c) := ⟨_, _, _, rfl⟩
        rw [ea] at ca
        rw [ei] at ci
        have EA := Aside0.mk ea
        have EI := Aside0.mk ei
        clear ea ei
        dsimp only at ca ci
        have fa := HS.out.1.free a
        have fi := HS.out.1.free i
        have q2 : ((i : Int) < (n : Int)) = True := eq_true (by omega)
        have q3 : (0 : Int) ≤ (a : Int) := by omega
        have q4 : (a : Int) < (n : Int) := by omega
        have q5 : (0 : Int) ≤ (i : Int) := by omega
        have q6 : (i : Int) < (n : Int) := by omega
        go_wp2
        refine impl_orders.swap5 cQ1 ca ci fa fi han hin h2 ?_
        have hS1 := (HS.out.1.swap hok hza hzi).drew
        have hV1 : Inv s1 ((wr.setCell ⟨g, a, none⟩ (encH zs[i].1)).setCell ⟨g, i, none⟩ (encH zs[a].1)).drew := hI _ wr _ HV.out (fun k hk => by
          have := (hJ k hk).2
          exact (heap_setCell_other _ _ _ _ (by simp; omega)).trans (heap_setCell_other _ _ _ _ (by simp; omega)))
        have hB1 : Below B w ((wr.setCell ⟨g, a, none⟩ (encH zs[i].1)).setCell ⟨g, i, none⟩ (encH zs[a].1)).drew := ((HB.out.setCell (p := ⟨g, a, none⟩) (by simp; omega) _).setCell (p := ⟨g, i, none⟩) (by simp; omega) _).drew
        have hz1 : w2.heap.size ≤ ((wr.setCell ⟨g, a, none⟩ (encH zs[i].1)).setCell ⟨g, i, none⟩ (encH zs[a].1)).drew.heap.size := by
          have := HS.out.2
          simpa using this
        rw [EA.out, EI.out] at hS1 hV1 hB1 hz1
        simp only [encH] at hS1 hV1 hB1 hz1
        generalize ((wr.setCell ⟨g, a, none⟩ (.slice A2 n2 c2)).setCell ⟨g, i, none⟩ (.slice A1 n1 c1)).drew = W1 at hS1 hV1 hB1 hz1 ⊢
        have kc : Calls Try.prog 41 #[.int .i64 ((a : Int) + 1), pt Q, pt E, pt (Q + 1)] W1 fun e w' => e = .returned (.tuple #[]) ∧ St 22 40 53 (impl_orders.try E Q) (.func (.func tell) #[] #[pt tb]) w2 E Q g n cap ok w' (swap zs a i) ∧ Inv s2 w' ∧ Below B W1 w' :=
          IH.out (a + 1) (by omega) _ (swap zs a i) s1 s2 W1 (by omega) hS1 hz1 hV1 (by rw [swap_map]; exact R1)
        have HB1 := Aside0.mk hB1
        have HZ1 := Aside0.mk hz1
        have cT1 := cell_of_one hS1.bt
        clear hS1 hV1 hB1 hz1 ca ci fa fi cQ1 cT IH
        go_wp2_with (go_at_call 41; refine kc.mono ?_; rintro e w3 ⟨rfl, hs, hi, hb⟩; have HI3 := Aside0.mk hi; have HB3 := Aside0.mk (HB1.out.trans hb); have HZ3 := Aside0.mk (Nat.le_trans HZ1.out hb.size); have HS3 := Aside0.mk hs; clear kc hi hb cT1 hs)
        have yza : a < (swap zs a i).length := by rw [swap_length]; exact hza
        have yzi : i < (swap zs a i).length := by rw [swap_length]; exact hzi
        obtain ⟨ys, hys⟩ : ∃ ys, ys = swap zs a i := ⟨_, rfl⟩
        have hback : swap ys a i = zs := by rw [hys]; exact swap_swap hza hzi
        have HBK := Aside0.mk hback
        rw [← hys] at HS3 yza yzi
        clear hys hback
        have cQ3 := cell_of_one HS3.out.bq
        have ya := HS3.out.cell yza
        have yi := HS3.out.cell yzi
        obtain ⟨A3, n3, c3, ea⟩ : ∃ A n c, ys[a].1 = (A, n, c) := ⟨_, _, _, rfl⟩
        obtain ⟨A4, n4, c4, ei⟩ : ∃ A n c, ys[i].1 = (A, n, c) := ⟨_, _, _, rfl⟩
        rw [ea] at ya
        rw [ei] at yi
        have YA := Aside0.mk ea
        have YI := Aside0.mk ei
        clear ea ei
        dsimp only at ya yi
        have ga := HS3.out.free a
        have gi := HS3.out.free i
        refine impl_orders.swap7 cQ3 ya yi ga gi han hin h2 ?_
        have hS4 := (HS3.out.swap hok yza yzi).drew
        rw [HBK.out] at hS4
        have hV4 : Inv s2 ((w3.setCell ⟨g, a, none⟩ (encH ys[i].1)).setCell ⟨g, i, none⟩ (encH ys[a].1)).drew := hI _ w3 _ HI3.out (fun k hk => by
          have := (hJ k hk).2
          exact (heap_setCell_other _ _ _ _ (by simp; omega)).trans (heap_setCell_other _ _ _ _ (by simp; omega)))
        have hB4 : Below B w ((w3.setCell ⟨g, a, none⟩ (encH ys[i].1)).setCell ⟨g, i, none⟩ (encH ys[a].1)).drew := ((HB3.out.setCell (p := ⟨g, a, none⟩) (by simp; omega) _).setCell (p := ⟨g, i, none⟩) (by simp; omega) _).drew
        have hz4 : w2.heap.size ≤ ((w3.setCell ⟨g, a, none⟩ (encH ys[i].1)).setCell ⟨g, i, none⟩ (encH ys[a].1)).drew.heap.size := by
          have := HZ3.out
          simpa using this
        rw [YA.out, YI.out] at hS4 hV4 hB4 hz4
        simp only [encH] at hS4 hV4 hB4 hz4
        generalize ((w3.setCell ⟨g, a, none⟩ (.slice A4 n4 c4)).setCell ⟨g, i, none⟩ (.slice A3 n3 c3)).drew = W4 at hS4 hV4 hB4 hz4 ⊢
        have HS4 := Aside0.mk hS4
        have HV4 := Aside0.mk hV4
        have HB4 := Aside0.mk hB4
        have HZ4 := Aside0.mk hz4
        have HR2 := Aside0.mk R2
        clear hS4 hV4 hB4 hz4 ya yi ga gi cQ3 R1 R2
        go_wp2
        go_roundg g1
        case measure => omega
        case rel => exact ⟨i + 1, s2, by go_num, ⟨by omega⟩, HR2, ⟨HS4.out, HZ4.out⟩, HV4, HB4⟩
open Go.Proofs.Ytbcfgglcabeckaa.HOrd Go.Proofs.Ytbcfgglcabeckaa.HRaw in
set_option maxHeartbeats 8000000 in
set_option maxRecDepth 100000 in
theorem impl_orders.calls {σ : Type} {tell tb B : Nat} {J : Nat → Prop} {Inv : σ → World → Prop} {step : σ → List (List Int) → Option σ} (eg : ∀ args w, (callFunc tell args).run Try.prog w = .ok (.enter tell args) w) (w0 w : World) (A0 : Option Addr) (c0 : Nat) (l0 : List (List Int)) (s s' : σ)
    (hT : impl_orders.Tells tell tb B w.heap.size J Inv step) (hJ : ∀ k, J k → w0.heap.size ≤ k ∧ k < w.heap.size) (hB0 : B ≤ w0.heap.size) (hBw : w0.heap.size ≤ w.heap.size) (hI : ∀ s W W', Inv s W → (∀ k, J k → W'.heap[k]? = W.heap[k]?) → Inv s W')
    (hr0 : Kd.C (Kd.slice 3 (Kd.int .i64)) w0 A0 l0.length l0) (hc0 : l0.length ≤ c0) (hb0 : Below w0.heap.size w0 w) (hinv : Inv s w) (h : impl_orders.f step s l0 = some s') :
    Calls Try.prog 25 #[.slice A0 l0.length c0, .func (.func tell) #[] #[pt tb]] w fun e w' => e = .returned (.tuple #[]) ∧ Inv s' w' ∧ Below B w w' := by
  unfold impl_orders.f at h
  by_cases g0 : 0 < l0.length
  · rw [if_pos g0] at h
    by_cases g1 : l0.length < 1000
    · rw [if_pos g1] at h
      have hmf : ∀ (fn : Fn) (first cap : Array Value) (w : World), (Instr.makeFunc fn first cap).run Try.prog w = .ok (.func fn first cap) w := fun _ _ _ _ => rfl
      have hV := came_V (e := 35) (base := (w.alloc (.cells #[.func (.func tell) #[] #[pt tb]] 40)).heap.size) (Kd.heap_slice 3 (Kd.heap_int .i64)) hr0 (below_alloc hb0 (.cells #[.func (.func tell) #[] #[pt tb]] 40)) hc0
      have hcl : slices_Clone_int_int.f l0 = some l0 := by simp [slices_Clone_int_int.f]; omega
      have c1 := slices_Clone_int_int.calls _ A0 c0 l0 l0 _ hV hcl
      have kc : ∀ (w2 : World) (g cap : Nat) (cur : Array Value) (hs : List Hd), Below (w.heap.size + 1) (w.alloc (.cells #[.func (.func tell) #[] #[pt tb]] 40)) w2 → Go.Proofs.Ytbcfgglcabeckaa.HRaw.Open (Kd.int .i64) w2 35 (w.heap.size + 1) (fun k_ => k_ < w0.heap.size ∨ w.heap.size + 1 ≤ k_) (.slice (some ⟨g, 0, none⟩) l0.length cap) l0 g cap cur hs →
          Calls Try.prog 41 #[.int .i64 0, pt w2.heap.size, pt w.heap.size, pt (w2.heap.size + 1)] ((w2.alloc (.cells #[.slice (some ⟨g, 0, none⟩) l0.length cap] 22)).alloc (.cells #[impl_orders.try w.heap.size w2.heap.size] 53)) fun e w' => e = .returned (.tuple #[]) ∧ Inv s' w' ∧ Below B w w' := by
        intro w2 g cap cur hs hB O
        have hsz : w2.heap.size ≤ ((w2.alloc (.cells #[.slice (some ⟨g, 0, none⟩) l0.length cap] 22)).alloc (.cells #[impl_orders.try w.heap.size w2.heap.size] 53)).heap.size := by simp; omega
        have hE : w2.heap[w.heap.size]? = some (.cells #[.func (.func tell) #[] #[pt tb]] 40 (0, 0)) := (hB.block _ (by omega)).trans (Go.Proofs.Ytbcfgglcabeckaa.HClo.alloc_new _ _ _ rfl)
        have hS := St.made (tq := 22) (te := 53) (me := impl_orders.try w.heap.size w2.heap.size) O hE (by omega)
        have hsz2 : w.heap.size + 1 ≤ w2.heap.size := by have := hB.size; simpa using this
        have e : ∀ (w : World) (o : Obj), (w.alloc o).heap.size = w.heap.size + 1 := fun w o => by simp
        have hi2 : Inv s ((w2.alloc (.cells #[.slice (some ⟨g, 0, none⟩) l0.length cap] 22)).alloc (.cells #[impl_orders.try w.heap.size w2.heap.size] 53)) := hI _ w _ hinv (fun k hk => by
          have := (hJ k hk).2
          exact Go.Proofs.Ytbcfgglcabeckaa.HClo.alloc_old (by simp only [e]; omega) (Go.Proofs.Ytbcfgglcabeckaa.HClo.alloc_old (by omega) ((hB.block k (by omega)).trans (Below.heap_alloc _ _ _ this))))
        have hBB : Below B w ((w2.alloc (.cells #[.slice (some ⟨g, 0, none⟩) l0.length cap] 22)).alloc (.cells #[impl_orders.try w.heap.size w2.heap.size] 53)) := by
          have h1 : Below B w (w.alloc (.cells #[.func (.func tell) #[] #[pt tb]] 40)) := (Below.refl B w).alloc (by omega) _
          exact ((h1.trans (hB.mono (by omega))).alloc (by omega) _).alloc (by simp only [e]; omega) _
        refine (impl_orders.try_calls (B := B) (E := w.heap.size) (Q := w2.heap.size) (n := l0.length) (J := J) (Inv := Inv) (step := step) eg hT (fun k hk => ⟨fun ho => ?_, (hJ k hk).2⟩) (fun k ho => ?_) (by omega) g1 hI l0.length 0 (by omega) 0 _ s s' _ rfl hS hsz hi2 (by rw [zip_snd O.hlen]; exact h)).mono ?_
        · have := hJ k hk; omega
        · omega
        · rintro e w' ⟨rfl, _, h2, h3⟩
          exact ⟨rfl, h2, hBB.trans h3⟩
      clear hT hJ hI hV hcl hinv h eg hr0 hb0
      go_enter Try.func25, Try.ntmps25
      go_wp2_with (first | (go_at_call 40; refine c1.mono ?_; rintro e w2 ⟨v0, rfl, hN, hB⟩; clear c1; obtain ⟨g, cap, cur, hs, O⟩ := open_N hN g0; obtain rfl := O.val; have kd := kc w2 g cap cur hs (by simpa using hB) (by simpa using O); clear kc O hN hB) | (go_at_call 41; refine kd.mono ?_; rintro e w3 ⟨rfl, hi, hb⟩; have HI := Aside0.mk hi; have HB := Aside0.mk hb; clear kd hi hb))
      go_end0
      exact ⟨rfl, HI.out, HB.out⟩
    · rw [if_neg g1] at h; cases h
  · rw [if_neg g0] at h; cases h

-- NOT PRINTED: function 34 (impl_OrderLattice_1)

/-! ### impl_OrderLattice: function 16, by hand -/
def impl_OrderLattice.two (s : List Int) : List Int := [wrap64 (rd s 0 + 10) % 256, wrap64 (rd s 1 + 10) % 256]
def impl_OrderLattice.key : List (List Int) → ByteArray → Option ByteArray
  | [], a => some a
  | s :: t, a => if 1 < s.length then impl_OrderLattice.key t (a ++ strOfNums (impl_OrderLattice.two s)) else none
def impl_OrderLattice.step (s : List Lit) (q : List (List Int)) : Option (List Lit) := if s.length < 1000000 then (if q.length < 1000 then (impl_OrderLattice.key q ⟨#[]⟩).bind fun a => some (s ++ [.string a.data.toList]) else none) else none
def impl_OrderLattice.D (s : List Lit) : DataW Unit := Go.Maps.setOf (.lit (.bool true)) s
def impl_OrderLattice.f (k : Nat) (l0 : List (List Int)) : Option (Int × Bool) := (impl_PathIn.f k l0).bind fun t => if t = true then (if (l0.length : Int) > 6 then some (0, false) else (impl_orders.f impl_OrderLattice.step [] l0).bind fun s => some ((Go.Maps.size (impl_OrderLattice.D s) : Int), true)) else some (0, false)
theorem impl_OrderLattice.mono : ∀ a0 k, LeO (impl_OrderLattice.f k a0) (impl_OrderLattice.f (k + 1) a0) := by
  intro a0 k
  unfold impl_OrderLattice.f
  exact LeO.bind (impl_PathIn.mono _ _) (fun t => LeO.ite (LeO.ite (LeO.refl _) (LeO.refl _)) (LeO.refl _))
theorem impl_OrderLattice.key_drop {q : List (List Int)} {i : Nat} (h : i < q.length) (a : ByteArray) : impl_OrderLattice.key (q.drop i) a = if 1 < q[i].length then impl_OrderLattice.key (q.drop (i + 1)) (a ++ strOfNums (impl_OrderLattice.two q[i])) else none := by
  rw [List.drop_eq_getElem_cons h]
  rfl
/-- The map of the keys, and the variable that holds it. -/
def impl_OrderLattice.Inv (b : Nat) (s : List Lit) (W : World) : Prop := W.heap[b + 1]? = some (.cells #[.map (some b)] 48 (0, 0)) ∧ W.ownsMap Try.prog 9 (Go.plainElem (H := Unit) Try.prog 4) b s.length (impl_OrderLattice.D s)
theorem impl_OrderLattice.lawK : Go.Maps.Keyed Try.prog 9 := Go.Maps.string_keyed Try.underlying9
open Go.Proofs.Ytbcfgglcabeckaa.HOrd in
set_option maxHeartbeats 8000000 in
set_option maxRecDepth 100000 in
theorem impl_OrderLattice.tells (b B E : Nat) (hB : B ≤ b) (hE : b + 2 ≤ E) : impl_orders.Tells 34 (b + 1) B E (fun j => j = b + 1 ∨ j = b) (impl_OrderLattice.Inv b) impl_OrderLattice.step := by
  intro W A c ys s s' hC hc hinv hEW h
  unfold impl_OrderLattice.step at h
  by_cases g0 : s.length < 1000000
  · rw [if_pos g0] at h
    by_cases g1 : ys.length < 1000
    · rw [if_pos g1] at h
      obtain ⟨a, h1, h⟩ := Option.bind_eq_some_iff.mp h
      obtain rfl := Option.some.inj h
      clear h
      have HI := Aside0.mk hinv
      have HC := Aside0.mk hC
      have HK := Aside0.mk h1
      clear hinv hC h1
      have hcv : ∀ (W : World) (b1 b2 : Int), (convert 29 9 (.slice (some ⟨W.heap.size, 0, none⟩) 2 2)).run Try.prog (W.alloc (.cells #[.int .u8 b1, .int .u8 b2] 5)).drew = .ok (.string (strOfNums [b1, b2])) (W.alloc (.cells #[.int .u8 b1, .int .u8 b2] 5)).drew := fun W b1 b2 =>
        Kd.C_string Try.underlying29 Try.underlying5 Try.underlying9 (xs := [b1, b2]) (Go.Proofs.Ytbcfgglcabeckaa.HClo.kind_C (xs := [b1, b2]) (e := 5) (Go.Proofs.Ytbcfgglcabeckaa.HClo.alloc_new W _ _ rfl) (by simp))
      go_enter Try.func34, Try.ntmps34
      go_wp2
      go_loopg [3, 5, 8] ys.length (fun kq v3 v5 v8 w' => ∃ (i : Nat) (y : ByteArray), v3 = .string y ∧ v8 = .int .i64 (i : Int) ∧ Aside0 (kq + i = ys.length) ∧ Aside0 (impl_OrderLattice.key (ys.drop i) y = some a ∧ y.size = 2 * i) ∧ Aside0 (Below W.heap.size W w'))
      case atStart => exact ⟨0, ⟨#[]⟩, rfl, rfl, ⟨rfl⟩, ⟨HK.out, rfl⟩, ⟨Below.refl _ _⟩⟩
      case round =>
        clear HK
        obtain ⟨i, y, rfl, rfl, HN, HK, HB⟩ := hrel
        have hn := HN.out
        by_cases hi : i < ys.length
        · have p1 : (0 : Int) ≤ (i : Int) := by omega
          have p2 : (i : Int) < (ys.length : Int) := by omega
          obtain ⟨ad, A1, c1, rfl, hx, hl1, hr1⟩ := at_L1 (Kd.C_below HC.out HB.out) (i : Int) p1 p2
          have hrd : rd_L1 ys (i : Int) = ys[i] := by unfold rd_L1; simp [hi]
          rw [hrd] at hx hl1 hr1
          rw [Int.toNat_natCast] at hx
          have hk := HK.out.1
          have hys := HK.out.2
          have hz2 : ∀ b1 b2 : Int, (strOfNums [b1, b2]).size = 2 := fun _ _ => rfl
          have hyz : ∀ b1 b2 : Int, (9223372036854775807 < y.size + (strOfNums [b1, b2]).size) = False := fun b1 b2 => eq_false (by rw [hz2]; omega)
          have HZ2 := Aside0.mk hys
          clear hys hz2
          rw [impl_OrderLattice.key_drop hi] at hk
          by_cases h2 : 1 < ys[i].length
          · rw [if_pos h2] at hk
            obtain ⟨ad2, rfl, hy0⟩ := Kd.at_int hr1 0 (by omega) (by omega)
            obtain ⟨ad3, e3, hy1⟩ := Kd.at_int hr1 1 (by omega) (by omega)
            cases e3
            rw [show ((0 : Int)).toNat = 0 from rfl, Addr.add_zero'] at hy0
            rw [show ((1 : Int)).toNat = 1 from rfl] at hy1
            obtain ⟨x0, ex0⟩ : ∃ x0, rd ys[i] 0 = x0 := ⟨_, rfl⟩
            obtain ⟨x1, ex1⟩ : ∃ x1, rd ys[i] 1 = x1 := ⟨_, rfl⟩
            obtain ⟨L, eL⟩ : ∃ L, ys[i].length = L := ⟨_, rfl⟩
            rw [ex0] at hy0
            rw [ex1] at hy1
            rw [eL] at hx h2
            have etwo : impl_OrderLattice.two ys[i] = [wrap64 (x0 + 10) % 256, wrap64 (x1 + 10) % 256] := by unfold impl_OrderLattice.two; rw [ex0, ex1]
            rw [etwo] at hk
            have HK2 := Aside0.mk hk
            have hl2 : (0 : Int) < (L : Int) := by omega
            have hl3 : (1 : Int) < (L : Int) := by omega
            have hl4 : (0 < L) = True := eq_true (by omega)
            have hl5 : (1 < L) = True := eq_true h2
            rw [show Addr.add ad2 1 = ⟨ad2.block, ad2.off + 1, none⟩ from rfl] at hy1
            clear hk HK hr1 hl1 ex0 ex1 eL etwo hrd
            go_wp2
            go_region
            have hB2 : Below W.heap.size W (wr.alloc (.cells #[.int .u8 (wrap64 (x0 + 10) % 256), .int .u8 (wrap64 (x1 + 10) % 256)] 5)).drew := (HB.out.alloc HB.out.size _).drew
            generalize (wr.alloc (.cells #[.int .u8 (wrap64 (x0 + 10) % 256), .int .u8 (wrap64 (x1 + 10) % 256)] 5)).drew = W2 at hB2 ⊢
            have HB2 := Aside0.mk hB2
            clear hB2 hcv hyz hx hy0 hy1
            go_wp2
            go_roundg (ys.length - (i + 1))
            case measure => omega
            case rel => exact ⟨i + 1, _, rfl, by go_num, ⟨by omega⟩, ⟨HK2.out, by rw [ByteArray.size_append, HZ2.out]; rfl⟩, HB2⟩
          · rw [if_neg h2] at hk; cases hk
        · have hin : i = ys.length := by omega
          subst hin
          have hk := HK.out.1
          rw [List.drop_length] at hk
          obtain rfl := Option.some.inj hk
          have hys := HK.out.2
          have hlt := HI.out.2.lt
          have e1 : wr.heap[b + 1]? = W.heap[b + 1]? := HB.out.block _ (by omega)
          have e2 : wr.heap[b]? = W.heap[b]? := HB.out.block _ (by omega)
          have hown : wr.ownsMap Try.prog 9 (Go.plainElem (H := Unit) Try.prog 4) b s.length (impl_OrderLattice.D s) := by
            obtain ⟨es, clock, hb, F, hs, hD⟩ := HI.out.2
            exact ⟨es, clock, e2.trans hb, F, hs, hD⟩
          have cm := cell_of_one (e1.trans HI.out.1)
          have hkey := Go.WideMaps.keyOf_string_mk Try.underlying9 (s := y) (by unfold maxLen; omega)
          clear hk HK hcv e2
          have q0 : ((ys.length : Int) < (ys.length : Int)) = False := eq_false (by omega)
          go_wp2_with (first | (at_mapUpdate; refine wpList_mapUpdate_own _ rfl _ _ _ 48 rfl 9 4 impl_OrderLattice.lawK Try.underlying48 (Go.plainElem (H := Unit) Try.prog 4) b s.length _ rfl hown (by unfold maxLen; omega) _ _ _ rfl rfl hkey _ [] (Go.plainElem_bool Try.underlying4 true) ?_; intro w1 hown1 hgrow1))
          go_end0
          refine ⟨rfl, ⟨(hgrow1.block _ (by have := HB.out.size; omega) (by simp)).trans (e1.trans HI.out.1), ?_⟩, (HB.out.mono (by omega)).grown hgrow1 (by have := HB.out.size; omega) (fun k hk => by cases hk; exact hB), ?_⟩
          · rw [List.length_append]
            unfold impl_OrderLattice.D at hown1 ⊢
            rw [Go.Maps.setOf_snoc]
            exact hown1
          · have key : ∀ k, k < W.heap.size → k ≠ b → w1.heap[k]? = W.heap[k]? := fun k hk hne => (hgrow1.block k (by have := HB.out.size; omega) (fun e => hne (Option.some.inj e))).trans (HB.out.block k hk)
            first
            | exact fun k hk hne => key k hk (fun e => hne (Or.inr e))
            | exact fun k hk hne hne2 => key k hk hne2
    · rw [if_neg g1] at h; cases h
  · rw [if_neg g0] at h; cases h
open Go.Proofs.Ytbcfgglcabeckaa.HOrd in
set_option maxHeartbeats 8000000 in
set_option maxRecDepth 100000 in
theorem impl_OrderLattice.calls (k : Nat) (A0 : Option Addr) (c0 : Nat) (l0 : List (List Int)) (r1 : Int) (r2 : Bool) (w : World) (hr0 : Kd.C (Kd.slice 3 (Kd.int .i64)) w A0 l0.length l0) (hc0 : l0.length ≤ c0) (h : impl_OrderLattice.f k l0 = some (r1, r2)) :
    Calls Try.prog 16 #[.slice A0 l0.length c0] w fun e w' => e = .returned (.tuple #[.int .i64 r1, .bool r2]) ∧ Below w.heap.size w w' := by
  have hmf : ∀ (fn : Fn) (first cap : Array Value) (w : World), (Instr.makeFunc fn first cap).run Try.prog w = .ok (.func fn first cap) w := fun _ _ _ _ => rfl
  unfold impl_OrderLattice.f at h
  obtain ⟨t, h1, h⟩ := Option.bind_eq_some_iff.mp h
  have k1 := impl_PathIn.calls k A0 c0 l0 t w hr0 hc0 h1
  clear h1
  cases t with
  | false =>
    rw [if_neg (by decide)] at h
    injection h with h
    injection h with h2 h3
    subst h2 h3
    go_enter Try.func16, Try.ntmps16
    go_wp2_with (go_at_call 23; refine k1.mono ?_; rintro e w1 ⟨rfl, ⟨nd, rfl⟩⟩; clear k1)
    go_ret2
    exact ⟨rfl, pw_below_drewN (Below.refl _ _) _⟩
  | true =>
    rw [if_pos rfl] at h
    by_cases c6 : (l0.length : Int) > 6
    · rw [if_pos c6] at h
      injection h with h
      injection h with h2 h3
      subst h2 h3
      have q6 : decide ((6 : Int) < (l0.length : Int)) = true := decide_eq_true c6
      have q7 : decide (6 < l0.length) = true := decide_eq_true (by omega)
      go_enter Try.func16, Try.ntmps16
      go_wp2_with (go_at_call 23; refine k1.mono ?_; rintro e w1 ⟨rfl, ⟨nd, rfl⟩⟩; clear k1)
      go_ret2
      exact ⟨rfl, pw_below_drewN (Below.refl _ _) _⟩
    · rw [if_neg c6] at h
      obtain ⟨s, h3, h⟩ := Option.bind_eq_some_iff.mp h
      injection h with h
      injection h with h4 h5
      subst h4 h5
      have q6 : decide ((6 : Int) < (l0.length : Int)) = false := decide_eq_false c6
      have q7 : decide (6 < l0.length) = false := decide_eq_false (by omega)
      have k3 : ∀ nd, Calls Try.prog 25 #[.slice A0 l0.length c0, .func (.func 34) #[] #[pt (w.heap.size + 1)]] (((w.drewN nd).alloc (.map #[] 0)).alloc (.cells #[.map (some w.heap.size)] 48)) fun e w' => e = .returned (.tuple #[]) ∧ impl_OrderLattice.Inv w.heap.size s w' ∧ Below w.heap.size (((w.drewN nd).alloc (.map #[] 0)).alloc (.cells #[.map (some w.heap.size)] 48)) w' := fun nd => by
        have e1 : (((w.drewN nd).alloc (.map #[] 0)).alloc (.cells #[.map (some w.heap.size)] 48)).heap.size = w.heap.size + 2 := by simp
        refine impl_orders.calls (tell := 34) (tb := w.heap.size + 1) (B := w.heap.size) (J := fun j => j = w.heap.size + 1 ∨ j = w.heap.size) (Inv := impl_OrderLattice.Inv w.heap.size) (step := impl_OrderLattice.step) (enters_of Try.func34 (by kernel_rfl) rfl) w _ A0 c0 l0 [] s
          (impl_OrderLattice.tells _ _ _ (Nat.le_refl _) (by rw [e1]; exact Nat.le_refl _)) (fun j hj => by rw [e1]; have : j = w.heap.size + 1 ∨ j = w.heap.size := hj; omega) (Nat.le_refl _) (by rw [e1]; omega) (fun s W W' hI hJ => ⟨(hJ _ (.inl rfl)).trans hI.1, ?_⟩) hr0 hc0 (((pw_below_drewN (Below.refl _ w) nd).alloc (Nat.le_refl _) _).alloc (by simp) _) ⟨Go.Proofs.Ytbcfgglcabeckaa.HClo.alloc_new _ _ _ (by simp), ?_⟩ h3
        · obtain ⟨es, clock, hb, F, hs, hD⟩ := hI.2
          exact ⟨es, clock, (hJ _ (.inr rfl)).trans hb, F, hs, hD⟩
        · exact (Go.World.ownsMap_made (w.drewN nd) _ _ _).alloc _
      have hmm := @run_makeMap Try.prog
      have fc : ∀ j, (((w.drewN j).alloc (.map #[] 0)).alloc (.cells #[.map none] 48)).cell? ⟨w.heap.size + 1, 0, none⟩ = some (.map none) := fun j => cell_of_one (Go.Proofs.Ytbcfgglcabeckaa.HClo.alloc_new ((w.drewN j).alloc (.map #[] 0)) _ _ (by simp))
      have ff : ∀ j, (((w.drewN j).alloc (.map #[] 0)).alloc (.cells #[.map none] 48)).frozen? ⟨w.heap.size + 1, 0, none⟩ = false := fun j => free_of_one (Go.Proofs.Ytbcfgglcabeckaa.HClo.alloc_new ((w.drewN j).alloc (.map #[] 0)) _ _ (by simp))
      have fs : ∀ j v, (((w.drewN j).alloc (.map #[] 0)).alloc (.cells #[.map none] 48)).setCell ⟨w.heap.size + 1, 0, none⟩ v = ((w.drewN j).alloc (.map #[] 0)).alloc (.cells #[v] 48) := fun j v => World.setCell_alloc_at _ _ _ _ _ (by simp)
      clear h3 hr0
      go_enter Try.func16, Try.ntmps16
      go_wp2_with (first | (go_at_call 23; refine k1.mono ?_; rintro e w1 ⟨rfl, ⟨nd, rfl⟩⟩; clear k1) | (go_at_call 25; refine (k3 _).mono ?_; rintro e w1 ⟨rfl, hi, hb⟩; have c1 := cell_of_one hi.1; have hown := hi.2; have HB := Aside0.mk hb; clear k3 hi hb fc ff fs) | (at_len; refine wpList_len_own _ rfl _ 48 rfl 9 4 Try.underlying48 _ w.heap.size _ _ rfl hown ?_))
      go_ret2
      exact ⟨rfl, (((pw_below_drewN (Below.refl _ w) _).alloc (Nat.le_refl _) _).alloc (by simp) _).trans HB.out⟩

/-- A state of type 55 at block g of W; what its slices lead to came in by w0. -/
def IsS55 (w0 W : World) (g : Nat) (f0 : List Int) (f1 : Int) : Prop := ∃ A0 c0, W.heap[g]? = some (.cells #[.slice A0 f0.length c0, .int .i64 f1] 55 (0, 0)) ∧ w0.heap.size ≤ g ∧ Kd.C (Kd.int .u8) w0 A0 f0.length f0
theorem IsS55.grown {w0 W : World} {g : Nat} {f0 : List Int} {f1 : Int} {W1 : World} {row : Option Nat} (h : IsS55 w0 W g f0 f1) (hw : W.grownBy W1 row) (hne : some g ≠ row) : IsS55 w0 W1 g f0 f1 := by
  obtain ⟨A0, c0, hb, hg, hr0⟩ := h
  exact ⟨A0, c0, blk_grown hb hw hne, hg, hr0⟩
theorem IsS55.own_neN {w0 W : World} {g : Nat} {f0 : List Int} {f1 : Int} {α : Type} {d : Kd α} {e : Nat} {base : Nat} {ok : Nat → Prop} {v : Value} {xs : List α} (h : IsS55 w0 W g f0 f1) (ho : Kd.N d e W base ok v xs) (ht : e ≠ 55) : some g ≠ v.ownBlock := by
  obtain ⟨A0, c0, hb, hg, hr0⟩ := h
  exact Kd.N_ne ho hb ht
theorem IsS55.fresh {w0 W : World} {g : Nat} {f0 : List Int} {f1 : Int} (h : IsS55 w0 W g f0 f1) : ∀ k, W.heap.size ≤ k → k ≠ g := by
  obtain ⟨A0, c0, hb, hg, hr0⟩ := h
  exact Kd.freshB hb
theorem IsS55.kept {w0 W : World} {g : Nat} {f0 : List Int} {f1 : Int} {W1 : World} {S : Nat → Prop} (h : IsS55 w0 W g f0 f1) (hk : Kept W W1 S) (hne : ¬ S g) : IsS55 w0 W1 g f0 f1 := by
  obtain ⟨A0, c0, hb, hg, hr0⟩ := h
  exact ⟨A0, c0, blk_kept hb hk hne, hg, hr0⟩
theorem IsS55.below {w0 W : World} {g : Nat} {f0 : List Int} {f1 : Int} {W1 : World} (h : IsS55 w0 W g f0 f1) (hw : Below W.heap.size W W1) : IsS55 w0 W1 g f0 f1 := h.grown (grown_of_below hw none) (by simp)
theorem IsS55.alloc {w0 W : World} {g : Nat} {f0 : List Int} {f1 : Int} (h : IsS55 w0 W g f0 f1) (o : Obj) : IsS55 w0 (W.alloc o) g f0 f1 := h.below (below_alloc (Below.refl _ _) o)
theorem IsS55.drewN {w0 W : World} {g : Nat} {f0 : List Int} {f1 : Int} (h : IsS55 w0 W g f0 f1) (m : Nat) : IsS55 w0 (W.drewN m) g f0 f1 := h
theorem IsS55.drew {w0 W : World} {g : Nat} {f0 : List Int} {f1 : Int} (h : IsS55 w0 W g f0 f1) : IsS55 w0 W.drew g f0 f1 := h
theorem IsS55.at_ {w0 W : World} {g : Nat} {f0 : List Int} {f1 : Int} {w' : World} {m : Nat} (hq : W.drewN m = w') (h : IsS55 w0 W g f0 f1) : IsS55 w0 w' g f0 f1 := by subst hq; exact IsS55.drewN h m
theorem IsS55.apart {w0 W : World} {g : Nat} {f0 : List Int} {f1 : Int} {α : Type} {d : Kd α} {e : Nat} {base : Nat} {ok : Nat → Prop} {v : Value} {xs : List α} (h : IsS55 w0 W g f0 f1) (ho : d.R e W base ok v xs) (ht : ∀ q, q ∈ e :: d.E → q ≠ 55) : d.R e W base (fun k => ok k ∧ k ≠ g) v xs := by
  obtain ⟨A0, c0, hb, hg, hr0⟩ := h
  exact Kd.R_types ho hb ht
theorem IsS55.own_ne {w0 W : World} {g : Nat} {f0 : List Int} {f1 : Int} {α : Type} {d : Kd α} {e : Nat} {base : Nat} {ok : Nat → Prop} {v : Value} {xs : List α} (h : IsS55 w0 W g f0 f1) (ho : d.R e W base ok v xs) (ht : e ≠ 55) : some g ≠ v.ownBlock := by
  obtain ⟨A0, c0, hb, hg, hr0⟩ := h
  exact Kd.R_ne ho hb ht
theorem IsS55.apartQ {w0 W : World} {g : Nat} {f0 : List Int} {f1 : Int} {α : Type} {d : Kd α} {e : Nat} {base : Nat} {ok : Nat → Prop} {v : Value} {xs : List α} (h : IsS55 w0 W g f0 f1) (ho : d.Q e W base ok v xs) (ht : ∀ q, q ∈ e :: d.E → q ≠ 55) : d.Q e W base (fun k => ok k ∧ k ≠ g) v xs := by
  obtain ⟨A0, c0, hb, hg, hr0⟩ := h
  exact Kd.Q_types ho hb ht
theorem IsS55.own_neQ {w0 W : World} {g : Nat} {f0 : List Int} {f1 : Int} {α : Type} {d : Kd α} {e : Nat} {base : Nat} {ok : Nat → Prop} {v : Value} {xs : List α} (h : IsS55 w0 W g f0 f1) (ho : d.Q e W base ok v xs) (ht : e ≠ 55) : some g ≠ v.ownBlock := by
  obtain ⟨A0, c0, hb, hg, hr0⟩ := h
  exact Kd.Q_ne ho hb ht
theorem IsS55.apartS {w0 W : World} {g : Nat} {f0 : List Int} {f1 : Int} {α : Type} {d : Kd α} {e : Nat} {base : Nat} {ok : Nat → Prop} {v : Value} {xs : List α} (h : IsS55 w0 W g f0 f1) (ho : d.S e W base ok v xs) (ht : ∀ q, q ∈ e :: d.E → q ≠ 55) : d.S e W base (fun k => ok k ∧ k ≠ g) v xs := by
  obtain ⟨A0, c0, hb, hg, hr0⟩ := h
  exact Kd.S_types ho hb ht
theorem IsS55.own_neS {w0 W : World} {g : Nat} {f0 : List Int} {f1 : Int} {α : Type} {d : Kd α} {e : Nat} {base : Nat} {ok : Nat → Prop} {v : Value} {xs : List α} (h : IsS55 w0 W g f0 f1) (ho : d.S e W base ok v xs) (ht : e ≠ 55) : some g ≠ v.ownBlock := by
  obtain ⟨A0, c0, hb, hg, hr0⟩ := h
  exact Kd.S_ne ho hb ht
theorem IsS55.lt {w0 W : World} {g : Nat} {f0 : List Int} {f1 : Int} (h : IsS55 w0 W g f0 f1) : g < W.heap.size := by
  obtain ⟨A0, c0, hb, hg, hr0⟩ := h
  exact blk_lt hb
theorem IsS55.ge {w0 W : World} {g : Nat} {f0 : List Int} {f1 : Int} (h : IsS55 w0 W g f0 f1) : w0.heap.size ≤ g := by
  obtain ⟨A0, c0, hb, hg, hr0⟩ := h
  exact hg
theorem IsS55.ne_blk {w0 W : World} {g : Nat} {f0 : List Int} {f1 : Int} {a : Nat} {cs : Array Value} {t : TypeId} {fr : Nat × Nat} (h : IsS55 w0 W g f0 f1) (hb2 : W.heap[a]? = some (.cells cs t fr)) (ht : t ≠ 55) : g ≠ a := by
  obtain ⟨A0, c0, hb, hg, hr0⟩ := h
  rintro rfl
  rw [hb] at hb2
  injection hb2 with hb2
  injection hb2 with _ ht2
  exact ht ht2.symm
theorem IsS55.far {w0 W : World} {g : Nat} {f0 : List Int} {f1 : Int} {p : Addr} (h : IsS55 w0 W g f0 f1) (hne : g ≠ p.block) (u : Value) : IsS55 w0 (W.setCell p u) g f0 f1 := by
  obtain ⟨A0, c0, hb, hg, hr0⟩ := h
  exact ⟨A0, c0, blk_far hb hne u, hg, hr0⟩
theorem cellS55_0 {W : World} {g : Nat} {A0 : Option Addr} {c0 : Nat} {f0 : List Int} {f1 : Int} (h : W.heap[g]? = some (.cells #[.slice A0 f0.length c0, .int .i64 f1] 55 (0, 0))) : W.cell? ⟨g, 0, none⟩ = some (.slice A0 f0.length c0) := (blk_cell h 0).trans rfl
theorem cellS55_1 {W : World} {g : Nat} {A0 : Option Addr} {c0 : Nat} {f0 : List Int} {f1 : Int} (h : W.heap[g]? = some (.cells #[.slice A0 f0.length c0, .int .i64 f1] 55 (0, 0))) : W.cell? ⟨g, 1, none⟩ = some (.int .i64 f1) := (blk_cell h 1).trans rfl
theorem IsS55.set_1 {w0 W : World} {g : Nat} {f0 : List Int} {f1 : Int} (h : IsS55 w0 W g f0 f1) (x : Int) : IsS55 w0 (W.setCell ⟨g, 1, none⟩ (.int .i64 x)) g f0 x := by
  obtain ⟨A0, c0, hb, hg, hr0⟩ := h
  exact ⟨A0, c0, by simpa using blk_set hb 1 (.int .i64 x), hg, hr0⟩
theorem IsS55.new (w0 W : World) (A0 : Option Addr) (c0 : Nat) (f0 : List Int) (f1 : Int) (hB : Below w0.heap.size w0 W) (hr0 : Kd.C (Kd.int .u8) w0 A0 f0.length f0) : IsS55 w0 (W.alloc (.cells #[.slice A0 f0.length c0, .int .i64 f1] 55)) W.heap.size f0 f1 := ⟨A0, c0, by simpa using heap_alloc_new W _, hB.size, hr0⟩

/-! ### spec_l6Open: function 28 -/
def spec_l6Open.f (l0 : List Int) : Option (List Int × Int) := if (l0.length : Int) > 2000 then (if 2000 ≤ (l0.length : Int) then (some (l0.take 2000, 0)) else (none)) else (some (l0, 0))
set_option maxHeartbeats 8000000 in
set_option maxRecDepth 100000 in
theorem spec_l6Open.calls (A0 : Option Addr) (c0 : Nat) (l0 : List Int) (r1 : List Int) (r2 : Int) (w0 w : World) (hB : Below w0.heap.size w0 w) (hr0 : Kd.C (Kd.int .u8) w0 A0 l0.length l0) (hc0 : l0.length ≤ c0) (h : spec_l6Open.f l0 = some (r1, r2)) :
    Calls Try.prog 28 #[.slice A0 l0.length c0] w fun e w' => ∃ g_ : Nat, e = .returned (.pointer (some ⟨g_, 0, none⟩)) ∧ IsS55 w0 w' g_ r1 r2 ∧ Below w0.heap.size w0 w' ∧ Below w.heap.size w w' := by
  have hu55 := Try.underlying55
  have HR0 := Aside0.mk hr0
  have HC0 := Aside0.mk hc0
  clear hr0 hc0
  have HBW := Aside0.mk (Below.refl w.heap.size w)
  have HW0 := Aside0.mk hB.size
  have HB := Aside0.mk hB
  clear hB
  have H : (if (l0.length : Int) > 2000 then (if 2000 ≤ (l0.length : Int) then (some (l0.take 2000, 0)) else (none)) else (some (l0, 0))) = some (r1, r2) := h
  clear h
  by_cases c2 : (l0.length : Int) > 2000
  · rw [if_pos c2] at H
    have c2b0 : decide (2000 < (l0.length : Int)) = true := decide_eq_true c2
    have c2b1 : decide (2000 < l0.length) = true := decide_eq_true (by omega)
    clear c2
    by_cases c3 : 2000 ≤ (l0.length : Int)
    · rw [if_pos c3] at H
      have c3b0 := eq_true c3
      have c3b1 : decide (2000 ≤ (l0.length : Int)) = true := decide_eq_true c3
      clear c3
      simp only [Option.some.injEq, Prod.mk.injEq] at H
      obtain ⟨rfl, rfl⟩ := H
      obtain ⟨i04, hi04, _, hsz4, _⟩ := info_parts info5
      obtain ⟨hcut4, hA4, hC4⟩ := print_take_of (P := Try.prog) (Value.int .u8) 0 29 5 .i64 Try.underlying29 hi04 hsz4 A0 c0 l0 2000 (by omega) (of_decide_eq_true (by first | (with_reducible assumption) | assumption)) HC0.out
      have HR141 := Aside0.mk (Kd.C_of_reads (h1 := fun _ => rfl) (hA4 _ (Kd.reads_of_C HR0.out)))
      have HC141 := Aside0.mk hC4
      clear hA4 hC4 hi04 hsz4
      go_enter Try.func28, Try.ntmps28
      go_wp2_with (first | ((with_reducible refine gate_dst (N := 10) rfl ?_); refine box_event ?hg (N := 10) ?hd (cs := #[.slice A0 (l0.take 2000).length c0, .int .i64 0]) (t := 55) ?hr ?_; (case hd => rfl); (case hg => rfl); (case hr => first | (go_simp; done) | (go_simp; rfl)); intro gb142 hg w5 hbox hb; have n0_ := Aside0.mk (below_step HBW.out hb); have n1_ := Aside0.mk (below_step (by repeat (first | (with_reducible first | exact HB.out | apply below_alloc | apply pw_below_drewN | apply below_drew1) | exact HB.out)) hb); have n2_ := Aside0.mk (hbox); have n3_ := Aside0.mk ((by rw [hg]; exact (below_size (by repeat (first | (with_reducible first | exact HBW.out | apply below_alloc | apply pw_below_drewN | apply below_drew1) | exact HBW.out))) : w.heap.size ≤ gb142)); have n4_ := Aside0.mk ((Nat.le_trans HW0.out (by rw [hg]; exact (below_size (by repeat (first | (with_reducible first | exact HBW.out | apply below_alloc | apply pw_below_drewN | apply below_drew1) | exact HBW.out))) : w.heap.size ≤ gb142) : w0.heap.size ≤ gb142)); clear HBW; clear HB; have HBW := n0_; have HB := n1_; have BK142 := n2_; have GW142 := n3_; have GE142 := n4_; clear n0_ n1_ n2_ n3_ n4_; clear hb hbox hg))
      go_ret
      exact ⟨_, rfl, (show IsS55 w0 _ gb142 (l0.take 2000) 0 from ⟨_, _, by (with_reducible repeat (first | refine blk_drewN ?_ _ | refine blk_drew ?_ | refine blk_alloc ?_ _)); exact BK142.out, GE142.out, HR141.out⟩), by repeat (first | (with_reducible first | exact HB.out | apply below_alloc | apply pw_below_drewN | apply below_drew1 | refine below_set ?_ GE142.out) | exact HB.out), by repeat (first | (with_reducible first | exact HBW.out | apply below_alloc | apply pw_below_drewN | apply below_drew1 | refine below_set ?_ GW142.out) | exact HBW.out)⟩
    · rw [if_neg c3] at H
      exact absurd H (by simp)
  · rw [if_neg c2] at H
    have c2b0 : decide (2000 < (l0.length : Int)) = false := decide_eq_false c2
    have c2b1 : decide (2000 < l0.length) = false := decide_eq_false (by omega)
    clear c2
    simp only [Option.some.injEq, Prod.mk.injEq] at H
    obtain ⟨rfl, rfl⟩ := H
    go_enter Try.func28, Try.ntmps28
    go_wp2_with (first | ((with_reducible refine gate_dst (N := 10) rfl ?_); refine box_event ?hg (N := 10) ?hd (cs := #[.slice A0 l0.length c0, .int .i64 0]) (t := 55) ?hr ?_; (case hd => rfl); (case hg => rfl); (case hr => first | (go_simp; done) | (go_simp; rfl)); intro gb143 hg w6 hbox hb; have n0_ := Aside0.mk (below_step HBW.out hb); have n1_ := Aside0.mk (below_step (by repeat (first | (with_reducible first | exact HB.out | apply below_alloc | apply pw_below_drewN | apply below_drew1) | exact HB.out)) hb); have n2_ := Aside0.mk (hbox); have n3_ := Aside0.mk ((by rw [hg]; exact (below_size (by repeat (first | (with_reducible first | exact HBW.out | apply below_alloc | apply pw_below_drewN | apply below_drew1) | exact HBW.out))) : w.heap.size ≤ gb143)); have n4_ := Aside0.mk ((Nat.le_trans HW0.out (by rw [hg]; exact (below_size (by repeat (first | (with_reducible first | exact HBW.out | apply below_alloc | apply pw_below_drewN | apply below_drew1) | exact HBW.out))) : w.heap.size ≤ gb143) : w0.heap.size ≤ gb143)); clear HBW; clear HB; have HBW := n0_; have HB := n1_; have BK143 := n2_; have GW143 := n3_; have GE143 := n4_; clear n0_ n1_ n2_ n3_ n4_; clear hb hbox hg))
    go_ret
    exact ⟨_, rfl, (show IsS55 w0 _ gb143 l0 0 from ⟨_, _, by (with_reducible repeat (first | refine blk_drewN ?_ _ | refine blk_drew ?_ | refine blk_alloc ?_ _)); exact BK143.out, GE143.out, HR0.out⟩), by repeat (first | (with_reducible first | exact HB.out | apply below_alloc | apply pw_below_drewN | apply below_drew1 | refine below_set ?_ GE143.out) | exact HB.out), by repeat (first | (with_reducible first | exact HBW.out | apply below_alloc | apply pw_below_drewN | apply below_drew1 | refine below_set ?_ GW143.out) | exact HBW.out)⟩

end Go.Proofs.Ytbcfgglcabeckaa.PFnOrderLattice
