-- Made by hprint.py (wip/) out of the translation; not trusted: Lean checks it.
import Derived.Test.YtpopdfffcokilaaPFnCornersx0
import Derived.Test.YtpopdfffcokilaaPFnCornersx3
import Derived.Test.YtpopdfffcokilaaPFnCornersx4
import Derived.Test.YtpopdfffcokilaaPFnCornersx5
namespace Go.Proofs.Ytpopdfffcokilaa.PFnCorners
open Go.RowKit Go.Proofs.YtpopdfffcokilaaW.PrintWords Go.Proofs.YtpopdfffcokilaaW.PrintLast Go.Proofs.YtpopdfffcokilaaW.PrintMore
attribute [local go_sem] max2_int min2_int max_two min_two max_three min_three max_four min_four   -- for this text's walks alone
set_option linter.unusedVariables false
set_option linter.unusedSimpArgs false

/-! ### laws_FnCorners: function 3 -/
mutual
def laws_FnCorners.j0 : Nat → List (List Int) → List (List Int) → Bool → List (List Int) → Bool → Bool → Option (Bool)
  | 0, _, _, _, _, _, _ => none
  | k + 1, x3, x4, x5, x6, x7, x37 => if x37 = true then (if (x5 == x7) = true then ((laws_sameRows.f k x4 x6).bind fun t332 => (some t332)) else (some false)) else (laws_FnCorners.l0 k x3 x4 0)
def laws_FnCorners.l0 : Nat → List (List Int) → List (List Int) → Int → Option (Bool)
  | 0, _, _, _ => none
  | k + 1, x3, x4, x8 => if x8 < (x3.length : Int) then (if (x3.length : Int) = 0 then (none) else (if 0 ≤ x8 then (if x8 < (x4.length : Int) then (if 0 < ((rd_L2 x4 x8).length : Int) then (if 0 < ((rd_L2 x3 x8).length : Int) then (if 0 ≤ (Int.tmod (wrap64 (x8 + 1)) (x3.length : Int)) then (if (Int.tmod (wrap64 (x8 + 1)) (x3.length : Int)) < (x4.length : Int) then (if 0 < ((rd_L2 x4 (Int.tmod (wrap64 (x8 + 1)) (x3.length : Int))).length : Int) then (if (wrap64 ((rd (rd_L2 x4 x8) 0) + (rd (rd_L2 x3 x8) 0))) = (rd (rd_L2 x4 (Int.tmod (wrap64 (x8 + 1)) (x3.length : Int))) 0) then (if 1 < ((rd_L2 x4 x8).length : Int) then (if 1 < ((rd_L2 x3 x8).length : Int) then (if 1 < ((rd_L2 x4 (Int.tmod (wrap64 (x8 + 1)) (x3.length : Int))).length : Int) then (if (wrap64 ((rd (rd_L2 x4 x8) 1) + (rd (rd_L2 x3 x8) 1))) = (rd (rd_L2 x4 (Int.tmod (wrap64 (x8 + 1)) (x3.length : Int))) 1) then (laws_FnCorners.l0 k x3 x4 (wrap64 (x8 + 1))) else (some false)) else (none)) else (none)) else (none)) else (some false)) else (none)) else (none)) else (none)) else (none)) else (none)) else (none)) else (none))) else (if (x4.length : Int) = (x3.length : Int) then (if 0 < (x4.length : Int) then (if 0 < ((rd_L2 x4 0).length : Int) then (if (rd (rd_L2 x4 0) 0) = 0 then (if 1 < ((rd_L2 x4 0).length : Int) then (some ((rd (rd_L2 x4 0) 1) == 0)) else (none)) else (some false)) else (none)) else (none)) else (some false))
end
def laws_FnCorners.f (k : Nat) (l0 : List Int) : Option (Bool) := if (l0.length : Int) > 1048576 then (some true) else ((spec_DrawPathCorners.f k l0).bind fun t320 => ((impl_PathCorners.f k t320).bind fun bt323 => ((spec_PathCorners.f k t320).bind fun bt327 => (if (bt323.2 != bt327.2) = true then (laws_FnCorners.j0 k t320 bt323.1 bt323.2 bt327.1 bt327.2 true) else ((laws_sameRows.f k bt323.1 bt327.1).bind fun t331 => (if t331 = true then (laws_FnCorners.j0 k t320 bt323.1 bt323.2 bt327.1 bt327.2 (!bt323.2)) else (laws_FnCorners.j0 k t320 bt323.1 bt323.2 bt327.1 bt327.2 true)))))))
theorem laws_FnCorners.mono_l : ∀ k, (∀ y0 y1 y2 y3 y4 y5, LeO (laws_FnCorners.j0 k y0 y1 y2 y3 y4 y5) (laws_FnCorners.j0 (k + 1) y0 y1 y2 y3 y4 y5)) ∧ (∀ y0 y1 y2, LeO (laws_FnCorners.l0 k y0 y1 y2) (laws_FnCorners.l0 (k + 1) y0 y1 y2))
  | 0 => ⟨fun _ _ _ _ _ _ r h => by simp [laws_FnCorners.j0] at h, fun _ _ _ r h => by simp [laws_FnCorners.l0] at h⟩
  | k + 1 => by
    obtain ⟨ih0, ih1⟩ := laws_FnCorners.mono_l k
    refine ⟨?_, ?_⟩
    · intro y0 y1 y2 y3 y4 y5
      unfold laws_FnCorners.j0
      repeat' first
      | (with_reducible exact ih0 _ _ _ _ _ _)
      | (with_reducible exact ih1 _ _ _)
      | (with_reducible exact impl_PathCorners.mono _ _)
      | (with_reducible exact laws_sameRows.mono _ _ _)
      | (with_reducible exact spec_DrawPathCorners.mono _ _)
      | (with_reducible exact spec_PathCorners.mono _ _)
      | (with_reducible exact LeO.refl _)
      | (with_reducible exact LeO.none _)
      | (with_reducible refine LeO.ite ?_ ?_)
      | (with_reducible refine LeO.bind ?_ (fun _ => ?_))
      | exact ih0 _ _ _ _ _ _
      | exact ih1 _ _ _
      | exact impl_PathCorners.mono _ _
      | exact laws_sameRows.mono _ _ _
      | exact spec_DrawPathCorners.mono _ _
      | exact spec_PathCorners.mono _ _
      | exact LeO.none _
      | refine LeO.ite ?_ ?_
      | refine LeO.bind ?_ (fun _ => ?_)
    · intro y0 y1 y2
      unfold laws_FnCorners.l0
      repeat' first
      | (with_reducible exact ih0 _ _ _ _ _ _)
      | (with_reducible exact ih1 _ _ _)
      | (with_reducible exact impl_PathCorners.mono _ _)
      | (with_reducible exact laws_sameRows.mono _ _ _)
      | (with_reducible exact spec_DrawPathCorners.mono _ _)
      | (with_reducible exact spec_PathCorners.mono _ _)
      | (with_reducible exact LeO.refl _)
      | (with_reducible exact LeO.none _)
      | (with_reducible refine LeO.ite ?_ ?_)
      | (with_reducible refine LeO.bind ?_ (fun _ => ?_))
      | exact ih0 _ _ _ _ _ _
      | exact ih1 _ _ _
      | exact impl_PathCorners.mono _ _
      | exact laws_sameRows.mono _ _ _
      | exact spec_DrawPathCorners.mono _ _
      | exact spec_PathCorners.mono _ _
      | exact LeO.none _
      | refine LeO.ite ?_ ?_
      | refine LeO.bind ?_ (fun _ => ?_)
theorem laws_FnCorners.mono : ∀ a0 k, LeO (laws_FnCorners.f k a0) (laws_FnCorners.f (k + 1) a0) := by
  intro a0 k
  obtain ⟨ih0, ih1⟩ := laws_FnCorners.mono_l k
  unfold laws_FnCorners.f
  repeat' first
      | (with_reducible exact ih0 _ _ _ _ _ _)
      | (with_reducible exact ih1 _ _ _)
      | (with_reducible exact impl_PathCorners.mono _ _)
      | (with_reducible exact laws_sameRows.mono _ _ _)
      | (with_reducible exact spec_DrawPathCorners.mono _ _)
      | (with_reducible exact spec_PathCorners.mono _ _)
      | (with_reducible exact LeO.refl _)
      | (with_reducible exact LeO.none _)
      | (with_reducible refine LeO.ite ?_ ?_)
      | (with_reducible refine LeO.bind ?_ (fun _ => ?_))
      | exact ih0 _ _ _ _ _ _
      | exact ih1 _ _ _
      | exact impl_PathCorners.mono _ _
      | exact laws_sameRows.mono _ _ _
      | exact spec_DrawPathCorners.mono _ _
      | exact spec_PathCorners.mono _ _
      | exact LeO.none _
      | refine LeO.ite ?_ ?_
      | refine LeO.bind ?_ (fun _ => ?_)
set_option maxHeartbeats 8000000 in
set_option maxRecDepth 100000 in
theorem laws_FnCorners.calls (k : Nat) (A0 : Option Addr) (c0 : Nat) (l0 : List Int) (r : Bool) (w : World) (hr0 : Kd.C (Kd.int .u8) w A0 l0.length l0) (hc0 : l0.length ≤ c0) (h : laws_FnCorners.f k l0 = some r) :
    Calls Try.prog 3 #[.slice A0 l0.length c0] w fun e w' => e = .returned (.bool r) ∧ Below w.heap.size w w' := by
  have HR0 := Aside0.mk hr0
  have HC0 := Aside0.mk hc0
  clear hr0 hc0
  have HB := Aside0.mk (Below.refl w.heap.size w)
  have H : (if (l0.length : Int) > 1048576 then (some true) else ((spec_DrawPathCorners.f k l0).bind fun t320 => ((impl_PathCorners.f k t320).bind fun bt323 => ((spec_PathCorners.f k t320).bind fun bt327 => (if (bt323.2 != bt327.2) = true then (laws_FnCorners.j0 k t320 bt323.1 bt323.2 bt327.1 bt327.2 true) else ((laws_sameRows.f k bt323.1 bt327.1).bind fun t331 => (if t331 = true then (laws_FnCorners.j0 k t320 bt323.1 bt323.2 bt327.1 bt327.2 (!bt323.2)) else (laws_FnCorners.j0 k t320 bt323.1 bt323.2 bt327.1 bt327.2 true)))))))) = some r := h
  clear h
  by_cases c2 : (l0.length : Int) > 1048576
  · rw [if_pos c2] at H
    have c2b0 : decide (1048576 < (l0.length : Int)) = true := decide_eq_true c2
    have c2b1 : decide (1048576 < l0.length) = true := decide_eq_true (by omega)
    clear c2
    obtain rfl := Option.some.inj H
    go_enter Try.func3, Try.ntmps3
    go_wp2
    repeat (go_quiet (fail); try go_wp2)
    go_ret
    exact ⟨by first | rfl | (simp [errW_none, errW_some] <;> rfl) | (simp [*, errW_none, errW_some] <;> rfl), by repeat (first | (with_reducible first | exact HB.out | apply below_alloc | apply pw_below_drewN | apply below_drew1) | exact HB.out)⟩
  · rw [if_neg c2] at H
    have c2b0 : decide (1048576 < (l0.length : Int)) = false := decide_eq_false c2
    have c2b1 : decide (1048576 < l0.length) = false := decide_eq_false (by omega)
    clear c2
    replace H := Option.bind_eq_some_iff.mp H
    obtain ⟨t320, A30, H⟩ := H
    replace H : ((impl_PathCorners.f k t320).bind fun bt323 => ((spec_PathCorners.f k t320).bind fun bt327 => (if (bt323.2 != bt327.2) = true then (laws_FnCorners.j0 k t320 bt323.1 bt323.2 bt327.1 bt327.2 true) else ((laws_sameRows.f k bt323.1 bt327.1).bind fun t331 => (if t331 = true then (laws_FnCorners.j0 k t320 bt323.1 bt323.2 bt327.1 bt327.2 (!bt323.2)) else (laws_FnCorners.j0 k t320 bt323.1 bt323.2 bt327.1 bt327.2 true)))))) = some r := H
    have A3 := Aside0.mk A30
    clear A30
    replace H := Option.bind_eq_some_iff.mp H
    obtain ⟨⟨t323, t324⟩, A40, H⟩ := H
    replace H : ((spec_PathCorners.f k t320).bind fun bt327 => (if (t324 != bt327.2) = true then (laws_FnCorners.j0 k t320 t323 t324 bt327.1 bt327.2 true) else ((laws_sameRows.f k t323 bt327.1).bind fun t331 => (if t331 = true then (laws_FnCorners.j0 k t320 t323 t324 bt327.1 bt327.2 (!t324)) else (laws_FnCorners.j0 k t320 t323 t324 bt327.1 bt327.2 true))))) = some r := H
    have A4 := Aside0.mk A40
    clear A40
    replace H := Option.bind_eq_some_iff.mp H
    obtain ⟨⟨t327, t328⟩, A50, H⟩ := H
    replace H : (if (t324 != t328) = true then (laws_FnCorners.j0 k t320 t323 t324 t327 t328 true) else ((laws_sameRows.f k t323 t327).bind fun t331 => (if t331 = true then (laws_FnCorners.j0 k t320 t323 t324 t327 t328 (!t324)) else (laws_FnCorners.j0 k t320 t323 t324 t327 t328 true)))) = some r := H
    have A5 := Aside0.mk A50
    clear A50
    have HC6 := Aside0.mk H
    clear H
    go_enter Try.func3, Try.ntmps3
    go_upto_region 6 with (first | (go_at_call 15; (with_reducible refine (spec_DrawPathCorners.calls k _ _ l0 t320 _ ?side1 ?side2 A3.out).mono ?_); (case side1 => repeat (first | exact HR0.out | (with_reducible refine Kd.C_alloc ?_ _) | (with_reducible refine Kd.C_drewN ?_ _) | (with_reducible refine Kd.C_drew ?_))); (case side2 => exact HC0.out); rintro e w7 ⟨v321, rfl, ho0, hb⟩; have n0_ := Aside0.mk (Kd.V_lower (Kd.V_mono (ok' := fun k_ => True) ho0 (fun k_ hk_ => trivial)) (below_size (by repeat (first | (with_reducible first | exact HB.out | apply below_alloc | apply pw_below_drewN | apply below_drew1) | exact HB.out)))); have n1_ := Aside0.mk (below_step (by repeat (first | (with_reducible first | exact HB.out | apply below_alloc | apply pw_below_drewN | apply below_drew1) | exact HB.out)) hb); clear HB; have HO322 := n0_; have HB := n1_; clear n0_ n1_; (try clear hb); (try clear hb2); (try clear hk); (try clear hi); (try clear ho0); obtain ⟨Ao8, co8, eo8⟩ := Kd.V_slice HO322.out; subst eo8) | (go_at_call 16; (with_reducible refine (impl_PathCorners.calls k _ _ t320 t323 t324 _ ?side1 ?side2 A4.out).mono ?_); (case side1 => repeat (first | exact (Kd.V_reads' HO322.out).2.2 | (with_reducible refine Kd.C_alloc ?_ _) | (with_reducible refine Kd.C_drewN ?_ _) | (with_reducible refine Kd.C_drew ?_))); (case side2 => exact (Kd.V_reads' HO322.out).2.1); rintro e w9 ⟨v325, rfl, ho0, hb⟩; have n0_ := Aside0.mk (Kd.V_elder' (by (with_reducible repeat (first | apply Kd.V_alloc | apply Kd.V_drewN | apply Kd.V_drew)); exact HO322.out) (Kd.S_base ho0) hb); have n1_ := Aside0.mk (Kd.S_lower ho0 (below_size (by repeat (first | (with_reducible first | exact HB.out | apply below_alloc | apply pw_below_drewN | apply below_drew1) | exact HB.out)))); have n2_ := Aside0.mk (below_step (by repeat (first | (with_reducible first | exact HB.out | apply below_alloc | apply pw_below_drewN | apply below_drew1) | exact HB.out)) hb); clear HO322; clear HB; have HO322 := n0_; have HO326 := n1_; have HB := n2_; clear n0_ n1_ n2_; (try clear hb); (try clear hb2); (try clear hk); (try clear hi); (try clear ho0)) | (go_at_call 17; (with_reducible refine (spec_PathCorners.calls k _ _ t320 t327 t328 _ ?side1 ?side2 A5.out).mono ?_); (case side1 => repeat (first | exact (Kd.V_reads' HO322.out).2.2 | (with_reducible refine Kd.C_alloc ?_ _) | (with_reducible refine Kd.C_drewN ?_ _) | (with_reducible refine Kd.C_drew ?_))); (case side2 => exact (Kd.V_reads' HO322.out).2.1); rintro e w10 ⟨v329, rfl, ho0, hb⟩; have n0_ := Aside0.mk (Kd.V_elder' (by (with_reducible repeat (first | apply Kd.V_alloc | apply Kd.V_drewN | apply Kd.V_drew)); exact HO322.out) (Kd.S_base ho0) hb); have n1_ := Aside0.mk (Kd.S_elder' (by (with_reducible repeat (first | apply Kd.S_alloc | apply Kd.S_drewN | apply Kd.S_drew)); exact HO326.out) (Kd.S_base ho0) hb); have n2_ := Aside0.mk (Kd.S_lower (Kd.S_new' ho0 (Kd.S_lt (by (with_reducible repeat (first | apply Kd.S_alloc | apply Kd.S_drewN | apply Kd.S_drew)); exact HO326.out))) (below_size (by repeat (first | (with_reducible first | exact HB.out | apply below_alloc | apply pw_below_drewN | apply below_drew1) | exact HB.out)))); have n3_ := Aside0.mk (below_step (by repeat (first | (with_reducible first | exact HB.out | apply below_alloc | apply pw_below_drewN | apply below_drew1) | exact HB.out)) hb); clear HO322; clear HO326; clear HB; have HO322 := n0_; have HO326 := n1_; have HO330 := n2_; have HB := n3_; clear n0_ n1_ n2_ n3_; (try clear hb); (try clear hb2); (try clear hk); (try clear hi); (try clear ho0)))
    repeat (go_quiet (first | (go_at_call 15; (with_reducible refine (spec_DrawPathCorners.calls k _ _ l0 t320 _ ?side1 ?side2 A3.out).mono ?_); (case side1 => repeat (first | exact HR0.out | (with_reducible refine Kd.C_alloc ?_ _) | (with_reducible refine Kd.C_drewN ?_ _) | (with_reducible refine Kd.C_drew ?_))); (case side2 => exact HC0.out); rintro e w7 ⟨v321, rfl, ho0, hb⟩; have n0_ := Aside0.mk (Kd.V_lower (Kd.V_mono (ok' := fun k_ => True) ho0 (fun k_ hk_ => trivial)) (below_size (by repeat (first | (with_reducible first | exact HB.out | apply below_alloc | apply pw_below_drewN | apply below_drew1) | exact HB.out)))); have n1_ := Aside0.mk (below_step (by repeat (first | (with_reducible first | exact HB.out | apply below_alloc | apply pw_below_drewN | apply below_drew1) | exact HB.out)) hb); clear HB; have HO322 := n0_; have HB := n1_; clear n0_ n1_; (try clear hb); (try clear hb2); (try clear hk); (try clear hi); (try clear ho0); obtain ⟨Ao8, co8, eo8⟩ := Kd.V_slice HO322.out; subst eo8) | (go_at_call 16; (with_reducible refine (impl_PathCorners.calls k _ _ t320 t323 t324 _ ?side1 ?side2 A4.out).mono ?_); (case side1 => repeat (first | exact (Kd.V_reads' HO322.out).2.2 | (with_reducible refine Kd.C_alloc ?_ _) | (with_reducible refine Kd.C_drewN ?_ _) | (with_reducible refine Kd.C_drew ?_))); (case side2 => exact (Kd.V_reads' HO322.out).2.1); rintro e w9 ⟨v325, rfl, ho0, hb⟩; have n0_ := Aside0.mk (Kd.V_elder' (by (with_reducible repeat (first | apply Kd.V_alloc | apply Kd.V_drewN | apply Kd.V_drew)); exact HO322.out) (Kd.S_base ho0) hb); have n1_ := Aside0.mk (Kd.S_lower ho0 (below_size (by repeat (first | (with_reducible first | exact HB.out | apply below_alloc | apply pw_below_drewN | apply below_drew1) | exact HB.out)))); have n2_ := Aside0.mk (below_step (by repeat (first | (with_reducible first | exact HB.out | apply below_alloc | apply pw_below_drewN | apply below_drew1) | exact HB.out)) hb); clear HO322; clear HB; have HO322 := n0_; have HO326 := n1_; have HB := n2_; clear n0_ n1_ n2_; (try clear hb); (try clear hb2); (try clear hk); (try clear hi); (try clear ho0)) | (go_at_call 17; (with_reducible refine (spec_PathCorners.calls k _ _ t320 t327 t328 _ ?side1 ?side2 A5.out).mono ?_); (case side1 => repeat (first | exact (Kd.V_reads' HO322.out).2.2 | (with_reducible refine Kd.C_alloc ?_ _) | (with_reducible refine Kd.C_drewN ?_ _) | (with_reducible refine Kd.C_drew ?_))); (case side2 => exact (Kd.V_reads' HO322.out).2.1); rintro e w10 ⟨v329, rfl, ho0, hb⟩; have n0_ := Aside0.mk (Kd.V_elder' (by (with_reducible repeat (first | apply Kd.V_alloc | apply Kd.V_drewN | apply Kd.V_drew)); exact HO322.out) (Kd.S_base ho0) hb); have n1_ := Aside0.mk (Kd.S_elder' (by (with_reducible repeat (first | apply Kd.S_alloc | apply Kd.S_drewN | apply Kd.S_drew)); exact HO326.out) (Kd.S_base ho0) hb); have n2_ := Aside0.mk (Kd.S_lower (Kd.S_new' ho0 (Kd.S_lt (by (with_reducible repeat (first | apply Kd.S_alloc | apply Kd.S_drewN | apply Kd.S_drew)); exact HO326.out))) (below_size (by repeat (first | (with_reducible first | exact HB.out | apply below_alloc | apply pw_below_drewN | apply below_drew1) | exact HB.out)))); have n3_ := Aside0.mk (below_step (by repeat (first | (with_reducible first | exact HB.out | apply below_alloc | apply pw_below_drewN | apply below_drew1) | exact HB.out)) hb); clear HO322; clear HO326; clear HB; have HO322 := n0_; have HO326 := n1_; have HO330 := n2_; have HB := n3_; clear n0_ n1_ n2_ n3_; (try clear hb); (try clear hb2); (try clear hk); (try clear hi); (try clear ho0))); go_upto_region 6 with (first | (go_at_call 15; (with_reducible refine (spec_DrawPathCorners.calls k _ _ l0 t320 _ ?side1 ?side2 A3.out).mono ?_); (case side1 => repeat (first | exact HR0.out | (with_reducible refine Kd.C_alloc ?_ _) | (with_reducible refine Kd.C_drewN ?_ _) | (with_reducible refine Kd.C_drew ?_))); (case side2 => exact HC0.out); rintro e w7 ⟨v321, rfl, ho0, hb⟩; have n0_ := Aside0.mk (Kd.V_lower (Kd.V_mono (ok' := fun k_ => True) ho0 (fun k_ hk_ => trivial)) (below_size (by repeat (first | (with_reducible first | exact HB.out | apply below_alloc | apply pw_below_drewN | apply below_drew1) | exact HB.out)))); have n1_ := Aside0.mk (below_step (by repeat (first | (with_reducible first | exact HB.out | apply below_alloc | apply pw_below_drewN | apply below_drew1) | exact HB.out)) hb); clear HB; have HO322 := n0_; have HB := n1_; clear n0_ n1_; (try clear hb); (try clear hb2); (try clear hk); (try clear hi); (try clear ho0); obtain ⟨Ao8, co8, eo8⟩ := Kd.V_slice HO322.out; subst eo8) | (go_at_call 16; (with_reducible refine (impl_PathCorners.calls k _ _ t320 t323 t324 _ ?side1 ?side2 A4.out).mono ?_); (case side1 => repeat (first | exact (Kd.V_reads' HO322.out).2.2 | (with_reducible refine Kd.C_alloc ?_ _) | (with_reducible refine Kd.C_drewN ?_ _) | (with_reducible refine Kd.C_drew ?_))); (case side2 => exact (Kd.V_reads' HO322.out).2.1); rintro e w9 ⟨v325, rfl, ho0, hb⟩; have n0_ := Aside0.mk (Kd.V_elder' (by (with_reducible repeat (first | apply Kd.V_alloc | apply Kd.V_drewN | apply Kd.V_drew)); exact HO322.out) (Kd.S_base ho0) hb); have n1_ := Aside0.mk (Kd.S_lower ho0 (below_size (by repeat (first | (with_reducible first | exact HB.out | apply below_alloc | apply pw_below_drewN | apply below_drew1) | exact HB.out)))); have n2_ := Aside0.mk (below_step (by repeat (first | (with_reducible first | exact HB.out | apply below_alloc | apply pw_below_drewN | apply below_drew1) | exact HB.out)) hb); clear HO322; clear HB; have HO322 := n0_; have HO326 := n1_; have HB := n2_; clear n0_ n1_ n2_; (try clear hb); (try clear hb2); (try clear hk); (try clear hi); (try clear ho0)) | (go_at_call 17; (with_reducible refine (spec_PathCorners.calls k _ _ t320 t327 t328 _ ?side1 ?side2 A5.out).mono ?_); (case side1 => repeat (first | exact (Kd.V_reads' HO322.out).2.2 | (with_reducible refine Kd.C_alloc ?_ _) | (with_reducible refine Kd.C_drewN ?_ _) | (with_reducible refine Kd.C_drew ?_))); (case side2 => exact (Kd.V_reads' HO322.out).2.1); rintro e w10 ⟨v329, rfl, ho0, hb⟩; have n0_ := Aside0.mk (Kd.V_elder' (by (with_reducible repeat (first | apply Kd.V_alloc | apply Kd.V_drewN | apply Kd.V_drew)); exact HO322.out) (Kd.S_base ho0) hb); have n1_ := Aside0.mk (Kd.S_elder' (by (with_reducible repeat (first | apply Kd.S_alloc | apply Kd.S_drewN | apply Kd.S_drew)); exact HO326.out) (Kd.S_base ho0) hb); have n2_ := Aside0.mk (Kd.S_lower (Kd.S_new' ho0 (Kd.S_lt (by (with_reducible repeat (first | apply Kd.S_alloc | apply Kd.S_drewN | apply Kd.S_drew)); exact HO326.out))) (below_size (by repeat (first | (with_reducible first | exact HB.out | apply below_alloc | apply pw_below_drewN | apply below_drew1) | exact HB.out)))); have n3_ := Aside0.mk (below_step (by repeat (first | (with_reducible first | exact HB.out | apply below_alloc | apply pw_below_drewN | apply below_drew1) | exact HB.out)) hb); clear HO322; clear HO326; clear HB; have HO322 := n0_; have HO326 := n1_; have HO330 := n2_; have HB := n3_; clear n0_ n1_ n2_ n3_; (try clear hb); (try clear hb2); (try clear hk); (try clear hi); (try clear ho0))))
    (try simp only [Act.put, List.setIfInBounds_toArray, List.set_cons_zero, List.set_cons_succ])
    go_cut [37] (fun v37 wc => ∃ (kq : Nat) (x37_5 : Bool), v37 = .bool x37_5 ∧ Aside0 (laws_FnCorners.j0 kq t320 t323 t324 t327 t328 x37_5 = some r) ∧ Aside0 (kq ≤ k) ∧ Aside0 (Kd.V (Kd.slice 3 (Kd.int .i64)) 28 wc w.heap.size (fun k_ => some k_ ≠ (v325 : Value).ownBlock ∧ some k_ ≠ (v329 : Value).ownBlock) (.slice Ao8 t320.length co8) t320) ∧ Aside0 (Kd.S (Kd.slice 3 (Kd.int .i64)) 28 wc w.heap.size (fun k_ => some k_ ≠ (v329 : Value).ownBlock) v325 t323) ∧ Aside0 (Kd.S (Kd.slice 3 (Kd.int .i64)) 28 wc w.heap.size (fun k_ => some k_ ≠ (v325 : Value).ownBlock) v329 t327) ∧ Aside0 (Below w.heap.size w wc))
    case first =>
      have H := HC6.out
      clear HC6
      by_cases c11 : (t324 != t328) = true
      · rw [if_pos c11] at H
        have c11b0 : (t324 != t328) = true := c11
        (try (have c11b1 : decide (t324 = t328) = false := by simpa using c11))
        (try (have c11b2 : (t324 == t328) = false := by simpa using c11))
        (try (have c11b3 : ¬ (t324 = t328) := by simpa using c11))
        clear c11
        (first | rw [c11b0] | (simp only [i64_w, i32_w]; rw [c11b0]) | skip)
        have H' := Aside0.mk H
        clear H
        go_wp2
        repeat (go_quiet (fail); try go_wp2)
        go_meet
        case rel => exact ⟨_, (true), (by first | rfl | (simp; done) | (simp [*]; done)), H', ⟨by first | omega | exact Nat.le_refl _⟩, ⟨by (with_reducible repeat (first | apply Kd.V_alloc | apply Kd.V_drewN | apply Kd.V_drew)); exact Kd.V_mono HO322.out (fun _ hk => ⟨hk.1.2, hk.2⟩)⟩, ⟨by (with_reducible repeat (first | apply Kd.S_alloc | apply Kd.S_drewN | apply Kd.S_drew)); exact Kd.S_mono HO326.out (fun _ hk => hk.2)⟩, ⟨by (with_reducible repeat (first | apply Kd.S_alloc | apply Kd.S_drewN | apply Kd.S_drew)); exact Kd.S_mono HO330.out (fun _ hk => hk.2)⟩, ⟨by repeat (first | (with_reducible first | exact HB.out | apply below_alloc | apply pw_below_drewN | apply below_drew1) | exact HB.out)⟩⟩
      · rw [if_neg c11] at H
        have c11b0 : (t324 != t328) = false := by simpa using c11
        (try (have c11b1 : decide (t324 = t328) = true := by simpa using c11))
        (try (have c11b2 : (t324 == t328) = true := by simpa using c11))
        clear c11
        (first | rw [c11b0] | (simp only [i64_w, i32_w]; rw [c11b0]) | skip)
        replace H := Option.bind_eq_some_iff.mp H
        obtain ⟨t331, A120, H⟩ := H
        replace H : (if t331 = true then (laws_FnCorners.j0 k t320 t323 t324 t327 t328 (!t324)) else (laws_FnCorners.j0 k t320 t323 t324 t327 t328 true)) = some r := H
        have A12 := Aside0.mk A120
        clear A120
        by_cases c13 : t331 = true
        · subst c13
          have H1 : (laws_FnCorners.j0 k t320 t323 t324 t327 t328 (!t324)) = some r := by rw [if_pos rfl] at H; exact H
          clear H
          have H := H1
          clear H1
          have H' := Aside0.mk H
          clear H
          obtain ⟨Ao14, co14, eo14⟩ := Kd.S_slice HO326.out
          subst eo14
          obtain ⟨Ao15, co15, eo15⟩ := Kd.S_slice HO330.out
          subst eo15
          go_wp2_with (first | (go_at_call 18; (with_reducible refine (laws_sameRows.calls k _ _ t323 _ _ t327 true _ ?side1 ?side2 ?side3 ?side4 A12.out).mono ?_); (case side1 => repeat (first | exact (Kd.S_reads' HO326.out).2.2 | (with_reducible refine Kd.C_alloc ?_ _) | (with_reducible refine Kd.C_drewN ?_ _) | (with_reducible refine Kd.C_drew ?_))); (case side2 => exact (Kd.S_reads' HO326.out).2.1); (case side3 => repeat (first | exact (Kd.S_reads' HO330.out).2.2 | (with_reducible refine Kd.C_alloc ?_ _) | (with_reducible refine Kd.C_drewN ?_ _) | (with_reducible refine Kd.C_drew ?_))); (case side4 => exact (Kd.S_reads' HO330.out).2.1); rintro e w' ⟨rfl, ⟨nd, rfl⟩⟩; (try first | exact ⟨rfl, _, World.drewN_drewN _ _ _⟩ | exact ⟨rfl, _, Eq.trans (World.drewN_drewN _ _ _) (congrArg (World.drewN _) (Nat.add_assoc _ _ _))⟩)))
          repeat (go_quiet (first | (go_at_call 18; (with_reducible refine (laws_sameRows.calls k _ _ t323 _ _ t327 true _ ?side1 ?side2 ?side3 ?side4 A12.out).mono ?_); (case side1 => repeat (first | exact (Kd.S_reads' HO326.out).2.2 | (with_reducible refine Kd.C_alloc ?_ _) | (with_reducible refine Kd.C_drewN ?_ _) | (with_reducible refine Kd.C_drew ?_))); (case side2 => exact (Kd.S_reads' HO326.out).2.1); (case side3 => repeat (first | exact (Kd.S_reads' HO330.out).2.2 | (with_reducible refine Kd.C_alloc ?_ _) | (with_reducible refine Kd.C_drewN ?_ _) | (with_reducible refine Kd.C_drew ?_))); (case side4 => exact (Kd.S_reads' HO330.out).2.1); rintro e w' ⟨rfl, ⟨nd, rfl⟩⟩; (try first | exact ⟨rfl, _, World.drewN_drewN _ _ _⟩ | exact ⟨rfl, _, Eq.trans (World.drewN_drewN _ _ _) (congrArg (World.drewN _) (Nat.add_assoc _ _ _))⟩))); try go_wp2_with (first | (go_at_call 18; (with_reducible refine (laws_sameRows.calls k _ _ t323 _ _ t327 true _ ?side1 ?side2 ?side3 ?side4 A12.out).mono ?_); (case side1 => repeat (first | exact (Kd.S_reads' HO326.out).2.2 | (with_reducible refine Kd.C_alloc ?_ _) | (with_reducible refine Kd.C_drewN ?_ _) | (with_reducible refine Kd.C_drew ?_))); (case side2 => exact (Kd.S_reads' HO326.out).2.1); (case side3 => repeat (first | exact (Kd.S_reads' HO330.out).2.2 | (with_reducible refine Kd.C_alloc ?_ _) | (with_reducible refine Kd.C_drewN ?_ _) | (with_reducible refine Kd.C_drew ?_))); (case side4 => exact (Kd.S_reads' HO330.out).2.1); rintro e w' ⟨rfl, ⟨nd, rfl⟩⟩; (try first | exact ⟨rfl, _, World.drewN_drewN _ _ _⟩ | exact ⟨rfl, _, Eq.trans (World.drewN_drewN _ _ _) (congrArg (World.drewN _) (Nat.add_assoc _ _ _))⟩))))
          go_meet
          case rel => exact ⟨_, (!t324), (by first | rfl | (simp; done) | (simp [*]; done)), H', ⟨by first | omega | exact Nat.le_refl _⟩, ⟨by (with_reducible repeat (first | apply Kd.V_alloc | apply Kd.V_drewN | apply Kd.V_drew)); exact Kd.V_mono HO322.out (fun _ hk => ⟨hk.1.2, hk.2⟩)⟩, ⟨by (with_reducible repeat (first | apply Kd.S_alloc | apply Kd.S_drewN | apply Kd.S_drew)); exact Kd.S_mono HO326.out (fun _ hk => hk.2)⟩, ⟨by (with_reducible repeat (first | apply Kd.S_alloc | apply Kd.S_drewN | apply Kd.S_drew)); exact Kd.S_mono HO330.out (fun _ hk => hk.2)⟩, ⟨by repeat (first | (with_reducible first | exact HB.out | apply below_alloc | apply pw_below_drewN | apply below_drew1) | exact HB.out)⟩⟩
        · replace c13 := Bool.eq_false_iff.mpr c13
          subst c13
          have H1 : (laws_FnCorners.j0 k t320 t323 t324 t327 t328 true) = some r := by rw [if_neg (show ¬ (false = true) by decide)] at H; exact H
          clear H
          have H := H1
          clear H1
          have H' := Aside0.mk H
          clear H
          obtain ⟨Ao16, co16, eo16⟩ := Kd.S_slice HO326.out
          subst eo16
          obtain ⟨Ao17, co17, eo17⟩ := Kd.S_slice HO330.out
          subst eo17
          go_wp2_with (first | (go_at_call 18; (with_reducible refine (laws_sameRows.calls k _ _ t323 _ _ t327 false _ ?side1 ?side2 ?side3 ?side4 A12.out).mono ?_); (case side1 => repeat (first | exact (Kd.S_reads' HO326.out).2.2 | (with_reducible refine Kd.C_alloc ?_ _) | (with_reducible refine Kd.C_drewN ?_ _) | (with_reducible refine Kd.C_drew ?_))); (case side2 => exact (Kd.S_reads' HO326.out).2.1); (case side3 => repeat (first | exact (Kd.S_reads' HO330.out).2.2 | (with_reducible refine Kd.C_alloc ?_ _) | (with_reducible refine Kd.C_drewN ?_ _) | (with_reducible refine Kd.C_drew ?_))); (case side4 => exact (Kd.S_reads' HO330.out).2.1); rintro e w' ⟨rfl, ⟨nd, rfl⟩⟩; (try first | exact ⟨rfl, _, World.drewN_drewN _ _ _⟩ | exact ⟨rfl, _, Eq.trans (World.drewN_drewN _ _ _) (congrArg (World.drewN _) (Nat.add_assoc _ _ _))⟩)))
          repeat (go_quiet (first | (go_at_call 18; (with_reducible refine (laws_sameRows.calls k _ _ t323 _ _ t327 false _ ?side1 ?side2 ?side3 ?side4 A12.out).mono ?_); (case side1 => repeat (first | exact (Kd.S_reads' HO326.out).2.2 | (with_reducible refine Kd.C_alloc ?_ _) | (with_reducible refine Kd.C_drewN ?_ _) | (with_reducible refine Kd.C_drew ?_))); (case side2 => exact (Kd.S_reads' HO326.out).2.1); (case side3 => repeat (first | exact (Kd.S_reads' HO330.out).2.2 | (with_reducible refine Kd.C_alloc ?_ _) | (with_reducible refine Kd.C_drewN ?_ _) | (with_reducible refine Kd.C_drew ?_))); (case side4 => exact (Kd.S_reads' HO330.out).2.1); rintro e w' ⟨rfl, ⟨nd, rfl⟩⟩; (try first | exact ⟨rfl, _, World.drewN_drewN _ _ _⟩ | exact ⟨rfl, _, Eq.trans (World.drewN_drewN _ _ _) (congrArg (World.drewN _) (Nat.add_assoc _ _ _))⟩))); try go_wp2_with (first | (go_at_call 18; (with_reducible refine (laws_sameRows.calls k _ _ t323 _ _ t327 false _ ?side1 ?side2 ?side3 ?side4 A12.out).mono ?_); (case side1 => repeat (first | exact (Kd.S_reads' HO326.out).2.2 | (with_reducible refine Kd.C_alloc ?_ _) | (with_reducible refine Kd.C_drewN ?_ _) | (with_reducible refine Kd.C_drew ?_))); (case side2 => exact (Kd.S_reads' HO326.out).2.1); (case side3 => repeat (first | exact (Kd.S_reads' HO330.out).2.2 | (with_reducible refine Kd.C_alloc ?_ _) | (with_reducible refine Kd.C_drewN ?_ _) | (with_reducible refine Kd.C_drew ?_))); (case side4 => exact (Kd.S_reads' HO330.out).2.1); rintro e w' ⟨rfl, ⟨nd, rfl⟩⟩; (try first | exact ⟨rfl, _, World.drewN_drewN _ _ _⟩ | exact ⟨rfl, _, Eq.trans (World.drewN_drewN _ _ _) (congrArg (World.drewN _) (Nat.add_assoc _ _ _))⟩))))
          go_meet
          case rel => exact ⟨_, (true), (by first | rfl | (simp; done) | (simp [*]; done)), H', ⟨by first | omega | exact Nat.le_refl _⟩, ⟨by (with_reducible repeat (first | apply Kd.V_alloc | apply Kd.V_drewN | apply Kd.V_drew)); exact Kd.V_mono HO322.out (fun _ hk => ⟨hk.1.2, hk.2⟩)⟩, ⟨by (with_reducible repeat (first | apply Kd.S_alloc | apply Kd.S_drewN | apply Kd.S_drew)); exact Kd.S_mono HO326.out (fun _ hk => hk.2)⟩, ⟨by (with_reducible repeat (first | apply Kd.S_alloc | apply Kd.S_drewN | apply Kd.S_drew)); exact Kd.S_mono HO330.out (fun _ hk => hk.2)⟩, ⟨by repeat (first | (with_reducible first | exact HB.out | apply below_alloc | apply pw_below_drewN | apply below_drew1) | exact HB.out)⟩⟩
    case rest =>
      clear HC6
      try clear c1
      try clear c2
      try clear c2b0
      try clear c2b1
      try clear p2
      try clear c3
      try clear c11
      try clear c11b0
      try clear c11b1
      try clear c11b2
      try clear c13
      obtain ⟨kq, x37_5, rfl, HA, HJ5, HO_3, HO_4, HO_6, HB⟩ := hcut
      cases kq with
      | zero => exact absurd HA.out (by simp [laws_FnCorners.j0])
      | succ kj5 =>
        have H := HA.out
        clear HA
        simp only [laws_FnCorners.j0] at H
        by_cases c18 : x37_5 = true
        · subst c18
          have H1 : (if (t324 == t328) = true then ((laws_sameRows.f kj5 t323 t327).bind fun t332 => (some t332)) else (some false)) = some r := by rw [if_pos rfl] at H; exact H
          clear H
          have H := H1
          clear H1
          by_cases c19 : (t324 == t328) = true
          · rw [if_pos c19] at H
            have c19b0 : (t324 == t328) = true := c19
            (try (have c19b1 : decide (t324 = t328) = true := by simpa using c19))
            (try (have c19b2 : (t324 == t328) = true := by simpa using c19))
            clear c19
            replace H := Option.bind_eq_some_iff.mp H
            obtain ⟨t332, A200, H⟩ := H
            replace H : (some t332) = some r := H
            have A20 := Aside0.mk A200
            clear A200
            obtain rfl := Option.some.inj H
            obtain ⟨Ao21, co21, eo21⟩ := Kd.S_slice HO_4.out
            subst eo21
            obtain ⟨Ao22, co22, eo22⟩ := Kd.S_slice HO_6.out
            subst eo22
            go_wp2_with (first | (go_at_call 18; (with_reducible refine (laws_sameRows.calls kj5 _ _ t323 _ _ t327 t332 _ ?side1 ?side2 ?side3 ?side4 A20.out).mono ?_); (case side1 => repeat (first | exact (Kd.S_reads' HO_4.out).2.2 | (with_reducible refine Kd.C_alloc ?_ _) | (with_reducible refine Kd.C_drewN ?_ _) | (with_reducible refine Kd.C_drew ?_))); (case side2 => exact (Kd.S_reads' HO_4.out).2.1); (case side3 => repeat (first | exact (Kd.S_reads' HO_6.out).2.2 | (with_reducible refine Kd.C_alloc ?_ _) | (with_reducible refine Kd.C_drewN ?_ _) | (with_reducible refine Kd.C_drew ?_))); (case side4 => exact (Kd.S_reads' HO_6.out).2.1); rintro e w' ⟨rfl, ⟨nd, rfl⟩⟩; (try first | exact ⟨rfl, _, World.drewN_drewN _ _ _⟩ | exact ⟨rfl, _, Eq.trans (World.drewN_drewN _ _ _) (congrArg (World.drewN _) (Nat.add_assoc _ _ _))⟩)))
            repeat (go_quiet (first | (go_at_call 18; (with_reducible refine (laws_sameRows.calls kj5 _ _ t323 _ _ t327 t332 _ ?side1 ?side2 ?side3 ?side4 A20.out).mono ?_); (case side1 => repeat (first | exact (Kd.S_reads' HO_4.out).2.2 | (with_reducible refine Kd.C_alloc ?_ _) | (with_reducible refine Kd.C_drewN ?_ _) | (with_reducible refine Kd.C_drew ?_))); (case side2 => exact (Kd.S_reads' HO_4.out).2.1); (case side3 => repeat (first | exact (Kd.S_reads' HO_6.out).2.2 | (with_reducible refine Kd.C_alloc ?_ _) | (with_reducible refine Kd.C_drewN ?_ _) | (with_reducible refine Kd.C_drew ?_))); (case side4 => exact (Kd.S_reads' HO_6.out).2.1); rintro e w' ⟨rfl, ⟨nd, rfl⟩⟩; (try first | exact ⟨rfl, _, World.drewN_drewN _ _ _⟩ | exact ⟨rfl, _, Eq.trans (World.drewN_drewN _ _ _) (congrArg (World.drewN _) (Nat.add_assoc _ _ _))⟩))); try go_wp2_with (first | (go_at_call 18; (with_reducible refine (laws_sameRows.calls kj5 _ _ t323 _ _ t327 t332 _ ?side1 ?side2 ?side3 ?side4 A20.out).mono ?_); (case side1 => repeat (first | exact (Kd.S_reads' HO_4.out).2.2 | (with_reducible refine Kd.C_alloc ?_ _) | (with_reducible refine Kd.C_drewN ?_ _) | (with_reducible refine Kd.C_drew ?_))); (case side2 => exact (Kd.S_reads' HO_4.out).2.1); (case side3 => repeat (first | exact (Kd.S_reads' HO_6.out).2.2 | (with_reducible refine Kd.C_alloc ?_ _) | (with_reducible refine Kd.C_drewN ?_ _) | (with_reducible refine Kd.C_drew ?_))); (case side4 => exact (Kd.S_reads' HO_6.out).2.1); rintro e w' ⟨rfl, ⟨nd, rfl⟩⟩; (try first | exact ⟨rfl, _, World.drewN_drewN _ _ _⟩ | exact ⟨rfl, _, Eq.trans (World.drewN_drewN _ _ _) (congrArg (World.drewN _) (Nat.add_assoc _ _ _))⟩))))
            go_ret
            exact ⟨by first | rfl | (simp [errW_none, errW_some] <;> rfl) | (simp [*, errW_none, errW_some] <;> rfl), by repeat (first | (with_reducible first | exact HB.out | apply below_alloc | apply pw_below_drewN | apply below_drew1) | exact HB.out)⟩
          · rw [if_neg c19] at H
            have c19b0 : (t324 == t328) = false := by simpa using c19
            (try (have c19b1 : decide (t324 = t328) = false := by simpa using c19))
            (try (have c19b2 : (t324 == t328) = false := by simpa using c19))
            (try (have c19b3 : ¬ (t324 = t328) := by simpa using c19))
            clear c19
            obtain rfl := Option.some.inj H
            go_wp2
            repeat (go_quiet (fail); try go_wp2)
            go_ret
            exact ⟨by first | rfl | (simp [errW_none, errW_some] <;> rfl) | (simp [*, errW_none, errW_some] <;> rfl), by repeat (first | (with_reducible first | exact HB.out | apply below_alloc | apply pw_below_drewN | apply below_drew1) | exact HB.out)⟩
        · replace c18 := Bool.eq_false_iff.mpr c18
          subst c18
          have H1 : (laws_FnCorners.l0 kj5 t320 t323 0) = some r := by rw [if_neg (show ¬ (false = true) by decide)] at H; exact H
          clear H
          have H := H1
          clear H1
          have H' := Aside0.mk H
          clear H
          go_wp2
          repeat (go_quiet (fail); try go_wp2)
          go_loopg [8] kj5 (fun kq v8 w' => ∃ (x8_2 : Int), v8 = .int .i64 x8_2 ∧ Aside0 (laws_FnCorners.l0 kq t320 t323 x8_2 = some r) ∧ Aside0 (kq ≤ kj5) ∧ Aside0 (Kd.V (Kd.slice 3 (Kd.int .i64)) 28 w' w.heap.size (fun k_ => some k_ ≠ (v325 : Value).ownBlock) (.slice Ao8 t320.length co8) t320) ∧ Aside0 (Kd.S (Kd.slice 3 (Kd.int .i64)) 28 w' w.heap.size (fun _ => True) v325 t323) ∧ Aside0 (Below w.heap.size w w'))
          case atStart => exact ⟨(0), (by first | rfl | (simp; done) | (simp [*]; done)), H', ⟨Nat.le_refl _⟩, ⟨by (with_reducible repeat (first | apply Kd.V_alloc | apply Kd.V_drewN | apply Kd.V_drew)); exact Kd.V_mono HO_3.out (fun _ hk => hk.1)⟩, ⟨by (with_reducible repeat (first | apply Kd.S_alloc | apply Kd.S_drewN | apply Kd.S_drew)); exact Kd.S_mono HO_4.out (fun _ hk => trivial)⟩, ⟨by repeat (first | (with_reducible first | exact HB.out | apply below_alloc | apply pw_below_drewN | apply below_drew1) | exact HB.out)⟩⟩
          case round =>
            clear H'
            try clear c1
            try clear c2
            try clear c2b0
            try clear c2b1
            try clear p2
            try clear c3
            try clear c11
            try clear c11b0
            try clear c11b1
            try clear c11b2
            try clear c13
            try clear c18
            try clear c19
            try clear c19b0
            try clear c19b1
            try clear c19b2
            try clear p2
            obtain ⟨x8_2, rfl, HA, HK2, HO_3, HO_4, HB⟩ := hrel
            cases gk with
            | zero => exact absurd HA.out (by simp [laws_FnCorners.l0])
            | succ k2 =>
              have H := HA.out
              clear HA
              simp only [laws_FnCorners.l0] at H
              by_cases c23 : x8_2 < (t320.length : Int)
              · rw [if_pos c23] at H
                have c23b0 : decide (x8_2 < (t320.length : Int)) = true := decide_eq_true c23
                clear c23
                by_cases c24 : (t320.length : Int) = 0
                · rw [if_pos c24] at H
                  exact absurd H (by simp)
                · rw [if_neg c24] at H
                  have c24b0 : ((t320.length : Int) == 0) = false := beq_eq_false_iff_ne.mpr c24
                  have c24b1 : ((t320.length : Int) != 0) = true := bne_iff_ne.mpr c24
                  have c24b2 : ¬ (t320 = []) := fun h_ => c24 (by rw [h_]; rfl)
                  by_cases c25 : 0 ≤ x8_2
                  · rw [if_pos c25] at H
                    have c25b0 : decide (0 ≤ x8_2) = true := decide_eq_true c25
                    clear c25
                    by_cases c26 : x8_2 < (t323.length : Int)
                    · rw [if_pos c26] at H
                      have c26b0 : decide (x8_2 < (t323.length : Int)) = true := decide_eq_true c26
                      clear c26
                      by_cases c27 : 0 < ((rd_L2 t323 x8_2).length : Int)
                      · rw [if_pos c27] at H
                        have c27b0 : decide (0 < ((rd_L2 t323 x8_2).length : Int)) = true := decide_eq_true c27
                        have c27b1 : decide (0 < (rd_L2 t323 x8_2).length) = true := decide_eq_true (by omega)
                        clear c27
                        by_cases c28 : 0 < ((rd_L2 t320 x8_2).length : Int)
                        · rw [if_pos c28] at H
                          have c28b0 : decide (0 < ((rd_L2 t320 x8_2).length : Int)) = true := decide_eq_true c28
                          have c28b1 : decide (0 < (rd_L2 t320 x8_2).length) = true := decide_eq_true (by omega)
                          clear c28
                          obtain ⟨ji29, hji29⟩ : ∃ j_ : Int, (Int.tmod (wrap64 (x8_2 + 1)) (t320.length : Int)) = j_ := ⟨_, rfl⟩
                          replace H : (if 0 ≤ (ji29) then (if (ji29) < (t323.length : Int) then (if 0 < ((rd_L2 t323 (ji29)).length : Int) then (if (wrap64 ((rd (rd_L2 t323 x8_2) 0) + (rd (rd_L2 t320 x8_2) 0))) = (rd (rd_L2 t323 (ji29)) 0) then (if 1 < ((rd_L2 t323 x8_2).length : Int) then (if 1 < ((rd_L2 t320 x8_2).length : Int) then (if 1 < ((rd_L2 t323 (ji29)).length : Int) then (if (wrap64 ((rd (rd_L2 t323 x8_2) 1) + (rd (rd_L2 t320 x8_2) 1))) = (rd (rd_L2 t323 (ji29)) 1) then (laws_FnCorners.l0 k2 t320 t323 (wrap64 (x8_2 + 1))) else (some false)) else (none)) else (none)) else (none)) else (some false)) else (none)) else (none)) else (none)) = some r := by first | (rw [hji29] at H; exact H) | (simp only [hji29] at H ⊢; exact H)
                          by_cases c30 : 0 ≤ (ji29)
                          · rw [if_pos c30] at H
                            have c30b0 : decide (0 ≤ (ji29)) = true := decide_eq_true c30
                            clear c30
                            by_cases c31 : (ji29) < (t323.length : Int)
                            · rw [if_pos c31] at H
                              have c31b0 : decide ((ji29) < (t323.length : Int)) = true := decide_eq_true c31
                              clear c31
                              by_cases c32 : 0 < ((rd_L2 t323 (ji29)).length : Int)
                              · rw [if_pos c32] at H
                                have c32b0 : decide (0 < ((rd_L2 t323 (ji29)).length : Int)) = true := decide_eq_true c32
                                have c32b1 : decide (0 < (rd_L2 t323 (ji29)).length) = true := decide_eq_true (by omega)
                                clear c32
                                by_cases c33 : (wrap64 ((rd (rd_L2 t323 x8_2) 0) + (rd (rd_L2 t320 x8_2) 0))) = (rd (rd_L2 t323 (ji29)) 0)
                                · rw [if_pos c33] at H
                                  have c33b0 : ((wrap64 ((rd (rd_L2 t323 x8_2) 0) + (rd (rd_L2 t320 x8_2) 0))) == (rd (rd_L2 t323 (ji29)) 0)) = true := beq_iff_eq.mpr c33
                                  have c33b1 : ((wrap64 ((rd (rd_L2 t323 x8_2) 0) + (rd (rd_L2 t320 x8_2) 0))) != (rd (rd_L2 t323 (ji29)) 0)) = false := bne_eq_false_iff_eq.mpr c33
                                  clear c33
                                  by_cases c34 : 1 < ((rd_L2 t323 x8_2).length : Int)
                                  · rw [if_pos c34] at H
                                    have c34b0 : decide (1 < ((rd_L2 t323 x8_2).length : Int)) = true := decide_eq_true c34
                                    have c34b1 : decide (1 < (rd_L2 t323 x8_2).length) = true := decide_eq_true (by omega)
                                    clear c34
                                    by_cases c35 : 1 < ((rd_L2 t320 x8_2).length : Int)
                                    · rw [if_pos c35] at H
                                      have c35b0 : decide (1 < ((rd_L2 t320 x8_2).length : Int)) = true := decide_eq_true c35
                                      have c35b1 : decide (1 < (rd_L2 t320 x8_2).length) = true := decide_eq_true (by omega)
                                      clear c35
                                      by_cases c36 : 1 < ((rd_L2 t323 (ji29)).length : Int)
                                      · rw [if_pos c36] at H
                                        have c36b0 : decide (1 < ((rd_L2 t323 (ji29)).length : Int)) = true := decide_eq_true c36
                                        have c36b1 : decide (1 < (rd_L2 t323 (ji29)).length) = true := decide_eq_true (by omega)
                                        clear c36
                                        by_cases c37 : (wrap64 ((rd (rd_L2 t323 x8_2) 1) + (rd (rd_L2 t320 x8_2) 1))) = (rd (rd_L2 t323 (ji29)) 1)
                                        · rw [if_pos c37] at H
                                          have c37b0 : ((wrap64 ((rd (rd_L2 t323 x8_2) 1) + (rd (rd_L2 t320 x8_2) 1))) == (rd (rd_L2 t323 (ji29)) 1)) = true := beq_iff_eq.mpr c37
                                          have c37b1 : ((wrap64 ((rd (rd_L2 t323 x8_2) 1) + (rd (rd_L2 t320 x8_2) 1))) != (rd (rd_L2 t323 (ji29)) 1)) = false := bne_eq_false_iff_eq.mpr c37
                                          clear c37
                                          have H' := Aside0.mk H
                                          clear H
                                          obtain ⟨Ao38, co38, eo38⟩ := Kd.S_slice HO_4.out
                                          subst eo38
                                          have p333 : 0 ≤ (x8_2 : Int) := of_decide_eq_true (by first | (with_reducible assumption) | assumption)
                                          have q333 : x8_2 < (t323.length : Int) := of_decide_eq_true (by first | (with_reducible assumption) | assumption)
                                          obtain ⟨ad333, A333_0, c333_0, e333, hx333_0, hl333_0, hi333_0⟩ := at_L2 (Kd.S_reads' HO_4.out).2.2 x8_2 p333 q333
                                          cases e333
                                          obtain ⟨ce333, hce333, hMe333, hcc333⟩ := Kd.S_get HO_4.out [] x8_2 p333 (by first | exact q333 | exact of_decide_eq_true (by first | (with_reducible assumption) | assumption) | (have e_ := (Kd.S_reads' HO_4.out).1; omega))
                                          obtain ⟨ve333_0, rfl, ge333_0⟩ := hMe333
                                          have hv333_0 := hcc333 0 _ rfl
                                          rw [Nat.add_zero, show ((Kd.slice 3 (Kd.int .i64))).sz = 1 from rfl, Nat.mul_one] at hv333_0
                                          replace hv333_0 := Option.some.inj (hv333_0.symm.trans hx333_0)
                                          rw [hv333_0] at ge333_0
                                          have HL333_0 := Aside0.mk (show Kd.R (Kd.int .i64) 3 _ _ _ _ (rd_L2 t323 x8_2) from ge333_0)
                                          clear hv333_0 ge333_0
                                          clear hcc333 hce333
                                          have HR333_0 := Aside0.mk hi333_0
                                          have HC333_0 := Aside0.mk hl333_0
                                          clear hi333_0 hl333_0
                                          replace p333 := eq_true p333
                                          replace q333 := eq_true q333
                                          have p334 : 0 ≤ (0 : Int) := (by omega)
                                          have q334 : 0 < ((rd_L2 t323 x8_2).length : Int) := of_decide_eq_true (by first | (with_reducible assumption) | assumption)
                                          obtain ⟨ad334, e334, hx334_0⟩ := Kd.at_int (by repeat (first | (with_reducible exact HR333_0.out) | (with_reducible refine Kd.C_alloc ?_ _) | (with_reducible refine Kd.C_drewN ?_ _) | (with_reducible refine Kd.C_drew ?_) | exact HR333_0.out)) 0 p334 q334
                                          cases e334
                                          have qi334 : (0 < (rd_L2 t323 x8_2).length) = True := eq_true (by omega)
                                          (try rw [show ((0 : Int)).toNat = 0 from rfl] at hx334_0)
                                          (try rw [Addr.add_zero'] at hx334_0)
                                          replace p334 := eq_true p334
                                          replace q334 := eq_true q334
                                          have p335 : 0 ≤ (x8_2 : Int) := of_decide_eq_true (by first | (with_reducible assumption) | assumption)
                                          have q335 : x8_2 < (t320.length : Int) := of_decide_eq_true (by first | (with_reducible assumption) | assumption)
                                          obtain ⟨ad335, A335_0, c335_0, e335, hx335_0, hl335_0, hi335_0⟩ := at_L2 (Kd.V_reads' HO_3.out).2.2 x8_2 p335 q335
                                          cases e335
                                          obtain ⟨ce335, hce335, hMe335, hcc335⟩ := Kd.V_get HO_3.out [] x8_2 p335 (by first | exact q335 | exact of_decide_eq_true (by first | (with_reducible assumption) | assumption) | (have e_ := (Kd.V_reads' HO_3.out).1; omega))
                                          obtain ⟨ua335_0, uc335_0, rfl, ul335_0, ge335_0⟩ := Kd.FK_slice_open hMe335
                                          have hv335_0 := hcc335 0 _ rfl
                                          rw [Nat.add_zero, show ((Kd.slice 3 (Kd.int .i64))).sz = 1 from rfl, Nat.mul_one] at hv335_0
                                          replace hv335_0 := Option.some.inj (hv335_0.symm.trans hx335_0)
                                          injection hv335_0 with hva_ hvn_ hvc_
                                          rw [hva_] at ge335_0
                                          rw [hvc_] at ul335_0
                                          have HL335_0 := Aside0.mk (show Kd.V (Kd.int .i64) 3 _ w.heap.size _ _ (rd_L2 t320 x8_2) from Kd.V_mk ul335_0 ge335_0)
                                          clear hva_ hvn_ hvc_ ge335_0 ul335_0
                                          clear hcc335 hce335
                                          have HR335_0 := Aside0.mk hi335_0
                                          have HC335_0 := Aside0.mk hl335_0
                                          clear hi335_0 hl335_0
                                          replace p335 := eq_true p335
                                          replace q335 := eq_true q335
                                          have p336 : 0 ≤ (0 : Int) := (by omega)
                                          have q336 : 0 < ((rd_L2 t320 x8_2).length : Int) := of_decide_eq_true (by first | (with_reducible assumption) | assumption)
                                          obtain ⟨ad336, e336, hx336_0⟩ := Kd.at_int (by repeat (first | (with_reducible exact HR335_0.out) | (with_reducible refine Kd.C_alloc ?_ _) | (with_reducible refine Kd.C_drewN ?_ _) | (with_reducible refine Kd.C_drew ?_) | exact HR335_0.out)) 0 p336 q336
                                          cases e336
                                          have qi336 : (0 < (rd_L2 t320 x8_2).length) = True := eq_true (by omega)
                                          (try rw [show ((0 : Int)).toNat = 0 from rfl] at hx336_0)
                                          (try rw [Addr.add_zero'] at hx336_0)
                                          replace p336 := eq_true p336
                                          replace q336 := eq_true q336
                                          have p337 : 0 ≤ ((ji29) : Int) := of_decide_eq_true (by first | (with_reducible assumption) | assumption)
                                          have q337 : (ji29) < (t323.length : Int) := of_decide_eq_true (by first | (with_reducible assumption) | assumption)
                                          obtain ⟨ad337, A337_0, c337_0, e337, hx337_0, hl337_0, hi337_0⟩ := at_L2 (Kd.S_reads' HO_4.out).2.2 (ji29) p337 q337
                                          obtain rfl : ad333 = ad337 := (by injection e337)
                                          obtain ⟨ce337, hce337, hMe337, hcc337⟩ := Kd.S_get HO_4.out [] (ji29) p337 (by first | exact q337 | exact of_decide_eq_true (by first | (with_reducible assumption) | assumption) | (have e_ := (Kd.S_reads' HO_4.out).1; omega))
                                          obtain ⟨ve337_0, rfl, ge337_0⟩ := hMe337
                                          have hv337_0 := hcc337 0 _ rfl
                                          rw [Nat.add_zero, show ((Kd.slice 3 (Kd.int .i64))).sz = 1 from rfl, Nat.mul_one] at hv337_0
                                          replace hv337_0 := Option.some.inj (hv337_0.symm.trans hx337_0)
                                          rw [hv337_0] at ge337_0
                                          have HL337_0 := Aside0.mk (show Kd.R (Kd.int .i64) 3 _ _ _ _ (rd_L2 t323 (ji29)) from ge337_0)
                                          clear hv337_0 ge337_0
                                          clear hcc337 hce337
                                          have HR337_0 := Aside0.mk hi337_0
                                          have HC337_0 := Aside0.mk hl337_0
                                          clear hi337_0 hl337_0
                                          replace p337 := eq_true p337
                                          replace q337 := eq_true q337
                                          have p338 : 0 ≤ (0 : Int) := (by omega)
                                          have q338 : 0 < ((rd_L2 t323 (ji29)).length : Int) := of_decide_eq_true (by first | (with_reducible assumption) | assumption)
                                          obtain ⟨ad338, e338, hx338_0⟩ := Kd.at_int (by repeat (first | (with_reducible exact HR337_0.out) | (with_reducible refine Kd.C_alloc ?_ _) | (with_reducible refine Kd.C_drewN ?_ _) | (with_reducible refine Kd.C_drew ?_) | exact HR337_0.out)) 0 p338 q338
                                          cases e338
                                          have qi338 : (0 < (rd_L2 t323 (ji29)).length) = True := eq_true (by omega)
                                          (try rw [show ((0 : Int)).toNat = 0 from rfl] at hx338_0)
                                          (try rw [Addr.add_zero'] at hx338_0)
                                          replace p338 := eq_true p338
                                          replace q338 := eq_true q338
                                          have p339 : 0 ≤ (x8_2 : Int) := of_decide_eq_true (by first | (with_reducible assumption) | assumption)
                                          have q339 : x8_2 < (t323.length : Int) := of_decide_eq_true (by first | (with_reducible assumption) | assumption)
                                          obtain ⟨ad339, A339_0, c339_0, e339, hx339_0, hl339_0, hi339_0⟩ := at_L2 (Kd.S_reads' HO_4.out).2.2 x8_2 p339 q339
                                          obtain rfl : ad333 = ad339 := (by injection e339)
                                          obtain ⟨ce339, hce339, hMe339, hcc339⟩ := Kd.S_get HO_4.out [] x8_2 p339 (by first | exact q339 | exact of_decide_eq_true (by first | (with_reducible assumption) | assumption) | (have e_ := (Kd.S_reads' HO_4.out).1; omega))
                                          obtain ⟨ve339_0, rfl, ge339_0⟩ := hMe339
                                          have hv339_0 := hcc339 0 _ rfl
                                          rw [Nat.add_zero, show ((Kd.slice 3 (Kd.int .i64))).sz = 1 from rfl, Nat.mul_one] at hv339_0
                                          replace hv339_0 := Option.some.inj (hv339_0.symm.trans hx339_0)
                                          rw [hv339_0] at ge339_0
                                          have HL339_0 := Aside0.mk (show Kd.R (Kd.int .i64) 3 _ _ _ _ (rd_L2 t323 x8_2) from ge339_0)
                                          clear hv339_0 ge339_0
                                          clear hcc339 hce339
                                          have HR339_0 := Aside0.mk hi339_0
                                          have HC339_0 := Aside0.mk hl339_0
                                          clear hi339_0 hl339_0
                                          replace p339 := eq_true p339
                                          replace q339 := eq_true q339
                                          have ea_ := Option.some.inj (hx333_0.symm.trans hx339_0)
                                          injection ea_ with ea_ en_ ec_
                                          subst ea_
                                          subst ec_
                                          clear en_
                                          have p340 : 0 ≤ (1 : Int) := (by omega)
                                          have q340 : 1 < ((rd_L2 t323 x8_2).length : Int) := of_decide_eq_true (by first | (with_reducible assumption) | assumption)
                                          obtain ⟨ad340, e340, hx340_0⟩ := Kd.at_int (by repeat (first | (with_reducible exact HR339_0.out) | (with_reducible refine Kd.C_alloc ?_ _) | (with_reducible refine Kd.C_drewN ?_ _) | (with_reducible refine Kd.C_drew ?_) | exact HR339_0.out)) 1 p340 q340
                                          cases e340
                                          (try simp only [show (1 : Int).toNat = 1 from rfl, Nat.reduceMul, Nat.reduceEqDiff, Go.Addr.add, ↓reduceIte] at hx340_0)
                                          have qi340 : (1 < (rd_L2 t323 x8_2).length) = True := eq_true (by omega)
                                          (try rw [show ((1 : Int)).toNat = 1 from rfl] at hx340_0)
                                          replace p340 := eq_true p340
                                          replace q340 := eq_true q340
                                          have p341 : 0 ≤ (x8_2 : Int) := of_decide_eq_true (by first | (with_reducible assumption) | assumption)
                                          have q341 : x8_2 < (t320.length : Int) := of_decide_eq_true (by first | (with_reducible assumption) | assumption)
                                          obtain ⟨ad341, A341_0, c341_0, e341, hx341_0, hl341_0, hi341_0⟩ := at_L2 (Kd.V_reads' HO_3.out).2.2 x8_2 p341 q341
                                          obtain rfl : ad335 = ad341 := (by injection e341)
                                          obtain ⟨ce341, hce341, hMe341, hcc341⟩ := Kd.V_get HO_3.out [] x8_2 p341 (by first | exact q341 | exact of_decide_eq_true (by first | (with_reducible assumption) | assumption) | (have e_ := (Kd.V_reads' HO_3.out).1; omega))
                                          obtain ⟨ua341_0, uc341_0, rfl, ul341_0, ge341_0⟩ := Kd.FK_slice_open hMe341
                                          have hv341_0 := hcc341 0 _ rfl
                                          rw [Nat.add_zero, show ((Kd.slice 3 (Kd.int .i64))).sz = 1 from rfl, Nat.mul_one] at hv341_0
                                          replace hv341_0 := Option.some.inj (hv341_0.symm.trans hx341_0)
                                          injection hv341_0 with hva_ hvn_ hvc_
                                          rw [hva_] at ge341_0
                                          rw [hvc_] at ul341_0
                                          have HL341_0 := Aside0.mk (show Kd.V (Kd.int .i64) 3 _ w.heap.size _ _ (rd_L2 t320 x8_2) from Kd.V_mk ul341_0 ge341_0)
                                          clear hva_ hvn_ hvc_ ge341_0 ul341_0
                                          clear hcc341 hce341
                                          have HR341_0 := Aside0.mk hi341_0
                                          have HC341_0 := Aside0.mk hl341_0
                                          clear hi341_0 hl341_0
                                          replace p341 := eq_true p341
                                          replace q341 := eq_true q341
                                          have ea_ := Option.some.inj (hx335_0.symm.trans hx341_0)
                                          injection ea_ with ea_ en_ ec_
                                          subst ea_
                                          subst ec_
                                          clear en_
                                          have p342 : 0 ≤ (1 : Int) := (by omega)
                                          have q342 : 1 < ((rd_L2 t320 x8_2).length : Int) := of_decide_eq_true (by first | (with_reducible assumption) | assumption)
                                          obtain ⟨ad342, e342, hx342_0⟩ := Kd.at_int (by repeat (first | (with_reducible exact HR341_0.out) | (with_reducible refine Kd.C_alloc ?_ _) | (with_reducible refine Kd.C_drewN ?_ _) | (with_reducible refine Kd.C_drew ?_) | exact HR341_0.out)) 1 p342 q342
                                          cases e342
                                          (try simp only [show (1 : Int).toNat = 1 from rfl, Nat.reduceMul, Nat.reduceEqDiff, Go.Addr.add, ↓reduceIte] at hx342_0)
                                          have qi342 : (1 < (rd_L2 t320 x8_2).length) = True := eq_true (by omega)
                                          (try rw [show ((1 : Int)).toNat = 1 from rfl] at hx342_0)
                                          replace p342 := eq_true p342
                                          replace q342 := eq_true q342
                                          have p343 : 0 ≤ ((ji29) : Int) := of_decide_eq_true (by first | (with_reducible assumption) | assumption)
                                          have q343 : (ji29) < (t323.length : Int) := of_decide_eq_true (by first | (with_reducible assumption) | assumption)
                                          obtain ⟨ad343, A343_0, c343_0, e343, hx343_0, hl343_0, hi343_0⟩ := at_L2 (Kd.S_reads' HO_4.out).2.2 (ji29) p343 q343
                                          obtain rfl : ad333 = ad343 := (by injection e343)
                                          obtain ⟨ce343, hce343, hMe343, hcc343⟩ := Kd.S_get HO_4.out [] (ji29) p343 (by first | exact q343 | exact of_decide_eq_true (by first | (with_reducible assumption) | assumption) | (have e_ := (Kd.S_reads' HO_4.out).1; omega))
                                          obtain ⟨ve343_0, rfl, ge343_0⟩ := hMe343
                                          have hv343_0 := hcc343 0 _ rfl
                                          rw [Nat.add_zero, show ((Kd.slice 3 (Kd.int .i64))).sz = 1 from rfl, Nat.mul_one] at hv343_0
                                          replace hv343_0 := Option.some.inj (hv343_0.symm.trans hx343_0)
                                          rw [hv343_0] at ge343_0
                                          have HL343_0 := Aside0.mk (show Kd.R (Kd.int .i64) 3 _ _ _ _ (rd_L2 t323 (ji29)) from ge343_0)
                                          clear hv343_0 ge343_0
                                          clear hcc343 hce343
                                          have HR343_0 := Aside0.mk hi343_0
                                          have HC343_0 := Aside0.mk hl343_0
                                          clear hi343_0 hl343_0
                                          replace p343 := eq_true p343
                                          replace q343 := eq_true q343
                                          have ea_ := Option.some.inj (hx337_0.symm.trans hx343_0)
                                          injection ea_ with ea_ en_ ec_
                                          subst ea_
                                          subst ec_
                                          clear en_
                                          have p344 : 0 ≤ (1 : Int) := (by omega)
                                          have q344 : 1 < ((rd_L2 t323 (ji29)).length : Int) := of_decide_eq_true (by first | (with_reducible assumption) | assumption)
                                          obtain ⟨ad344, e344, hx344_0⟩ := Kd.at_int (by repeat (first | (with_reducible exact HR343_0.out) | (with_reducible refine Kd.C_alloc ?_ _) | (with_reducible refine Kd.C_drewN ?_ _) | (with_reducible refine Kd.C_drew ?_) | exact HR343_0.out)) 1 p344 q344
                                          cases e344
                                          (try simp only [show (1 : Int).toNat = 1 from rfl, Nat.reduceMul, Nat.reduceEqDiff, Go.Addr.add, ↓reduceIte] at hx344_0)
                                          have qi344 : (1 < (rd_L2 t323 (ji29)).length) = True := eq_true (by omega)
                                          (try rw [show ((1 : Int)).toNat = 1 from rfl] at hx344_0)
                                          replace p344 := eq_true p344
                                          replace q344 := eq_true q344
                                          go_wp2
                                          repeat (go_quiet (fail); try go_wp2)
                                          go_roundg k2
                                          case measure => have := HJ5.out; have := HK2.out; omega
                                          case rel => exact ⟨(wrap64 (x8_2 + 1)), (by first | rfl | (simp; done) | (simp [*]; done)), H', ⟨by have := HJ5.out; have := HK2.out; omega⟩, ⟨by (with_reducible repeat (first | apply Kd.V_alloc | apply Kd.V_drewN | apply Kd.V_drew)); exact HO_3.out⟩, ⟨by (with_reducible repeat (first | apply Kd.S_alloc | apply Kd.S_drewN | apply Kd.S_drew)); exact HO_4.out⟩, ⟨by repeat (first | (with_reducible first | exact HB.out | apply below_alloc | apply pw_below_drewN | apply below_drew1) | exact HB.out)⟩⟩
                                        · rw [if_neg c37] at H
                                          have c37b0 : ((wrap64 ((rd (rd_L2 t323 x8_2) 1) + (rd (rd_L2 t320 x8_2) 1))) == (rd (rd_L2 t323 (ji29)) 1)) = false := beq_eq_false_iff_ne.mpr c37
                                          have c37b1 : ((wrap64 ((rd (rd_L2 t323 x8_2) 1) + (rd (rd_L2 t320 x8_2) 1))) != (rd (rd_L2 t323 (ji29)) 1)) = true := bne_iff_ne.mpr c37
                                          obtain rfl := Option.some.inj H
                                          obtain ⟨Ao39, co39, eo39⟩ := Kd.S_slice HO_4.out
                                          subst eo39
                                          have p333 : 0 ≤ (x8_2 : Int) := of_decide_eq_true (by first | (with_reducible assumption) | assumption)
                                          have q333 : x8_2 < (t323.length : Int) := of_decide_eq_true (by first | (with_reducible assumption) | assumption)
                                          obtain ⟨ad333, A333_0, c333_0, e333, hx333_0, hl333_0, hi333_0⟩ := at_L2 (Kd.S_reads' HO_4.out).2.2 x8_2 p333 q333
                                          cases e333
                                          obtain ⟨ce333, hce333, hMe333, hcc333⟩ := Kd.S_get HO_4.out [] x8_2 p333 (by first | exact q333 | exact of_decide_eq_true (by first | (with_reducible assumption) | assumption) | (have e_ := (Kd.S_reads' HO_4.out).1; omega))
                                          obtain ⟨ve333_0, rfl, ge333_0⟩ := hMe333
                                          have hv333_0 := hcc333 0 _ rfl
                                          rw [Nat.add_zero, show ((Kd.slice 3 (Kd.int .i64))).sz = 1 from rfl, Nat.mul_one] at hv333_0
                                          replace hv333_0 := Option.some.inj (hv333_0.symm.trans hx333_0)
                                          rw [hv333_0] at ge333_0
                                          have HL333_0 := Aside0.mk (show Kd.R (Kd.int .i64) 3 _ _ _ _ (rd_L2 t323 x8_2) from ge333_0)
                                          clear hv333_0 ge333_0
                                          clear hcc333 hce333
                                          have HR333_0 := Aside0.mk hi333_0
                                          have HC333_0 := Aside0.mk hl333_0
                                          clear hi333_0 hl333_0
                                          replace p333 := eq_true p333
                                          replace q333 := eq_true q333
                                          have p334 : 0 ≤ (0 : Int) := (by omega)
                                          have q334 : 0 < ((rd_L2 t323 x8_2).length : Int) := of_decide_eq_true (by first | (with_reducible assumption) | assumption)
                                          obtain ⟨ad334, e334, hx334_0⟩ := Kd.at_int (by repeat (first | (with_reducible exact HR333_0.out) | (with_reducible refine Kd.C_alloc ?_ _) | (with_reducible refine Kd.C_drewN ?_ _) | (with_reducible refine Kd.C_drew ?_) | exact HR333_0.out)) 0 p334 q334
                                          cases e334
                                          have qi334 : (0 < (rd_L2 t323 x8_2).length) = True := eq_true (by omega)
                                          (try rw [show ((0 : Int)).toNat = 0 from rfl] at hx334_0)
                                          (try rw [Addr.add_zero'] at hx334_0)
                                          replace p334 := eq_true p334
                                          replace q334 := eq_true q334
                                          have p335 : 0 ≤ (x8_2 : Int) := of_decide_eq_true (by first | (with_reducible assumption) | assumption)
                                          have q335 : x8_2 < (t320.length : Int) := of_decide_eq_true (by first | (with_reducible assumption) | assumption)
                                          obtain ⟨ad335, A335_0, c335_0, e335, hx335_0, hl335_0, hi335_0⟩ := at_L2 (Kd.V_reads' HO_3.out).2.2 x8_2 p335 q335
                                          cases e335
                                          obtain ⟨ce335, hce335, hMe335, hcc335⟩ := Kd.V_get HO_3.out [] x8_2 p335 (by first | exact q335 | exact of_decide_eq_true (by first | (with_reducible assumption) | assumption) | (have e_ := (Kd.V_reads' HO_3.out).1; omega))
                                          obtain ⟨ua335_0, uc335_0, rfl, ul335_0, ge335_0⟩ := Kd.FK_slice_open hMe335
                                          have hv335_0 := hcc335 0 _ rfl
                                          rw [Nat.add_zero, show ((Kd.slice 3 (Kd.int .i64))).sz = 1 from rfl, Nat.mul_one] at hv335_0
                                          replace hv335_0 := Option.some.inj (hv335_0.symm.trans hx335_0)
                                          injection hv335_0 with hva_ hvn_ hvc_
                                          rw [hva_] at ge335_0
                                          rw [hvc_] at ul335_0
                                          have HL335_0 := Aside0.mk (show Kd.V (Kd.int .i64) 3 _ w.heap.size _ _ (rd_L2 t320 x8_2) from Kd.V_mk ul335_0 ge335_0)
                                          clear hva_ hvn_ hvc_ ge335_0 ul335_0
                                          clear hcc335 hce335
                                          have HR335_0 := Aside0.mk hi335_0
                                          have HC335_0 := Aside0.mk hl335_0
                                          clear hi335_0 hl335_0
                                          replace p335 := eq_true p335
                                          replace q335 := eq_true q335
                                          have p336 : 0 ≤ (0 : Int) := (by omega)
                                          have q336 : 0 < ((rd_L2 t320 x8_2).length : Int) := of_decide_eq_true (by first | (with_reducible assumption) | assumption)
                                          obtain ⟨ad336, e336, hx336_0⟩ := Kd.at_int (by repeat (first | (with_reducible exact HR335_0.out) | (with_reducible refine Kd.C_alloc ?_ _) | (with_reducible refine Kd.C_drewN ?_ _) | (with_reducible refine Kd.C_drew ?_) | exact HR335_0.out)) 0 p336 q336
                                          cases e336
                                          have qi336 : (0 < (rd_L2 t320 x8_2).length) = True := eq_true (by omega)
                                          (try rw [show ((0 : Int)).toNat = 0 from rfl] at hx336_0)
                                          (try rw [Addr.add_zero'] at hx336_0)
                                          replace p336 := eq_true p336
                                          replace q336 := eq_true q336
                                          have p337 : 0 ≤ ((ji29) : Int) := of_decide_eq_true (by first | (with_reducible assumption) | assumption)
                                          have q337 : (ji29) < (t323.length : Int) := of_decide_eq_true (by first | (with_reducible assumption) | assumption)
                                          obtain ⟨ad337, A337_0, c337_0, e337, hx337_0, hl337_0, hi337_0⟩ := at_L2 (Kd.S_reads' HO_4.out).2.2 (ji29) p337 q337
                                          obtain rfl : ad333 = ad337 := (by injection e337)
                                          obtain ⟨ce337, hce337, hMe337, hcc337⟩ := Kd.S_get HO_4.out [] (ji29) p337 (by first | exact q337 | exact of_decide_eq_true (by first | (with_reducible assumption) | assumption) | (have e_ := (Kd.S_reads' HO_4.out).1; omega))
                                          obtain ⟨ve337_0, rfl, ge337_0⟩ := hMe337
                                          have hv337_0 := hcc337 0 _ rfl
                                          rw [Nat.add_zero, show ((Kd.slice 3 (Kd.int .i64))).sz = 1 from rfl, Nat.mul_one] at hv337_0
                                          replace hv337_0 := Option.some.inj (hv337_0.symm.trans hx337_0)
                                          rw [hv337_0] at ge337_0
                                          have HL337_0 := Aside0.mk (show Kd.R (Kd.int .i64) 3 _ _ _ _ (rd_L2 t323 (ji29)) from ge337_0)
                                          clear hv337_0 ge337_0
                                          clear hcc337 hce337
                                          have HR337_0 := Aside0.mk hi337_0
                                          have HC337_0 := Aside0.mk hl337_0
                                          clear hi337_0 hl337_0
                                          replace p337 := eq_true p337
                                          replace q337 := eq_true q337
                                          have p338 : 0 ≤ (0 : Int) := (by omega)
                                          have q338 : 0 < ((rd_L2 t323 (ji29)).length : Int) := of_decide_eq_true (by first | (with_reducible assumption) | assumption)
                                          obtain ⟨ad338, e338, hx338_0⟩ := Kd.at_int (by repeat (first | (with_reducible exact HR337_0.out) | (with_reducible refine Kd.C_alloc ?_ _) | (with_reducible refine Kd.C_drewN ?_ _) | (with_reducible refine Kd.C_drew ?_) | exact HR337_0.out)) 0 p338 q338
                                          cases e338
                                          have qi338 : (0 < (rd_L2 t323 (ji29)).length) = True := eq_true (by omega)
                                          (try rw [show ((0 : Int)).toNat = 0 from rfl] at hx338_0)
                                          (try rw [Addr.add_zero'] at hx338_0)
                                          replace p338 := eq_true p338
                                          replace q338 := eq_true q338
                                          have p339 : 0 ≤ (x8_2 : Int) := of_decide_eq_true (by first | (with_reducible assumption) | assumption)
                                          have q339 : x8_2 < (t323.length : Int) := of_decide_eq_true (by first | (with_reducible assumption) | assumption)
                                          obtain ⟨ad339, A339_0, c339_0, e339, hx339_0, hl339_0, hi339_0⟩ := at_L2 (Kd.S_reads' HO_4.out).2.2 x8_2 p339 q339
                                          obtain rfl : ad333 = ad339 := (by injection e339)
                                          obtain ⟨ce339, hce339, hMe339, hcc339⟩ := Kd.S_get HO_4.out [] x8_2 p339 (by first | exact q339 | exact of_decide_eq_true (by first | (with_reducible assumption) | assumption) | (have e_ := (Kd.S_reads' HO_4.out).1; omega))
                                          obtain ⟨ve339_0, rfl, ge339_0⟩ := hMe339
                                          have hv339_0 := hcc339 0 _ rfl
                                          rw [Nat.add_zero, show ((Kd.slice 3 (Kd.int .i64))).sz = 1 from rfl, Nat.mul_one] at hv339_0
                                          replace hv339_0 := Option.some.inj (hv339_0.symm.trans hx339_0)
                                          rw [hv339_0] at ge339_0
                                          have HL339_0 := Aside0.mk (show Kd.R (Kd.int .i64) 3 _ _ _ _ (rd_L2 t323 x8_2) from ge339_0)
                                          clear hv339_0 ge339_0
                                          clear hcc339 hce339
                                          have HR339_0 := Aside0.mk hi339_0
                                          have HC339_0 := Aside0.mk hl339_0
                                          clear hi339_0 hl339_0
                                          replace p339 := eq_true p339
                                          replace q339 := eq_true q339
                                          have ea_ := Option.some.inj (hx333_0.symm.trans hx339_0)
                                          injection ea_ with ea_ en_ ec_
                                          subst ea_
                                          subst ec_
                                          clear en_
                                          have p340 : 0 ≤ (1 : Int) := (by omega)
                                          have q340 : 1 < ((rd_L2 t323 x8_2).length : Int) := of_decide_eq_true (by first | (with_reducible assumption) | assumption)
                                          obtain ⟨ad340, e340, hx340_0⟩ := Kd.at_int (by repeat (first | (with_reducible exact HR339_0.out) | (with_reducible refine Kd.C_alloc ?_ _) | (with_reducible refine Kd.C_drewN ?_ _) | (with_reducible refine Kd.C_drew ?_) | exact HR339_0.out)) 1 p340 q340
                                          cases e340
                                          (try simp only [show (1 : Int).toNat = 1 from rfl, Nat.reduceMul, Nat.reduceEqDiff, Go.Addr.add, ↓reduceIte] at hx340_0)
                                          have qi340 : (1 < (rd_L2 t323 x8_2).length) = True := eq_true (by omega)
                                          (try rw [show ((1 : Int)).toNat = 1 from rfl] at hx340_0)
                                          replace p340 := eq_true p340
                                          replace q340 := eq_true q340
                                          have p341 : 0 ≤ (x8_2 : Int) := of_decide_eq_true (by first | (with_reducible assumption) | assumption)
                                          have q341 : x8_2 < (t320.length : Int) := of_decide_eq_true (by first | (with_reducible assumption) | assumption)
                                          obtain ⟨ad341, A341_0, c341_0, e341, hx341_0, hl341_0, hi341_0⟩ := at_L2 (Kd.V_reads' HO_3.out).2.2 x8_2 p341 q341
                                          obtain rfl : ad335 = ad341 := (by injection e341)
                                          obtain ⟨ce341, hce341, hMe341, hcc341⟩ := Kd.V_get HO_3.out [] x8_2 p341 (by first | exact q341 | exact of_decide_eq_true (by first | (with_reducible assumption) | assumption) | (have e_ := (Kd.V_reads' HO_3.out).1; omega))
                                          obtain ⟨ua341_0, uc341_0, rfl, ul341_0, ge341_0⟩ := Kd.FK_slice_open hMe341
                                          have hv341_0 := hcc341 0 _ rfl
                                          rw [Nat.add_zero, show ((Kd.slice 3 (Kd.int .i64))).sz = 1 from rfl, Nat.mul_one] at hv341_0
                                          replace hv341_0 := Option.some.inj (hv341_0.symm.trans hx341_0)
                                          injection hv341_0 with hva_ hvn_ hvc_
                                          rw [hva_] at ge341_0
                                          rw [hvc_] at ul341_0
                                          have HL341_0 := Aside0.mk (show Kd.V (Kd.int .i64) 3 _ w.heap.size _ _ (rd_L2 t320 x8_2) from Kd.V_mk ul341_0 ge341_0)
                                          clear hva_ hvn_ hvc_ ge341_0 ul341_0
                                          clear hcc341 hce341
                                          have HR341_0 := Aside0.mk hi341_0
                                          have HC341_0 := Aside0.mk hl341_0
                                          clear hi341_0 hl341_0
                                          replace p341 := eq_true p341
                                          replace q341 := eq_true q341
                                          have ea_ := Option.some.inj (hx335_0.symm.trans hx341_0)
                                          injection ea_ with ea_ en_ ec_
                                          subst ea_
                                          subst ec_
                                          clear en_
                                          have p342 : 0 ≤ (1 : Int) := (by omega)
                                          have q342 : 1 < ((rd_L2 t320 x8_2).length : Int) := of_decide_eq_true (by first | (with_reducible assumption) | assumption)
                                          obtain ⟨ad342, e342, hx342_0⟩ := Kd.at_int (by repeat (first | (with_reducible exact HR341_0.out) | (with_reducible refine Kd.C_alloc ?_ _) | (with_reducible refine Kd.C_drewN ?_ _) | (with_reducible refine Kd.C_drew ?_) | exact HR341_0.out)) 1 p342 q342
                                          cases e342
                                          (try simp only [show (1 : Int).toNat = 1 from rfl, Nat.reduceMul, Nat.reduceEqDiff, Go.Addr.add, ↓reduceIte] at hx342_0)
                                          have qi342 : (1 < (rd_L2 t320 x8_2).length) = True := eq_true (by omega)
                                          (try rw [show ((1 : Int)).toNat = 1 from rfl] at hx342_0)
                                          replace p342 := eq_true p342
                                          replace q342 := eq_true q342
                                          have p343 : 0 ≤ ((ji29) : Int) := of_decide_eq_true (by first | (with_reducible assumption) | assumption)
                                          have q343 : (ji29) < (t323.length : Int) := of_decide_eq_true (by first | (with_reducible assumption) | assumption)
                                          obtain ⟨ad343, A343_0, c343_0, e343, hx343_0, hl343_0, hi343_0⟩ := at_L2 (Kd.S_reads' HO_4.out).2.2 (ji29) p343 q343
                                          obtain rfl : ad333 = ad343 := (by injection e343)
                                          obtain ⟨ce343, hce343, hMe343, hcc343⟩ := Kd.S_get HO_4.out [] (ji29) p343 (by first | exact q343 | exact of_decide_eq_true (by first | (with_reducible assumption) | assumption) | (have e_ := (Kd.S_reads' HO_4.out).1; omega))
                                          obtain ⟨ve343_0, rfl, ge343_0⟩ := hMe343
                                          have hv343_0 := hcc343 0 _ rfl
                                          rw [Nat.add_zero, show ((Kd.slice 3 (Kd.int .i64))).sz = 1 from rfl, Nat.mul_one] at hv343_0
                                          replace hv343_0 := Option.some.inj (hv343_0.symm.trans hx343_0)
                                          rw [hv343_0] at ge343_0
                                          have HL343_0 := Aside0.mk (show Kd.R (Kd.int .i64) 3 _ _ _ _ (rd_L2 t323 (ji29)) from ge343_0)
                                          clear hv343_0 ge343_0
                                          clear hcc343 hce343
                                          have HR343_0 := Aside0.mk hi343_0
                                          have HC343_0 := Aside0.mk hl343_0
                                          clear hi343_0 hl343_0
                                          replace p343 := eq_true p343
                                          replace q343 := eq_true q343
                                          have ea_ := Option.some.inj (hx337_0.symm.trans hx343_0)
                                          injection ea_ with ea_ en_ ec_
                                          subst ea_
                                          subst ec_
                                          clear en_
                                          have p344 : 0 ≤ (1 : Int) := (by omega)
                                          have q344 : 1 < ((rd_L2 t323 (ji29)).length : Int) := of_decide_eq_true (by first | (with_reducible assumption) | assumption)
                                          obtain ⟨ad344, e344, hx344_0⟩ := Kd.at_int (by repeat (first | (with_reducible exact HR343_0.out) | (with_reducible refine Kd.C_alloc ?_ _) | (with_reducible refine Kd.C_drewN ?_ _) | (with_reducible refine Kd.C_drew ?_) | exact HR343_0.out)) 1 p344 q344
                                          cases e344
                                          (try simp only [show (1 : Int).toNat = 1 from rfl, Nat.reduceMul, Nat.reduceEqDiff, Go.Addr.add, ↓reduceIte] at hx344_0)
                                          have qi344 : (1 < (rd_L2 t323 (ji29)).length) = True := eq_true (by omega)
                                          (try rw [show ((1 : Int)).toNat = 1 from rfl] at hx344_0)
                                          replace p344 := eq_true p344
                                          replace q344 := eq_true q344
                                          go_wp2
                                          repeat (go_quiet (fail); try go_wp2)
                                          go_ret
                                          exact ⟨by first | rfl | (simp [errW_none, errW_some] <;> rfl) | (simp only [← hji29]; first | rfl | (simp [errW_none, errW_some] <;> rfl)) | (simp [*, errW_none, errW_some] <;> rfl), by repeat (first | (with_reducible first | exact HB.out | apply below_alloc | apply pw_below_drewN | apply below_drew1) | exact HB.out)⟩
                                      · rw [if_neg c36] at H
                                        exact absurd H (by simp)
                                    · rw [if_neg c35] at H
                                      exact absurd H (by simp)
                                  · rw [if_neg c34] at H
                                    exact absurd H (by simp)
                                · rw [if_neg c33] at H
                                  have c33b0 : ((wrap64 ((rd (rd_L2 t323 x8_2) 0) + (rd (rd_L2 t320 x8_2) 0))) == (rd (rd_L2 t323 (ji29)) 0)) = false := beq_eq_false_iff_ne.mpr c33
                                  have c33b1 : ((wrap64 ((rd (rd_L2 t323 x8_2) 0) + (rd (rd_L2 t320 x8_2) 0))) != (rd (rd_L2 t323 (ji29)) 0)) = true := bne_iff_ne.mpr c33
                                  obtain rfl := Option.some.inj H
                                  obtain ⟨Ao40, co40, eo40⟩ := Kd.S_slice HO_4.out
                                  subst eo40
                                  have p333 : 0 ≤ (x8_2 : Int) := of_decide_eq_true (by first | (with_reducible assumption) | assumption)
                                  have q333 : x8_2 < (t323.length : Int) := of_decide_eq_true (by first | (with_reducible assumption) | assumption)
                                  obtain ⟨ad333, A333_0, c333_0, e333, hx333_0, hl333_0, hi333_0⟩ := at_L2 (Kd.S_reads' HO_4.out).2.2 x8_2 p333 q333
                                  cases e333
                                  obtain ⟨ce333, hce333, hMe333, hcc333⟩ := Kd.S_get HO_4.out [] x8_2 p333 (by first | exact q333 | exact of_decide_eq_true (by first | (with_reducible assumption) | assumption) | (have e_ := (Kd.S_reads' HO_4.out).1; omega))
                                  obtain ⟨ve333_0, rfl, ge333_0⟩ := hMe333
                                  have hv333_0 := hcc333 0 _ rfl
                                  rw [Nat.add_zero, show ((Kd.slice 3 (Kd.int .i64))).sz = 1 from rfl, Nat.mul_one] at hv333_0
                                  replace hv333_0 := Option.some.inj (hv333_0.symm.trans hx333_0)
                                  rw [hv333_0] at ge333_0
                                  have HL333_0 := Aside0.mk (show Kd.R (Kd.int .i64) 3 _ _ _ _ (rd_L2 t323 x8_2) from ge333_0)
                                  clear hv333_0 ge333_0
                                  clear hcc333 hce333
                                  have HR333_0 := Aside0.mk hi333_0
                                  have HC333_0 := Aside0.mk hl333_0
                                  clear hi333_0 hl333_0
                                  replace p333 := eq_true p333
                                  replace q333 := eq_true q333
                                  have p334 : 0 ≤ (0 : Int) := (by omega)
                                  have q334 : 0 < ((rd_L2 t323 x8_2).length : Int) := of_decide_eq_true (by first | (with_reducible assumption) | assumption)
                                  obtain ⟨ad334, e334, hx334_0⟩ := Kd.at_int (by repeat (first | (with_reducible exact HR333_0.out) | (with_reducible refine Kd.C_alloc ?_ _) | (with_reducible refine Kd.C_drewN ?_ _) | (with_reducible refine Kd.C_drew ?_) | exact HR333_0.out)) 0 p334 q334
                                  cases e334
                                  have qi334 : (0 < (rd_L2 t323 x8_2).length) = True := eq_true (by omega)
                                  (try rw [show ((0 : Int)).toNat = 0 from rfl] at hx334_0)
                                  (try rw [Addr.add_zero'] at hx334_0)
                                  replace p334 := eq_true p334
                                  replace q334 := eq_true q334
                                  have p335 : 0 ≤ (x8_2 : Int) := of_decide_eq_true (by first | (with_reducible assumption) | assumption)
                                  have q335 : x8_2 < (t320.length : Int) := of_decide_eq_true (by first | (with_reducible assumption) | assumption)
                                  obtain ⟨ad335, A335_0, c335_0, e335, hx335_0, hl335_0, hi335_0⟩ := at_L2 (Kd.V_reads' HO_3.out).2.2 x8_2 p335 q335
                                  cases e335
                                  obtain ⟨ce335, hce335, hMe335, hcc335⟩ := Kd.V_get HO_3.out [] x8_2 p335 (by first | exact q335 | exact of_decide_eq_true (by first | (with_reducible assumption) | assumption) | (have e_ := (Kd.V_reads' HO_3.out).1; omega))
                                  obtain ⟨ua335_0, uc335_0, rfl, ul335_0, ge335_0⟩ := Kd.FK_slice_open hMe335
                                  have hv335_0 := hcc335 0 _ rfl
                                  rw [Nat.add_zero, show ((Kd.slice 3 (Kd.int .i64))).sz = 1 from rfl, Nat.mul_one] at hv335_0
                                  replace hv335_0 := Option.some.inj (hv335_0.symm.trans hx335_0)
                                  injection hv335_0 with hva_ hvn_ hvc_
                                  rw [hva_] at ge335_0
                                  rw [hvc_] at ul335_0
                                  have HL335_0 := Aside0.mk (show Kd.V (Kd.int .i64) 3 _ w.heap.size _ _ (rd_L2 t320 x8_2) from Kd.V_mk ul335_0 ge335_0)
                                  clear hva_ hvn_ hvc_ ge335_0 ul335_0
                                  clear hcc335 hce335
                                  have HR335_0 := Aside0.mk hi335_0
                                  have HC335_0 := Aside0.mk hl335_0
                                  clear hi335_0 hl335_0
                                  replace p335 := eq_true p335
                                  replace q335 := eq_true q335
                                  have p336 : 0 ≤ (0 : Int) := (by omega)
                                  have q336 : 0 < ((rd_L2 t320 x8_2).length : Int) := of_decide_eq_true (by first | (with_reducible assumption) | assumption)
                                  obtain ⟨ad336, e336, hx336_0⟩ := Kd.at_int (by repeat (first | (with_reducible exact HR335_0.out) | (with_reducible refine Kd.C_alloc ?_ _) | (with_reducible refine Kd.C_drewN ?_ _) | (with_reducible refine Kd.C_drew ?_) | exact HR335_0.out)) 0 p336 q336
                                  cases e336
                                  have qi336 : (0 < (rd_L2 t320 x8_2).length) = True := eq_true (by omega)
                                  (try rw [show ((0 : Int)).toNat = 0 from rfl] at hx336_0)
                                  (try rw [Addr.add_zero'] at hx336_0)
                                  replace p336 := eq_true p336
                                  replace q336 := eq_true q336
                                  have p337 : 0 ≤ ((ji29) : Int) := of_decide_eq_true (by first | (with_reducible assumption) | assumption)
                                  have q337 : (ji29) < (t323.length : Int) := of_decide_eq_true (by first | (with_reducible assumption) | assumption)
                                  obtain ⟨ad337, A337_0, c337_0, e337, hx337_0, hl337_0, hi337_0⟩ := at_L2 (Kd.S_reads' HO_4.out).2.2 (ji29) p337 q337
                                  obtain rfl : ad333 = ad337 := (by injection e337)
                                  obtain ⟨ce337, hce337, hMe337, hcc337⟩ := Kd.S_get HO_4.out [] (ji29) p337 (by first | exact q337 | exact of_decide_eq_true (by first | (with_reducible assumption) | assumption) | (have e_ := (Kd.S_reads' HO_4.out).1; omega))
                                  obtain ⟨ve337_0, rfl, ge337_0⟩ := hMe337
                                  have hv337_0 := hcc337 0 _ rfl
                                  rw [Nat.add_zero, show ((Kd.slice 3 (Kd.int .i64))).sz = 1 from rfl, Nat.mul_one] at hv337_0
                                  replace hv337_0 := Option.some.inj (hv337_0.symm.trans hx337_0)
                                  rw [hv337_0] at ge337_0
                                  have HL337_0 := Aside0.mk (show Kd.R (Kd.int .i64) 3 _ _ _ _ (rd_L2 t323 (ji29)) from ge337_0)
                                  clear hv337_0 ge337_0
                                  clear hcc337 hce337
                                  have HR337_0 := Aside0.mk hi337_0
                                  have HC337_0 := Aside0.mk hl337_0
                                  clear hi337_0 hl337_0
                                  replace p337 := eq_true p337
                                  replace q337 := eq_true q337
                                  have p338 : 0 ≤ (0 : Int) := (by omega)
                                  have q338 : 0 < ((rd_L2 t323 (ji29)).length : Int) := of_decide_eq_true (by first | (with_reducible assumption) | assumption)
                                  obtain ⟨ad338, e338, hx338_0⟩ := Kd.at_int (by repeat (first | (with_reducible exact HR337_0.out) | (with_reducible refine Kd.C_alloc ?_ _) | (with_reducible refine Kd.C_drewN ?_ _) | (with_reducible refine Kd.C_drew ?_) | exact HR337_0.out)) 0 p338 q338
                                  cases e338
                                  have qi338 : (0 < (rd_L2 t323 (ji29)).length) = True := eq_true (by omega)
                                  (try rw [show ((0 : Int)).toNat = 0 from rfl] at hx338_0)
                                  (try rw [Addr.add_zero'] at hx338_0)
                                  replace p338 := eq_true p338
                                  replace q338 := eq_true q338
                                  go_wp2
                                  repeat (go_quiet (fail); try go_wp2)
                                  go_ret
                                  exact ⟨by first | rfl | (simp [errW_none, errW_some] <;> rfl) | (simp only [← hji29]; first | rfl | (simp [errW_none, errW_some] <;> rfl)) | (simp [*, errW_none, errW_some] <;> rfl), by repeat (first | (with_reducible first | exact HB.out | apply below_alloc | apply pw_below_drewN | apply below_drew1) | exact HB.out)⟩
                              · rw [if_neg c32] at H
                                exact absurd H (by simp)
                            · rw [if_neg c31] at H
                              exact absurd H (by simp)
                          · rw [if_neg c30] at H
                            exact absurd H (by simp)
                        · rw [if_neg c28] at H
                          exact absurd H (by simp)
                      · rw [if_neg c27] at H
                        exact absurd H (by simp)
                    · rw [if_neg c26] at H
                      exact absurd H (by simp)
                  · rw [if_neg c25] at H
                    exact absurd H (by simp)
              · rw [if_neg c23] at H
                have c23b0 : decide (x8_2 < (t320.length : Int)) = false := decide_eq_false c23
                clear c23
                by_cases c41 : (t323.length : Int) = (t320.length : Int)
                · rw [if_pos c41] at H
                  have c41b0 : ((t323.length : Int) == (t320.length : Int)) = true := beq_iff_eq.mpr c41
                  have c41b1 : ((t323.length : Int) != (t320.length : Int)) = false := bne_eq_false_iff_eq.mpr c41
                  have c41b2 : (t323.length == t320.length) = true := by first | simpa using c41 | (simp at c41 ⊢; omega)
                  clear c41
                  by_cases c42 : 0 < (t323.length : Int)
                  · rw [if_pos c42] at H
                    have c42b0 : decide (0 < (t323.length : Int)) = true := decide_eq_true c42
                    have c42b1 : decide (0 < t323.length) = true := decide_eq_true (by omega)
                    clear c42
                    by_cases c43 : 0 < ((rd_L2 t323 0).length : Int)
                    · rw [if_pos c43] at H
                      have c43b0 : decide (0 < ((rd_L2 t323 0).length : Int)) = true := decide_eq_true c43
                      have c43b1 : decide (0 < (rd_L2 t323 0).length) = true := decide_eq_true (by omega)
                      clear c43
                      by_cases c44 : (rd (rd_L2 t323 0) 0) = 0
                      · rw [if_pos c44] at H
                        have c44b0 : ((rd (rd_L2 t323 0) 0) == 0) = true := beq_iff_eq.mpr c44
                        have c44b1 : ((rd (rd_L2 t323 0) 0) != 0) = false := bne_eq_false_iff_eq.mpr c44
                        clear c44
                        by_cases c45 : 1 < ((rd_L2 t323 0).length : Int)
                        · rw [if_pos c45] at H
                          have c45b0 : decide (1 < ((rd_L2 t323 0).length : Int)) = true := decide_eq_true c45
                          have c45b1 : decide (1 < (rd_L2 t323 0).length) = true := decide_eq_true (by omega)
                          clear c45
                          obtain rfl := Option.some.inj H
                          obtain ⟨Ao46, co46, eo46⟩ := Kd.S_slice HO_4.out
                          subst eo46
                          have p345 : 0 ≤ (0 : Int) := (by omega)
                          have q345 : 0 < (t323.length : Int) := of_decide_eq_true (by first | (with_reducible assumption) | assumption)
                          obtain ⟨ad345, A345_0, c345_0, e345, hx345_0, hl345_0, hi345_0⟩ := at_L2 (Kd.S_reads' HO_4.out).2.2 0 p345 q345
                          cases e345
                          obtain ⟨ce345, hce345, hMe345, hcc345⟩ := Kd.S_get HO_4.out [] 0 p345 (by first | exact q345 | exact of_decide_eq_true (by first | (with_reducible assumption) | assumption) | (have e_ := (Kd.S_reads' HO_4.out).1; omega))
                          obtain ⟨ve345_0, rfl, ge345_0⟩ := hMe345
                          have hv345_0 := hcc345 0 _ rfl
                          rw [Nat.add_zero, show ((Kd.slice 3 (Kd.int .i64))).sz = 1 from rfl, Nat.mul_one] at hv345_0
                          replace hv345_0 := Option.some.inj (hv345_0.symm.trans hx345_0)
                          rw [hv345_0] at ge345_0
                          have HL345_0 := Aside0.mk (show Kd.R (Kd.int .i64) 3 _ _ _ _ (rd_L2 t323 0) from ge345_0)
                          clear hv345_0 ge345_0
                          clear hcc345 hce345
                          have qi345 : (0 < t323.length) = True := eq_true (by omega)
                          (try rw [show ((0 : Int)).toNat = 0 from rfl] at hx345_0)
                          (try rw [Addr.add_zero'] at hx345_0)
                          have HR345_0 := Aside0.mk hi345_0
                          have HC345_0 := Aside0.mk hl345_0
                          clear hi345_0 hl345_0
                          replace p345 := eq_true p345
                          replace q345 := eq_true q345
                          have p346 : 0 ≤ (0 : Int) := (by omega)
                          have q346 : 0 < ((rd_L2 t323 0).length : Int) := of_decide_eq_true (by first | (with_reducible assumption) | assumption)
                          obtain ⟨ad346, e346, hx346_0⟩ := Kd.at_int (by repeat (first | (with_reducible exact HR345_0.out) | (with_reducible refine Kd.C_alloc ?_ _) | (with_reducible refine Kd.C_drewN ?_ _) | (with_reducible refine Kd.C_drew ?_) | exact HR345_0.out)) 0 p346 q346
                          cases e346
                          have qi346 : (0 < (rd_L2 t323 0).length) = True := eq_true (by omega)
                          (try rw [show ((0 : Int)).toNat = 0 from rfl] at hx346_0)
                          (try rw [Addr.add_zero'] at hx346_0)
                          replace p346 := eq_true p346
                          replace q346 := eq_true q346
                          have p347 : 0 ≤ (0 : Int) := (by omega)
                          have q347 : 0 < (t323.length : Int) := of_decide_eq_true (by first | (with_reducible assumption) | assumption)
                          obtain ⟨ad347, A347_0, c347_0, e347, hx347_0, hl347_0, hi347_0⟩ := at_L2 (Kd.S_reads' HO_4.out).2.2 0 p347 q347
                          obtain rfl : ad345 = ad347 := (by injection e347)
                          obtain ⟨ce347, hce347, hMe347, hcc347⟩ := Kd.S_get HO_4.out [] 0 p347 (by first | exact q347 | exact of_decide_eq_true (by first | (with_reducible assumption) | assumption) | (have e_ := (Kd.S_reads' HO_4.out).1; omega))
                          obtain ⟨ve347_0, rfl, ge347_0⟩ := hMe347
                          have hv347_0 := hcc347 0 _ rfl
                          rw [Nat.add_zero, show ((Kd.slice 3 (Kd.int .i64))).sz = 1 from rfl, Nat.mul_one] at hv347_0
                          replace hv347_0 := Option.some.inj (hv347_0.symm.trans hx347_0)
                          rw [hv347_0] at ge347_0
                          have HL347_0 := Aside0.mk (show Kd.R (Kd.int .i64) 3 _ _ _ _ (rd_L2 t323 0) from ge347_0)
                          clear hv347_0 ge347_0
                          clear hcc347 hce347
                          have qi347 : (0 < t323.length) = True := eq_true (by omega)
                          (try rw [show ((0 : Int)).toNat = 0 from rfl] at hx347_0)
                          (try rw [Addr.add_zero'] at hx347_0)
                          have HR347_0 := Aside0.mk hi347_0
                          have HC347_0 := Aside0.mk hl347_0
                          clear hi347_0 hl347_0
                          replace p347 := eq_true p347
                          replace q347 := eq_true q347
                          have ea_ := Option.some.inj (hx345_0.symm.trans hx347_0)
                          injection ea_ with ea_ en_ ec_
                          subst ea_
                          subst ec_
                          clear en_
                          have p348 : 0 ≤ (1 : Int) := (by omega)
                          have q348 : 1 < ((rd_L2 t323 0).length : Int) := of_decide_eq_true (by first | (with_reducible assumption) | assumption)
                          obtain ⟨ad348, e348, hx348_0⟩ := Kd.at_int (by repeat (first | (with_reducible exact HR347_0.out) | (with_reducible refine Kd.C_alloc ?_ _) | (with_reducible refine Kd.C_drewN ?_ _) | (with_reducible refine Kd.C_drew ?_) | exact HR347_0.out)) 1 p348 q348
                          cases e348
                          (try simp only [show (1 : Int).toNat = 1 from rfl, Nat.reduceMul, Nat.reduceEqDiff, Go.Addr.add, ↓reduceIte] at hx348_0)
                          have qi348 : (1 < (rd_L2 t323 0).length) = True := eq_true (by omega)
                          (try rw [show ((1 : Int)).toNat = 1 from rfl] at hx348_0)
                          replace p348 := eq_true p348
                          replace q348 := eq_true q348
                          go_wp2
                          repeat (go_quiet (fail); try go_wp2)
                          go_ret
                          exact ⟨by first | rfl | (simp [errW_none, errW_some] <;> rfl) | (simp [*, errW_none, errW_some] <;> rfl), by repeat (first | (with_reducible first | exact HB.out | apply below_alloc | apply pw_below_drewN | apply below_drew1) | exact HB.out)⟩
                        · rw [if_neg c45] at H
                          exact absurd H (by simp)
                      · rw [if_neg c44] at H
                        have c44b0 : ((rd (rd_L2 t323 0) 0) == 0) = false := beq_eq_false_iff_ne.mpr c44
                        have c44b1 : ((rd (rd_L2 t323 0) 0) != 0) = true := bne_iff_ne.mpr c44
                        obtain rfl := Option.some.inj H
                        obtain ⟨Ao47, co47, eo47⟩ := Kd.S_slice HO_4.out
                        subst eo47
                        have p345 : 0 ≤ (0 : Int) := (by omega)
                        have q345 : 0 < (t323.length : Int) := of_decide_eq_true (by first | (with_reducible assumption) | assumption)
                        obtain ⟨ad345, A345_0, c345_0, e345, hx345_0, hl345_0, hi345_0⟩ := at_L2 (Kd.S_reads' HO_4.out).2.2 0 p345 q345
                        cases e345
                        obtain ⟨ce345, hce345, hMe345, hcc345⟩ := Kd.S_get HO_4.out [] 0 p345 (by first | exact q345 | exact of_decide_eq_true (by first | (with_reducible assumption) | assumption) | (have e_ := (Kd.S_reads' HO_4.out).1; omega))
                        obtain ⟨ve345_0, rfl, ge345_0⟩ := hMe345
                        have hv345_0 := hcc345 0 _ rfl
                        rw [Nat.add_zero, show ((Kd.slice 3 (Kd.int .i64))).sz = 1 from rfl, Nat.mul_one] at hv345_0
                        replace hv345_0 := Option.some.inj (hv345_0.symm.trans hx345_0)
                        rw [hv345_0] at ge345_0
                        have HL345_0 := Aside0.mk (show Kd.R (Kd.int .i64) 3 _ _ _ _ (rd_L2 t323 0) from ge345_0)
                        clear hv345_0 ge345_0
                        clear hcc345 hce345
                        have qi345 : (0 < t323.length) = True := eq_true (by omega)
                        (try rw [show ((0 : Int)).toNat = 0 from rfl] at hx345_0)
                        (try rw [Addr.add_zero'] at hx345_0)
                        have HR345_0 := Aside0.mk hi345_0
                        have HC345_0 := Aside0.mk hl345_0
                        clear hi345_0 hl345_0
                        replace p345 := eq_true p345
                        replace q345 := eq_true q345
                        have p346 : 0 ≤ (0 : Int) := (by omega)
                        have q346 : 0 < ((rd_L2 t323 0).length : Int) := of_decide_eq_true (by first | (with_reducible assumption) | assumption)
                        obtain ⟨ad346, e346, hx346_0⟩ := Kd.at_int (by repeat (first | (with_reducible exact HR345_0.out) | (with_reducible refine Kd.C_alloc ?_ _) | (with_reducible refine Kd.C_drewN ?_ _) | (with_reducible refine Kd.C_drew ?_) | exact HR345_0.out)) 0 p346 q346
                        cases e346
                        have qi346 : (0 < (rd_L2 t323 0).length) = True := eq_true (by omega)
                        (try rw [show ((0 : Int)).toNat = 0 from rfl] at hx346_0)
                        (try rw [Addr.add_zero'] at hx346_0)
                        replace p346 := eq_true p346
                        replace q346 := eq_true q346
                        go_wp2
                        repeat (go_quiet (fail); try go_wp2)
                        go_ret
                        exact ⟨by first | rfl | (simp [errW_none, errW_some] <;> rfl) | (simp [*, errW_none, errW_some] <;> rfl), by repeat (first | (with_reducible first | exact HB.out | apply below_alloc | apply pw_below_drewN | apply below_drew1) | exact HB.out)⟩
                    · rw [if_neg c43] at H
                      exact absurd H (by simp)
                  · rw [if_neg c42] at H
                    exact absurd H (by simp)
                · rw [if_neg c41] at H
                  have c41b0 : ((t323.length : Int) == (t320.length : Int)) = false := beq_eq_false_iff_ne.mpr c41
                  have c41b1 : ((t323.length : Int) != (t320.length : Int)) = true := bne_iff_ne.mpr c41
                  have c41b2 : (t323.length == t320.length) = false := by first | simpa using c41 | (simp at c41 ⊢; omega)
                  obtain rfl := Option.some.inj H
                  obtain ⟨Ao48, co48, eo48⟩ := Kd.S_slice HO_4.out
                  subst eo48
                  go_wp2
                  repeat (go_quiet (fail); try go_wp2)
                  go_ret
                  exact ⟨by first | rfl | (simp [errW_none, errW_some] <;> rfl) | (simp [*, errW_none, errW_some] <;> rfl), by repeat (first | (with_reducible first | exact HB.out | apply below_alloc | apply pw_below_drewN | apply below_drew1) | exact HB.out)⟩

/-- THE ONE PURE STATEMENT of laws_FnCorners: yours. -/
def laws_FnCorners.Pure : Prop := ∀ (l0 : List Int), l0.length ≤ maxLen → l0.length * 1 ≤ 140737488351232 → (∀ x ∈ l0, (Lit.int .u8 x).wf = true) → ∃ k, laws_FnCorners.f k l0 = some true
theorem laws_FnCorners.walk (P : laws_FnCorners.Pure) (a0 : Option Addr) (len0 cap0 : Nat) (z0 : List Int) (w : World) (w0 : (a0 = none ∧ len0 = 0 ∧ cap0 = 0 ∧ z0 = []) ∨ ∃ x, a0 = some x ∧ len0 ≤ cap0 ∧ cap0 ≤ maxLen ∧ z0.length = cap0 ∧ (∀ i, i < z0.length → w.cell? (x.add i) = some (.int .u8 (z0.getD i 0))) ∧ ∀ n ∈ z0, (Lit.int .u8 n).wf = true) (y0 : len0 * 1 ≤ 140737488351232) :
    Calls Try.prog 3 #[.slice a0 len0 cap0] w fun e w' => e = .returned (.bool true) ∧ Below w.heap.size w w' := by
  obtain ⟨l0, rfl, hr0, hm0, hw0, hc0⟩ := ReadsInt.ofRowC w0
  obtain ⟨k, h⟩ := P l0 hm0 y0 hw0
  refine (laws_FnCorners.calls k _ _ l0 true w (Kd.C_of_reads (d := (0 : Int)) (h1 := fun _ => rfl) hr0) hc0 h).mono ?_
  rintro e w' ⟨rfl, hd⟩
  exact ⟨rfl, hd⟩

end Go.Proofs.Ytpopdfffcokilaa.PFnCorners
