-- Made by hprint.py (wip/) out of the translation; not trusted: Lean checks it.
import Derived.Test.YtfigjcnhchpobaaPFnSolidCountx0
import Derived.Test.YtfigjcnhchpobaaPFnSolidCountx7
import Derived.Test.YtfigjcnhchpobaaPFnSolidCountx8
namespace Go.Proofs.Ytfigjcnhchpobaa.PFnSolidCount
open Go.RowKit Go.Proofs.YtfigjcnhchpobaaW.PrintWords Go.Proofs.YtfigjcnhchpobaaW.PrintLast Go.Proofs.YtfigjcnhchpobaaW.PrintMore
attribute [local go_sem] max2_int min2_int max_two min_two max_three min_three max_four min_four   -- for this text's walks alone
set_option linter.unusedVariables false
set_option linter.unusedSimpArgs false

/-! ### impl_firstNamed: function 17 -/
def impl_firstNamed.l0 : Nat → List Int → List Int → Int → Option (List Int)
  | 0, _, _, _ => none
  | k + 1, x0, x3, x8 => if x8 < 256 then ((some (([wrap64 (Int.tdiv x8 64), Int.tmod (wrap64 (Int.tdiv x8 16)) 4, Int.tmod (wrap64 (Int.tdiv x8 4)) 4, Int.tmod x8 4] : List Int) : List Int)).bind fun y222 => ((impl_isOrder.f k y222).bind fun t225 => (if t225 = true then ((impl_named.f k x0 y222).bind fun t226 => ((slices_Compare_int_int.f k t226 x3).bind fun t229 => (if t229 < 0 then (impl_firstNamed.l0 k x0 t226 (wrap64 (x8 + 1))) else (impl_firstNamed.l0 k x0 x3 (wrap64 (x8 + 1)))))) else (impl_firstNamed.l0 k x0 x3 (wrap64 (x8 + 1)))))) else ((slices_Clone_int_int.f x3).bind fun t219 => (some t219))
def impl_firstNamed.f (k : Nat) (l0 : List Int) : Option (List Int) := impl_firstNamed.l0 k l0 l0 0
theorem impl_firstNamed.mono_l : ∀ k, (∀ y0 y1 y2, LeO (impl_firstNamed.l0 k y0 y1 y2) (impl_firstNamed.l0 (k + 1) y0 y1 y2))
  | 0 => fun _ _ _ r h => by simp [impl_firstNamed.l0] at h
  | k + 1 => by
    have ih0 := impl_firstNamed.mono_l k
    · intro y0 y1 y2
      unfold impl_firstNamed.l0
      repeat' first
      | (with_reducible exact ih0 _ _ _)
      | (with_reducible exact impl_isOrder.mono _ _)
      | (with_reducible exact impl_named.mono _ _ _)
      | (with_reducible exact slices_Compare_int_int.mono _ _ _)
      | (with_reducible exact LeO.refl _)
      | (with_reducible exact LeO.none _)
      | (with_reducible refine LeO.ite ?_ ?_)
      | (with_reducible refine LeO.bind ?_ (fun _ => ?_))
      | exact ih0 _ _ _
      | exact impl_isOrder.mono _ _
      | exact impl_named.mono _ _ _
      | exact slices_Compare_int_int.mono _ _ _
      | exact LeO.none _
      | refine LeO.ite ?_ ?_
      | refine LeO.bind ?_ (fun _ => ?_)
theorem impl_firstNamed.mono : ∀ a0 k, LeO (impl_firstNamed.f k a0) (impl_firstNamed.f (k + 1) a0) := by
  intro a0 k
  have ih0 := impl_firstNamed.mono_l k
  unfold impl_firstNamed.f
  repeat' first
      | (with_reducible exact ih0 _ _ _)
      | (with_reducible exact impl_isOrder.mono _ _)
      | (with_reducible exact impl_named.mono _ _ _)
      | (with_reducible exact slices_Compare_int_int.mono _ _ _)
      | (with_reducible exact LeO.refl _)
      | (with_reducible exact LeO.none _)
      | (with_reducible refine LeO.ite ?_ ?_)
      | (with_reducible refine LeO.bind ?_ (fun _ => ?_))
      | exact ih0 _ _ _
      | exact impl_isOrder.mono _ _
      | exact impl_named.mono _ _ _
      | exact slices_Compare_int_int.mono _ _ _
      | exact LeO.none _
      | refine LeO.ite ?_ ?_
      | refine LeO.bind ?_ (fun _ => ?_)
set_option maxHeartbeats 8000000 in
set_option maxRecDepth 100000 in
theorem impl_firstNamed.calls (k : Nat) (P0_ : Nat → Prop) (A0 : Option Addr) (c0 : Nat) (l0 : List Int) (r : List Int) (w : World) (hs0 : Kd.V (Kd.int .i64) 3 w w.heap.size (fun k_ => P0_ k_) (.slice A0 l0.length c0) l0) (h : impl_firstNamed.f k l0 = some r) :
    Calls Try.prog 17 #[.slice A0 l0.length c0] w fun e w' => ∃ v0_ : Value, e = .returned (v0_) ∧ Kd.R (Kd.int .i64) 3 w' w.heap.size (fun k_ => (w.heap.size ≤ k_)) v0_ r ∧ Below w.heap.size w w' := by
  have HO0 := Aside0.mk (show Kd.V (Kd.int .i64) 3 w w.heap.size (fun k_ => (P0_ k_ ∨ w.heap.size ≤ k_)) (.slice A0 l0.length c0) l0 from Kd.V_mono hs0 (fun k_ hk => .inl hk))
  have HB := Aside0.mk (Below.refl w.heap.size w)
  have H : (impl_firstNamed.l0 k l0 l0 0) = some r := h
  clear h
  have H' := Aside0.mk H
  clear H
  go_enter Try.func17, Try.ntmps17
  go_wp2
  go_loopg [3, 8] k (fun kq v3 v8 w' => ∃ (x3_1 : List Int) (x8_1 : Int), v8 = .int .i64 x8_1 ∧ Aside0 (impl_firstNamed.l0 kq l0 x3_1 x8_1 = some r) ∧ Aside0 (kq ≤ k) ∧ Aside0 (Kd.V (Kd.int .i64) 3 w' w.heap.size (fun k_ => (P0_ k_ ∨ w.heap.size ≤ k_)) (.slice A0 l0.length c0) l0) ∧ Aside0 (Kd.V (Kd.int .i64) 3 w' w.heap.size (fun k_ => (P0_ k_ ∨ w.heap.size ≤ k_)) v3 x3_1) ∧ Aside0 (Below w.heap.size w w'))
  case atStart => exact ⟨(l0), (0), (by first | rfl | (simp; done) | (simp [*]; done)), H', ⟨Nat.le_refl _⟩, ⟨by (with_reducible repeat (first | apply Kd.V_alloc | apply Kd.V_drewN | apply Kd.V_drew)); exact HO0.out⟩, ⟨by (with_reducible repeat (first | apply Kd.V_alloc | apply Kd.V_drewN | apply Kd.V_drew)); exact HO0.out⟩, ⟨by repeat (first | (with_reducible first | exact HB.out | apply below_alloc | apply pw_below_drewN | apply below_drew1) | exact HB.out)⟩⟩
  case round =>
    clear H'
    try clear c1
    obtain ⟨x3_1, x8_1, rfl, HA, HK1, HO_0, HO_3, HB⟩ := hrel
    cases gk with
    | zero => exact absurd HA.out (by simp [impl_firstNamed.l0])
    | succ k1 =>
      have H := HA.out
      clear HA
      simp only [impl_firstNamed.l0] at H
      by_cases c2 : x8_1 < 256
      · rw [if_pos c2] at H
        have c2b0 : decide (x8_1 < 256) = true := decide_eq_true c2
        clear c2
        obtain ⟨y222, hy222⟩ : ∃ y_ : List Int, y_ = (([wrap64 (Int.tdiv x8_1 64), Int.tmod (wrap64 (Int.tdiv x8_1 16)) 4, Int.tmod (wrap64 (Int.tdiv x8_1 4)) 4, Int.tmod x8_1 4] : List Int)) := ⟨_, rfl⟩
        replace H : ((impl_isOrder.f k1 y222).bind fun t225 => (if t225 = true then ((impl_named.f k1 l0 y222).bind fun t226 => ((slices_Compare_int_int.f k1 t226 x3_1).bind fun t229 => (if t229 < 0 then (impl_firstNamed.l0 k1 l0 t226 (wrap64 (x8_1 + 1))) else (impl_firstNamed.l0 k1 l0 x3_1 (wrap64 (x8_1 + 1)))))) else (impl_firstNamed.l0 k1 l0 x3_1 (wrap64 (x8_1 + 1))))) = some r := by first | (rw [hy222]; with_reducible exact H) | (have H2_ := (Option.bind_some _ _).symm.trans H; rw [hy222]; with_reducible exact H2_) | (have H2_ := (Option.bind_some _ _).symm.trans H; with_reducible exact H2_) | with_reducible exact H | (rw [hy222]; exact H) | exact H
        have Ny222 := Aside0.mk hy222
        clear hy222
        replace H := Option.bind_eq_some_iff.mp H
        obtain ⟨t225, A30, H⟩ := H
        replace H : (if t225 = true then ((impl_named.f k1 l0 y222).bind fun t226 => ((slices_Compare_int_int.f k1 t226 x3_1).bind fun t229 => (if t229 < 0 then (impl_firstNamed.l0 k1 l0 t226 (wrap64 (x8_1 + 1))) else (impl_firstNamed.l0 k1 l0 x3_1 (wrap64 (x8_1 + 1)))))) else (impl_firstNamed.l0 k1 l0 x3_1 (wrap64 (x8_1 + 1)))) = some r := H
        have A3 := Aside0.mk A30
        clear A30
        by_cases c4 : t225 = true
        · subst c4
          have H1 : ((impl_named.f k1 l0 y222).bind fun t226 => ((slices_Compare_int_int.f k1 t226 x3_1).bind fun t229 => (if t229 < 0 then (impl_firstNamed.l0 k1 l0 t226 (wrap64 (x8_1 + 1))) else (impl_firstNamed.l0 k1 l0 x3_1 (wrap64 (x8_1 + 1)))))) = some r := by rw [if_pos rfl] at H; exact H
          clear H
          have H := H1
          clear H1
          replace H := Option.bind_eq_some_iff.mp H
          obtain ⟨t226, A50, H⟩ := H
          replace H : ((slices_Compare_int_int.f k1 t226 x3_1).bind fun t229 => (if t229 < 0 then (impl_firstNamed.l0 k1 l0 t226 (wrap64 (x8_1 + 1))) else (impl_firstNamed.l0 k1 l0 x3_1 (wrap64 (x8_1 + 1))))) = some r := H
          have A5 := Aside0.mk A50
          clear A50
          replace H := Option.bind_eq_some_iff.mp H
          obtain ⟨t229, A60, H⟩ := H
          replace H : (if t229 < 0 then (impl_firstNamed.l0 k1 l0 t226 (wrap64 (x8_1 + 1))) else (impl_firstNamed.l0 k1 l0 x3_1 (wrap64 (x8_1 + 1)))) = some r := H
          have A6 := Aside0.mk A60
          clear A60
          by_cases c7 : t229 < 0
          · rw [if_pos c7] at H
            have c7b0 : decide (t229 < 0) = true := decide_eq_true c7
            clear c7
            have H' := Aside0.mk H
            clear H
            go_wp2_with (first | ((with_reducible refine gate_dst (N := 21) rfl ?_); refine Kd.R_lit (Kd.int .i64) _ 3 ?hg (N := 21) ?hd (xs := ([wrap64 (Int.tdiv x8_1 64), Int.tmod (wrap64 (Int.tdiv x8_1 16)) 4, Int.tmod (wrap64 (Int.tdiv x8_1 4)) 4, Int.tmod x8_1 4] : List Int)) (inner := [.int .i64 (wrap64 (Int.tdiv x8_1 64)), .int .i64 (Int.tmod (wrap64 (Int.tdiv x8_1 16)) 4), .int .i64 (Int.tmod (wrap64 (Int.tdiv x8_1 4)) 4), .int .i64 (Int.tmod x8_1 4)]) (ok := fun _ => True) (okp := fun _ => True) ?hr ?hp (fun _ hk => hk) trivial (Below.refl _ _) (Nat.le_refl _) (by simp) ?_; (case hd => rfl); (case hg => rfl); (case hr => first | (go_simp; done) | (go_simp; rfl)); (case hp => exact (Reps.one (show Kd.M (Kd.int .i64) _ _ _ (wrap64 (Int.tdiv x8_1 64)) [.int .i64 (wrap64 (Int.tdiv x8_1 64))] from rfl) (Reps.one (show Kd.M (Kd.int .i64) _ _ _ (Int.tmod (wrap64 (Int.tdiv x8_1 16)) 4) [.int .i64 (Int.tmod (wrap64 (Int.tdiv x8_1 16)) 4)] from rfl) (Reps.one (show Kd.M (Kd.int .i64) _ _ _ (Int.tmod (wrap64 (Int.tdiv x8_1 4)) 4) [.int .i64 (Int.tmod (wrap64 (Int.tdiv x8_1 4)) 4)] from rfl) (Reps.one (show Kd.M (Kd.int .i64) _ _ _ (Int.tmod x8_1 4) [.int .i64 (Int.tmod x8_1 4)] from rfl) (Reps.none _ _)))))); intro v223 w8 ho9 hb hg_ hnew_; clear hg_ hnew_; (first | rw [← Ny222.out] at ho9 | (simp only [Int.reduceToNat] at ho9; rw [← Ny222.out] at ho9)); have n0_ := Aside0.mk (Kd.V_elder' (by (with_reducible repeat (first | apply Kd.V_alloc | apply Kd.V_drewN | apply Kd.V_drew)); exact HO_0.out) (Kd.R_base ho9) hb); have n1_ := Aside0.mk (Kd.V_elder' (by (with_reducible repeat (first | apply Kd.V_alloc | apply Kd.V_drewN | apply Kd.V_drew)); exact HO_3.out) (Kd.R_base ho9) hb); have n2_ := Aside0.mk (Kd.R_lower (Kd.R_newM (M := fun k_ => (w.heap.size ≤ k_)) ho9 (below_size (by repeat (first | (with_reducible first | exact HB.out | apply below_alloc | apply pw_below_drewN | apply below_drew1) | exact HB.out))) (fun k_ h_ => h_)) (below_size (by repeat (first | (with_reducible first | exact HB.out | apply below_alloc | apply pw_below_drewN | apply below_drew1) | exact HB.out)))); have n3_ := Aside0.mk (below_step (by repeat (first | (with_reducible first | exact HB.out | apply below_alloc | apply pw_below_drewN | apply below_drew1) | exact HB.out)) hb); clear HO_0; clear HO_3; clear HB; have HO_0 := n0_; have HO_3 := n1_; have HO224 := n2_; have HB := n3_; clear n0_ n1_ n2_ n3_; clear hb ho9; obtain ⟨Ao10, co10, eo10⟩ := Kd.R_slice HO224.out; subst eo10) | ((with_reducible refine gate_callee (f := 26) rfl ?_); refine goesL_ (some 23) rfl rfl Try.func26 (by kernel_rfl) rfl #[.slice Ao10 y222.length co10] rfl (by (try simp only [List.map_toArray, List.map_cons, List.map_nil]); first | done | rfl | (simp only [List.length_drop, List.length_take]; rfl)) ?_; (with_reducible refine (impl_isOrder.calls k1 _ _ y222 true _ ?side1 ?side2 A3.out).mono ?_); (case side1 => repeat (first | exact (Kd.R_reads' HO224.out).2.2 | (with_reducible refine Kd.C_alloc ?_ _) | (with_reducible refine Kd.C_drewN ?_ _) | (with_reducible refine Kd.C_drew ?_))); (case side2 => exact (Kd.R_reads' HO224.out).2.1); rintro e w' ⟨rfl, ⟨nd, rfl⟩⟩; refine ⟨_, rfl, ?_⟩) | ((with_reducible refine gate_callee (f := 27) rfl ?_); refine goesL_ (some 26) rfl rfl Try.func27 (by kernel_rfl) rfl #[.slice A0 l0.length c0, .slice Ao10 y222.length co10] rfl (by (try simp only [List.map_toArray, List.map_cons, List.map_nil]); first | done | rfl | (simp only [List.length_drop, List.length_take]; rfl)) ?_; (with_reducible refine (impl_named.calls k1 _ _ l0 _ _ y222 t226 _ ?side1 ?side2 ?side3 ?side4 A5.out).mono ?_); (case side1 => repeat (first | exact (Kd.V_reads' HO_0.out).2.2 | (with_reducible refine Kd.C_alloc ?_ _) | (with_reducible refine Kd.C_drewN ?_ _) | (with_reducible refine Kd.C_drew ?_))); (case side2 => exact (Kd.V_reads' HO_0.out).2.1); (case side3 => repeat (first | exact (Kd.R_reads' HO224.out).2.2 | (with_reducible refine Kd.C_alloc ?_ _) | (with_reducible refine Kd.C_drewN ?_ _) | (with_reducible refine Kd.C_drew ?_))); (case side4 => exact (Kd.R_reads' HO224.out).2.1); rintro e w11 ⟨v227, rfl, ho0, hb⟩; refine ⟨_, rfl, ?_⟩; have n0_ := Aside0.mk (Kd.V_elder' (by (with_reducible repeat (first | apply Kd.V_alloc | apply Kd.V_drewN | apply Kd.V_drew)); exact HO_0.out) (Kd.R_base ho0) hb); have n1_ := Aside0.mk (Kd.V_elder' (by (with_reducible repeat (first | apply Kd.V_alloc | apply Kd.V_drewN | apply Kd.V_drew)); exact HO_3.out) (Kd.R_base ho0) hb); have n2_ := Aside0.mk (Kd.R_elder' (by (with_reducible repeat (first | apply Kd.R_alloc | apply Kd.R_drewN | apply Kd.R_drew)); exact HO224.out) (Kd.R_base ho0) hb); have n3_ := Aside0.mk (Kd.R_lower (Kd.R_new' (Kd.R_newM (M := fun k_ => (w.heap.size ≤ k_)) ho0 (below_size (by repeat (first | (with_reducible first | exact HB.out | apply below_alloc | apply pw_below_drewN | apply below_drew1) | exact HB.out))) (fun k_ h_ => h_)) (Kd.R_lt (by (with_reducible repeat (first | apply Kd.R_alloc | apply Kd.R_drewN | apply Kd.R_drew)); exact HO224.out))) (below_size (by repeat (first | (with_reducible first | exact HB.out | apply below_alloc | apply pw_below_drewN | apply below_drew1) | exact HB.out)))); have n4_ := Aside0.mk (below_step (by repeat (first | (with_reducible first | exact HB.out | apply below_alloc | apply pw_below_drewN | apply below_drew1) | exact HB.out)) hb); clear HO_0; clear HO_3; clear HO224; clear HB; have HO_0 := n0_; have HO_3 := n1_; have HO224 := n2_; have HO228 := n3_; have HB := n4_; clear n0_ n1_ n2_ n3_ n4_; (try clear hb); (try clear hb2); (try clear hk); (try clear hi); (try clear ho0); obtain ⟨Ao12, co12, eo12⟩ := Kd.R_slice HO228.out; subst eo12; obtain ⟨Ao13, co13, eo13⟩ := Kd.V_slice HO_3.out; subst eo13) | ((with_reducible refine gate_callee (f := 28) rfl ?_); refine goesL_ (some 29) rfl rfl Try.func28 (by kernel_rfl) rfl #[.slice Ao12 t226.length co12, .slice Ao13 x3_1.length co13] rfl (by (try simp only [List.map_toArray, List.map_cons, List.map_nil]); first | done | rfl | (simp only [List.length_drop, List.length_take]; rfl)) ?_; (with_reducible refine (slices_Compare_int_int.calls k1 _ _ t226 _ _ x3_1 t229 _ ?side1 ?side2 ?side3 ?side4 A6.out).mono ?_); (case side1 => repeat (first | exact (Kd.R_reads' HO228.out).2.2 | (with_reducible refine Kd.C_alloc ?_ _) | (with_reducible refine Kd.C_drewN ?_ _) | (with_reducible refine Kd.C_drew ?_))); (case side2 => exact (Kd.R_reads' HO228.out).2.1); (case side3 => repeat (first | exact (Kd.V_reads' HO_3.out).2.2 | (with_reducible refine Kd.C_alloc ?_ _) | (with_reducible refine Kd.C_drewN ?_ _) | (with_reducible refine Kd.C_drew ?_))); (case side4 => exact (Kd.V_reads' HO_3.out).2.1); rintro e w' ⟨rfl, ⟨nd, rfl⟩⟩; refine ⟨_, rfl, ?_⟩))
            go_roundg k1
            case measure => have := HK1.out; omega
            case rel => exact ⟨(t226), (wrap64 (x8_1 + 1)), (by first | rfl | (simp; done) | (simp [*]; done)), H', ⟨by have := HK1.out; omega⟩, ⟨by (with_reducible repeat (first | apply Kd.V_alloc | apply Kd.V_drewN | apply Kd.V_drew)); exact Kd.V_mono HO_0.out (fun _ hk => hk.1.1)⟩, ⟨Kd.V_mono (Kd.R_V (by (with_reducible repeat (first | apply Kd.R_alloc | apply Kd.R_drewN | apply Kd.R_drew)); exact Kd.R_mono HO228.out (fun _ hk => hk.1.1))) (fun k_ hk => by first | exact ⟨(.inr (hk.1)), hk.2⟩ | exact (.inr (hk)))⟩, ⟨by repeat (first | (with_reducible first | exact HB.out | apply below_alloc | apply pw_below_drewN | apply below_drew1) | exact HB.out)⟩⟩
          · rw [if_neg c7] at H
            have c7b0 : decide (t229 < 0) = false := decide_eq_false c7
            clear c7
            have H' := Aside0.mk H
            clear H
            go_wp2_with (first | ((with_reducible refine gate_dst (N := 21) rfl ?_); refine Kd.R_lit (Kd.int .i64) _ 3 ?hg (N := 21) ?hd (xs := ([wrap64 (Int.tdiv x8_1 64), Int.tmod (wrap64 (Int.tdiv x8_1 16)) 4, Int.tmod (wrap64 (Int.tdiv x8_1 4)) 4, Int.tmod x8_1 4] : List Int)) (inner := [.int .i64 (wrap64 (Int.tdiv x8_1 64)), .int .i64 (Int.tmod (wrap64 (Int.tdiv x8_1 16)) 4), .int .i64 (Int.tmod (wrap64 (Int.tdiv x8_1 4)) 4), .int .i64 (Int.tmod x8_1 4)]) (ok := fun _ => True) (okp := fun _ => True) ?hr ?hp (fun _ hk => hk) trivial (Below.refl _ _) (Nat.le_refl _) (by simp) ?_; (case hd => rfl); (case hg => rfl); (case hr => first | (go_simp; done) | (go_simp; rfl)); (case hp => exact (Reps.one (show Kd.M (Kd.int .i64) _ _ _ (wrap64 (Int.tdiv x8_1 64)) [.int .i64 (wrap64 (Int.tdiv x8_1 64))] from rfl) (Reps.one (show Kd.M (Kd.int .i64) _ _ _ (Int.tmod (wrap64 (Int.tdiv x8_1 16)) 4) [.int .i64 (Int.tmod (wrap64 (Int.tdiv x8_1 16)) 4)] from rfl) (Reps.one (show Kd.M (Kd.int .i64) _ _ _ (Int.tmod (wrap64 (Int.tdiv x8_1 4)) 4) [.int .i64 (Int.tmod (wrap64 (Int.tdiv x8_1 4)) 4)] from rfl) (Reps.one (show Kd.M (Kd.int .i64) _ _ _ (Int.tmod x8_1 4) [.int .i64 (Int.tmod x8_1 4)] from rfl) (Reps.none _ _)))))); intro v223 w14 ho15 hb hg_ hnew_; clear hg_ hnew_; (first | rw [← Ny222.out] at ho15 | (simp only [Int.reduceToNat] at ho15; rw [← Ny222.out] at ho15)); have n0_ := Aside0.mk (Kd.V_elder' (by (with_reducible repeat (first | apply Kd.V_alloc | apply Kd.V_drewN | apply Kd.V_drew)); exact HO_0.out) (Kd.R_base ho15) hb); have n1_ := Aside0.mk (Kd.V_elder' (by (with_reducible repeat (first | apply Kd.V_alloc | apply Kd.V_drewN | apply Kd.V_drew)); exact HO_3.out) (Kd.R_base ho15) hb); have n2_ := Aside0.mk (Kd.R_lower (Kd.R_newM (M := fun k_ => (w.heap.size ≤ k_)) ho15 (below_size (by repeat (first | (with_reducible first | exact HB.out | apply below_alloc | apply pw_below_drewN | apply below_drew1) | exact HB.out))) (fun k_ h_ => h_)) (below_size (by repeat (first | (with_reducible first | exact HB.out | apply below_alloc | apply pw_below_drewN | apply below_drew1) | exact HB.out)))); have n3_ := Aside0.mk (below_step (by repeat (first | (with_reducible first | exact HB.out | apply below_alloc | apply pw_below_drewN | apply below_drew1) | exact HB.out)) hb); clear HO_0; clear HO_3; clear HB; have HO_0 := n0_; have HO_3 := n1_; have HO224 := n2_; have HB := n3_; clear n0_ n1_ n2_ n3_; clear hb ho15; obtain ⟨Ao16, co16, eo16⟩ := Kd.R_slice HO224.out; subst eo16) | ((with_reducible refine gate_callee (f := 26) rfl ?_); refine goesL_ (some 23) rfl rfl Try.func26 (by kernel_rfl) rfl #[.slice Ao16 y222.length co16] rfl (by (try simp only [List.map_toArray, List.map_cons, List.map_nil]); first | done | rfl | (simp only [List.length_drop, List.length_take]; rfl)) ?_; (with_reducible refine (impl_isOrder.calls k1 _ _ y222 true _ ?side1 ?side2 A3.out).mono ?_); (case side1 => repeat (first | exact (Kd.R_reads' HO224.out).2.2 | (with_reducible refine Kd.C_alloc ?_ _) | (with_reducible refine Kd.C_drewN ?_ _) | (with_reducible refine Kd.C_drew ?_))); (case side2 => exact (Kd.R_reads' HO224.out).2.1); rintro e w' ⟨rfl, ⟨nd, rfl⟩⟩; refine ⟨_, rfl, ?_⟩) | ((with_reducible refine gate_callee (f := 27) rfl ?_); refine goesL_ (some 26) rfl rfl Try.func27 (by kernel_rfl) rfl #[.slice A0 l0.length c0, .slice Ao16 y222.length co16] rfl (by (try simp only [List.map_toArray, List.map_cons, List.map_nil]); first | done | rfl | (simp only [List.length_drop, List.length_take]; rfl)) ?_; (with_reducible refine (impl_named.calls k1 _ _ l0 _ _ y222 t226 _ ?side1 ?side2 ?side3 ?side4 A5.out).mono ?_); (case side1 => repeat (first | exact (Kd.V_reads' HO_0.out).2.2 | (with_reducible refine Kd.C_alloc ?_ _) | (with_reducible refine Kd.C_drewN ?_ _) | (with_reducible refine Kd.C_drew ?_))); (case side2 => exact (Kd.V_reads' HO_0.out).2.1); (case side3 => repeat (first | exact (Kd.R_reads' HO224.out).2.2 | (with_reducible refine Kd.C_alloc ?_ _) | (with_reducible refine Kd.C_drewN ?_ _) | (with_reducible refine Kd.C_drew ?_))); (case side4 => exact (Kd.R_reads' HO224.out).2.1); rintro e w17 ⟨v227, rfl, ho0, hb⟩; refine ⟨_, rfl, ?_⟩; have n0_ := Aside0.mk (Kd.V_elder' (by (with_reducible repeat (first | apply Kd.V_alloc | apply Kd.V_drewN | apply Kd.V_drew)); exact HO_0.out) (Kd.R_base ho0) hb); have n1_ := Aside0.mk (Kd.V_elder' (by (with_reducible repeat (first | apply Kd.V_alloc | apply Kd.V_drewN | apply Kd.V_drew)); exact HO_3.out) (Kd.R_base ho0) hb); have n2_ := Aside0.mk (Kd.R_elder' (by (with_reducible repeat (first | apply Kd.R_alloc | apply Kd.R_drewN | apply Kd.R_drew)); exact HO224.out) (Kd.R_base ho0) hb); have n3_ := Aside0.mk (Kd.R_lower (Kd.R_new' (Kd.R_newM (M := fun k_ => (w.heap.size ≤ k_)) ho0 (below_size (by repeat (first | (with_reducible first | exact HB.out | apply below_alloc | apply pw_below_drewN | apply below_drew1) | exact HB.out))) (fun k_ h_ => h_)) (Kd.R_lt (by (with_reducible repeat (first | apply Kd.R_alloc | apply Kd.R_drewN | apply Kd.R_drew)); exact HO224.out))) (below_size (by repeat (first | (with_reducible first | exact HB.out | apply below_alloc | apply pw_below_drewN | apply below_drew1) | exact HB.out)))); have n4_ := Aside0.mk (below_step (by repeat (first | (with_reducible first | exact HB.out | apply below_alloc | apply pw_below_drewN | apply below_drew1) | exact HB.out)) hb); clear HO_0; clear HO_3; clear HO224; clear HB; have HO_0 := n0_; have HO_3 := n1_; have HO224 := n2_; have HO228 := n3_; have HB := n4_; clear n0_ n1_ n2_ n3_ n4_; (try clear hb); (try clear hb2); (try clear hk); (try clear hi); (try clear ho0); obtain ⟨Ao18, co18, eo18⟩ := Kd.R_slice HO228.out; subst eo18; obtain ⟨Ao19, co19, eo19⟩ := Kd.V_slice HO_3.out; subst eo19) | ((with_reducible refine gate_callee (f := 28) rfl ?_); refine goesL_ (some 29) rfl rfl Try.func28 (by kernel_rfl) rfl #[.slice Ao18 t226.length co18, .slice Ao19 x3_1.length co19] rfl (by (try simp only [List.map_toArray, List.map_cons, List.map_nil]); first | done | rfl | (simp only [List.length_drop, List.length_take]; rfl)) ?_; (with_reducible refine (slices_Compare_int_int.calls k1 _ _ t226 _ _ x3_1 t229 _ ?side1 ?side2 ?side3 ?side4 A6.out).mono ?_); (case side1 => repeat (first | exact (Kd.R_reads' HO228.out).2.2 | (with_reducible refine Kd.C_alloc ?_ _) | (with_reducible refine Kd.C_drewN ?_ _) | (with_reducible refine Kd.C_drew ?_))); (case side2 => exact (Kd.R_reads' HO228.out).2.1); (case side3 => repeat (first | exact (Kd.V_reads' HO_3.out).2.2 | (with_reducible refine Kd.C_alloc ?_ _) | (with_reducible refine Kd.C_drewN ?_ _) | (with_reducible refine Kd.C_drew ?_))); (case side4 => exact (Kd.V_reads' HO_3.out).2.1); rintro e w' ⟨rfl, ⟨nd, rfl⟩⟩; refine ⟨_, rfl, ?_⟩))
            go_roundg k1
            case measure => have := HK1.out; omega
            case rel => exact ⟨(x3_1), (wrap64 (x8_1 + 1)), (by first | rfl | (simp; done) | (simp [*]; done)), H', ⟨by have := HK1.out; omega⟩, ⟨by (with_reducible repeat (first | apply Kd.V_alloc | apply Kd.V_drewN | apply Kd.V_drew)); exact Kd.V_mono HO_0.out (fun _ hk => hk.1.1)⟩, ⟨by (with_reducible repeat (first | apply Kd.V_alloc | apply Kd.V_drewN | apply Kd.V_drew)); exact Kd.V_mono HO_3.out (fun _ hk => hk.1.1)⟩, ⟨by repeat (first | (with_reducible first | exact HB.out | apply below_alloc | apply pw_below_drewN | apply below_drew1) | exact HB.out)⟩⟩
        · replace c4 := Bool.eq_false_iff.mpr c4
          subst c4
          have H1 : (impl_firstNamed.l0 k1 l0 x3_1 (wrap64 (x8_1 + 1))) = some r := by rw [if_neg (show ¬ (false = true) by decide)] at H; exact H
          clear H
          have H := H1
          clear H1
          have H' := Aside0.mk H
          clear H
          go_wp2_with (first | ((with_reducible refine gate_dst (N := 21) rfl ?_); refine Kd.R_lit (Kd.int .i64) _ 3 ?hg (N := 21) ?hd (xs := ([wrap64 (Int.tdiv x8_1 64), Int.tmod (wrap64 (Int.tdiv x8_1 16)) 4, Int.tmod (wrap64 (Int.tdiv x8_1 4)) 4, Int.tmod x8_1 4] : List Int)) (inner := [.int .i64 (wrap64 (Int.tdiv x8_1 64)), .int .i64 (Int.tmod (wrap64 (Int.tdiv x8_1 16)) 4), .int .i64 (Int.tmod (wrap64 (Int.tdiv x8_1 4)) 4), .int .i64 (Int.tmod x8_1 4)]) (ok := fun _ => True) (okp := fun _ => True) ?hr ?hp (fun _ hk => hk) trivial (Below.refl _ _) (Nat.le_refl _) (by simp) ?_; (case hd => rfl); (case hg => rfl); (case hr => first | (go_simp; done) | (go_simp; rfl)); (case hp => exact (Reps.one (show Kd.M (Kd.int .i64) _ _ _ (wrap64 (Int.tdiv x8_1 64)) [.int .i64 (wrap64 (Int.tdiv x8_1 64))] from rfl) (Reps.one (show Kd.M (Kd.int .i64) _ _ _ (Int.tmod (wrap64 (Int.tdiv x8_1 16)) 4) [.int .i64 (Int.tmod (wrap64 (Int.tdiv x8_1 16)) 4)] from rfl) (Reps.one (show Kd.M (Kd.int .i64) _ _ _ (Int.tmod (wrap64 (Int.tdiv x8_1 4)) 4) [.int .i64 (Int.tmod (wrap64 (Int.tdiv x8_1 4)) 4)] from rfl) (Reps.one (show Kd.M (Kd.int .i64) _ _ _ (Int.tmod x8_1 4) [.int .i64 (Int.tmod x8_1 4)] from rfl) (Reps.none _ _)))))); intro v223 w20 ho21 hb hg_ hnew_; clear hg_ hnew_; (first | rw [← Ny222.out] at ho21 | (simp only [Int.reduceToNat] at ho21; rw [← Ny222.out] at ho21)); have n0_ := Aside0.mk (Kd.V_elder' (by (with_reducible repeat (first | apply Kd.V_alloc | apply Kd.V_drewN | apply Kd.V_drew)); exact HO_0.out) (Kd.R_base ho21) hb); have n1_ := Aside0.mk (Kd.V_elder' (by (with_reducible repeat (first | apply Kd.V_alloc | apply Kd.V_drewN | apply Kd.V_drew)); exact HO_3.out) (Kd.R_base ho21) hb); have n2_ := Aside0.mk (Kd.R_lower (Kd.R_newM (M := fun k_ => (w.heap.size ≤ k_)) ho21 (below_size (by repeat (first | (with_reducible first | exact HB.out | apply below_alloc | apply pw_below_drewN | apply below_drew1) | exact HB.out))) (fun k_ h_ => h_)) (below_size (by repeat (first | (with_reducible first | exact HB.out | apply below_alloc | apply pw_below_drewN | apply below_drew1) | exact HB.out)))); have n3_ := Aside0.mk (below_step (by repeat (first | (with_reducible first | exact HB.out | apply below_alloc | apply pw_below_drewN | apply below_drew1) | exact HB.out)) hb); clear HO_0; clear HO_3; clear HB; have HO_0 := n0_; have HO_3 := n1_; have HO224 := n2_; have HB := n3_; clear n0_ n1_ n2_ n3_; clear hb ho21; obtain ⟨Ao22, co22, eo22⟩ := Kd.R_slice HO224.out; subst eo22) | ((with_reducible refine gate_callee (f := 26) rfl ?_); refine goesL_ (some 23) rfl rfl Try.func26 (by kernel_rfl) rfl #[.slice Ao22 y222.length co22] rfl (by (try simp only [List.map_toArray, List.map_cons, List.map_nil]); first | done | rfl | (simp only [List.length_drop, List.length_take]; rfl)) ?_; (with_reducible refine (impl_isOrder.calls k1 _ _ y222 false _ ?side1 ?side2 A3.out).mono ?_); (case side1 => repeat (first | exact (Kd.R_reads' HO224.out).2.2 | (with_reducible refine Kd.C_alloc ?_ _) | (with_reducible refine Kd.C_drewN ?_ _) | (with_reducible refine Kd.C_drew ?_))); (case side2 => exact (Kd.R_reads' HO224.out).2.1); rintro e w' ⟨rfl, ⟨nd, rfl⟩⟩; refine ⟨_, rfl, ?_⟩))
          go_roundg k1
          case measure => have := HK1.out; omega
          case rel => exact ⟨(x3_1), (wrap64 (x8_1 + 1)), (by first | rfl | (simp; done) | (simp [*]; done)), H', ⟨by have := HK1.out; omega⟩, ⟨by (with_reducible repeat (first | apply Kd.V_alloc | apply Kd.V_drewN | apply Kd.V_drew)); exact Kd.V_mono HO_0.out (fun _ hk => hk.1)⟩, ⟨by (with_reducible repeat (first | apply Kd.V_alloc | apply Kd.V_drewN | apply Kd.V_drew)); exact Kd.V_mono HO_3.out (fun _ hk => hk.1)⟩, ⟨by repeat (first | (with_reducible first | exact HB.out | apply below_alloc | apply pw_below_drewN | apply below_drew1) | exact HB.out)⟩⟩
      · rw [if_neg c2] at H
        have c2b0 : decide (x8_1 < 256) = false := decide_eq_false c2
        clear c2
        replace H := Option.bind_eq_some_iff.mp H
        obtain ⟨t219, A230, H⟩ := H
        replace H : (some t219) = some r := H
        have A23 := Aside0.mk A230
        clear A230
        obtain rfl := Option.some.inj H
        obtain ⟨Ao24, co24, eo24⟩ := Kd.V_slice HO_3.out
        subst eo24
        go_wp2_with (first | ((with_reducible refine gate_callee (f := 29) rfl ?_); refine goesL_ (some 34) rfl rfl Try.func29 (by kernel_rfl) rfl #[.slice Ao24 x3_1.length co24] rfl (by (try simp only [List.map_toArray, List.map_cons, List.map_nil]); first | done | rfl | (simp only [List.length_drop, List.length_take]; rfl)) ?_; (with_reducible refine (slices_Clone_int_int.calls _ _ x3_1 t219 _ ?side1 ?side2 A23.out).mono ?_); (case side1 => repeat (first | exact (Kd.V_reads' HO_3.out).2.2 | (with_reducible refine Kd.C_alloc ?_ _) | (with_reducible refine Kd.C_drewN ?_ _) | (with_reducible refine Kd.C_drew ?_))); (case side2 => exact (Kd.V_reads' HO_3.out).2.1); rintro e w25 ⟨v220, rfl, ho0, hb⟩; refine ⟨_, rfl, ?_⟩; have n0_ := Aside0.mk (Kd.V_elder' (by (with_reducible repeat (first | apply Kd.V_alloc | apply Kd.V_drewN | apply Kd.V_drew)); exact HO_0.out) (Kd.R_base ho0) hb); have n1_ := Aside0.mk (Kd.V_elder' (by (with_reducible repeat (first | apply Kd.V_alloc | apply Kd.V_drewN | apply Kd.V_drew)); exact HO_3.out) (Kd.R_base ho0) hb); have n2_ := Aside0.mk (Kd.R_lower (Kd.R_newM (M := fun k_ => (w.heap.size ≤ k_)) ho0 (below_size (by repeat (first | (with_reducible first | exact HB.out | apply below_alloc | apply pw_below_drewN | apply below_drew1) | exact HB.out))) (fun k_ h_ => h_)) (below_size (by repeat (first | (with_reducible first | exact HB.out | apply below_alloc | apply pw_below_drewN | apply below_drew1) | exact HB.out)))); have n3_ := Aside0.mk (below_step (by repeat (first | (with_reducible first | exact HB.out | apply below_alloc | apply pw_below_drewN | apply below_drew1) | exact HB.out)) hb); clear HO_0; clear HO_3; clear HB; have HO_0 := n0_; have HO_3 := n1_; have HO221 := n2_; have HB := n3_; clear n0_ n1_ n2_ n3_; (try clear hb); (try clear hb2); (try clear hk); (try clear hi); (try clear ho0)))
        go_ret
        exact ⟨_, by first | rfl | (simp [errW_none, errW_some] <;> rfl) | (simp [*, errW_none, errW_some] <;> rfl), by (with_reducible repeat (first | apply Kd.R_alloc | apply Kd.R_drewN | apply Kd.R_drew)); exact Kd.R_mono HO221.out (fun _ hk => hk.1), by repeat (first | (with_reducible first | exact HB.out | apply below_alloc | apply pw_below_drewN | apply below_drew1) | exact HB.out)⟩

-- NOT PRINTED: function 14 (impl_SolidCount_1)

/-! ### impl_SolidCount: function 7, by hand -/
def impl_SolidCount.row (F : Int → Option Int) : Nat → Int → Option Int
  | 0, _ => some 0
  | r + 1, x => (F x).bind fun a => (impl_SolidCount.row F r (x + 1)).bind fun b => some (a + b)
def impl_SolidCount.leaf (k : Nat) (s : List Int) : Option Int := (impl_stands.f k s).bind fun t => if t = true then ((impl_firstNamed.f k s).bind fun y => (slices_Equal_int_int.f k y s).bind fun e => some (if e = true then 1 else 0)) else some 0
def impl_SolidCount.l (k n : Nat) : Nat → List Int → Option Int
  | 0, pre => impl_SolidCount.leaf k pre
  | d + 1, pre => impl_SolidCount.row (fun x => impl_SolidCount.l k n d (pre ++ [x])) n 1
def impl_SolidCount.f (k : Nat) (a0 : Int) : Option (Int × Bool) := if a0 < 1 then some (0, false) else if a0 > 3 then some (0, false) else (impl_SolidCount.l k a0.toNat 6 []).bind fun c => some (c, true)
theorem impl_SolidCount.mono_row {F G : Int → Option Int} (h : ∀ x, LeO (F x) (G x)) : ∀ r x, LeO (impl_SolidCount.row F r x) (impl_SolidCount.row G r x)
  | 0, _ => LeO.refl _
  | r + 1, x => LeO.bind (h x) (fun _ => LeO.bind (impl_SolidCount.mono_row h r (x + 1)) (fun _ => LeO.refl _))
theorem impl_SolidCount.mono_leaf (k : Nat) (s : List Int) : LeO (impl_SolidCount.leaf k s) (impl_SolidCount.leaf (k + 1) s) :=
  LeO.bind (impl_stands.mono _ _) (fun t => LeO.ite (LeO.bind (impl_firstNamed.mono _ _) (fun y => LeO.bind (slices_Equal_int_int.mono _ _ _) (fun _ => LeO.refl _))) (LeO.refl _))
theorem impl_SolidCount.mono_l (k n : Nat) : ∀ d pre, LeO (impl_SolidCount.l k n d pre) (impl_SolidCount.l (k + 1) n d pre)
  | 0, pre => impl_SolidCount.mono_leaf k pre
  | d + 1, pre => impl_SolidCount.mono_row (fun x => impl_SolidCount.mono_l k n d (pre ++ [x])) n 1
theorem impl_SolidCount.mono : ∀ a0 k, LeO (impl_SolidCount.f k a0) (impl_SolidCount.f (k + 1) a0) := by
  intro a0 k
  unfold impl_SolidCount.f
  exact LeO.ite (LeO.refl _) (LeO.ite (LeO.refl _) (LeO.bind (impl_SolidCount.mono_l k _ _ _) (fun _ => LeO.refl _)))
theorem impl_SolidCount.row_ge {F : Int → Option Int} (h : ∀ x c, F x = some c → 0 ≤ c) : ∀ r x c, impl_SolidCount.row F r x = some c → 0 ≤ c
  | 0, _, c, hc => by have := Option.some.inj hc; omega
  | r + 1, x, c, hc => by
    obtain ⟨a, h1, hc⟩ := Option.bind_eq_some_iff.mp hc
    obtain ⟨b, h2, hc⟩ := Option.bind_eq_some_iff.mp hc
    have := Option.some.inj hc
    have := h _ _ h1
    have := impl_SolidCount.row_ge h r _ _ h2
    omega
theorem impl_SolidCount.l_ge (k n : Nat) : ∀ d pre c, impl_SolidCount.l k n d pre = some c → 0 ≤ c
  | 0, pre, c, hc => by
    unfold impl_SolidCount.l impl_SolidCount.leaf at hc
    obtain ⟨t, h1, hc⟩ := Option.bind_eq_some_iff.mp hc
    cases t with
    | false => rw [if_neg (by decide)] at hc; have := Option.some.inj hc; omega
    | true =>
      rw [if_pos rfl] at hc
      obtain ⟨y, h2, hc⟩ := Option.bind_eq_some_iff.mp hc
      obtain ⟨e, h3, hc⟩ := Option.bind_eq_some_iff.mp hc
      have := Option.some.inj hc
      cases e <;> simp at this <;> omega
  | d + 1, pre, c, hc => impl_SolidCount.row_ge (fun x c h => impl_SolidCount.l_ge k n d (pre ++ [x]) c h) n 1 c hc
theorem impl_SolidCount.row_le {F : Int → Option Int} {M : Int} (h : ∀ x c, F x = some c → c ≤ M) : ∀ (r : Nat) x c, impl_SolidCount.row F r x = some c → c ≤ r * M
  | 0, _, c, hc => by have := Option.some.inj hc; omega
  | r + 1, x, c, hc => by
    obtain ⟨a, h1, hc⟩ := Option.bind_eq_some_iff.mp hc
    obtain ⟨b, h2, hc⟩ := Option.bind_eq_some_iff.mp hc
    have := Option.some.inj hc
    have := h _ _ h1
    have := impl_SolidCount.row_le h r _ _ h2
    have e : ((r + 1 : Nat) : Int) * M = (r : Int) * M + M := by rw [Int.natCast_add, Int.add_mul]; simp
    omega
theorem impl_SolidCount.l_le (k n : Nat) (hn : n ≤ 3) : ∀ (d : Nat) pre c, impl_SolidCount.l k n d pre = some c → c ≤ (3 ^ d : Nat)
  | 0, pre, c, hc => by
    unfold impl_SolidCount.l impl_SolidCount.leaf at hc
    obtain ⟨t, h1, hc⟩ := Option.bind_eq_some_iff.mp hc
    cases t with
    | false => rw [if_neg (by decide)] at hc; have := Option.some.inj hc; omega
    | true =>
      rw [if_pos rfl] at hc
      obtain ⟨y, h2, hc⟩ := Option.bind_eq_some_iff.mp hc
      obtain ⟨e, h3, hc⟩ := Option.bind_eq_some_iff.mp hc
      have := Option.some.inj hc
      cases e <;> simp at this <;> omega
  | d + 1, pre, c, hc => by
    have := impl_SolidCount.row_le (fun x c h => impl_SolidCount.l_le k n hn d (pre ++ [x]) c h) n 1 c hc
    have e : 3 ^ (d + 1) = 3 ^ d * 3 := Nat.pow_succ 3 d
    rw [e]
    have h3 : (0 : Int) ≤ (3 ^ d : Nat) := Int.natCast_nonneg _
    have : (n : Int) * (3 ^ d : Nat) ≤ 3 * (3 ^ d : Nat) := Int.mul_le_mul_of_nonneg_right (by omega) h3
    rw [Int.natCast_mul]
    omega
abbrev impl_SolidCount.pt (b : Nat) : Value := .pointer (some ⟨b, 0, none⟩)
abbrev impl_SolidCount.try (B : Nat) : Value := .func (.func 14) #[] #[impl_SolidCount.pt (B + 3), impl_SolidCount.pt (B + 1), impl_SolidCount.pt B, impl_SolidCount.pt (B + 4)]
/-- The blocks of the closure's variables: n, many, the array, s, try. -/
structure impl_SolidCount.St (W : World) (B n : Nat) (m : Int) (xs : List Int) : Prop where
  bn : W.heap[B]? = some (.cells #[.int .i64 n] 3 (0, 0))
  bm : W.heap[B + 1]? = some (.cells #[.int .i64 m] 3 (0, 0))
  bg : W.heap[B + 2]? = some (.cells (Go.Proofs.Ytfigjcnhchpobaa.HClo.nums xs) 3 (0, 0))
  bs : W.heap[B + 3]? = some (.cells #[.slice (some ⟨B + 2, 0, none⟩) 6 6] 29 (0, 0))
  bt : W.heap[B + 4]? = some (.cells #[impl_SolidCount.try B] 34 (0, 0))
  len : xs.length = 6
namespace impl_SolidCount.St
open Go.Proofs.Ytfigjcnhchpobaa.HClo
variable {W W' : World} {B n : Nat} {m : Int} {xs : List Int}
theorem lt (h : impl_SolidCount.St W B n m xs) : B + 5 ≤ W.heap.size := lt_of_block h.bt
theorem below (h : impl_SolidCount.St W B n m xs) (hb : Below W.heap.size W W') : impl_SolidCount.St W' B n m xs := by
  have hl := h.lt
  exact ⟨(hb.block _ (by omega)).trans h.bn, (hb.block _ (by omega)).trans h.bm, (hb.block _ (by omega)).trans h.bg, (hb.block _ (by omega)).trans h.bs, (hb.block _ (by omega)).trans h.bt, h.len⟩
theorem drew (h : impl_SolidCount.St W B n m xs) : impl_SolidCount.St W.drew B n m xs := ⟨h.bn, h.bm, h.bg, h.bs, h.bt, h.len⟩
theorem drewN (h : impl_SolidCount.St W B n m xs) (j : Nat) : impl_SolidCount.St (W.drewN j) B n m xs := ⟨h.bn, h.bm, h.bg, h.bs, h.bt, h.len⟩
theorem setM (h : impl_SolidCount.St W B n m xs) (m' : Int) : impl_SolidCount.St (W.setCell ⟨B + 1, 0, none⟩ (.int .i64 m')) B n m' xs :=
  ⟨(heap_setCell_other _ _ _ _ (by simp)).trans h.bn, one_setCell h.bm, (heap_setCell_other _ _ _ _ (by simp)).trans h.bg, (heap_setCell_other _ _ _ _ (by simp)).trans h.bs, (heap_setCell_other _ _ _ _ (by simp)).trans h.bt, h.len⟩
theorem setX (h : impl_SolidCount.St W B n m xs) (i : Nat) (x : Int) : impl_SolidCount.St (W.setCell ⟨B + 2, i, none⟩ (.int .i64 x)) B n m (xs.set i x) :=
  ⟨(heap_setCell_other _ _ _ _ (by simp)).trans h.bn, (heap_setCell_other _ _ _ _ (by simp)).trans h.bm, by rw [heap_setCell_same _ _ _ _ _ _ h.bg, nums_set], (heap_setCell_other _ _ _ _ (by simp)).trans h.bs, (heap_setCell_other _ _ _ _ (by simp)).trans h.bt, by rw [List.length_set]; exact h.len⟩
theorem C (h : impl_SolidCount.St W B n m xs) : Kd.C (Kd.int .i64) W (some ⟨B + 2, 0, none⟩) xs.length xs := nums_C h.bg (by rw [h.len]; decide)
theorem V (h : impl_SolidCount.St W B n m xs) : Kd.V (Kd.int .i64) 3 W W.heap.size (fun k => k = B + 2) (.slice (some ⟨B + 2, 0, none⟩) xs.length 6) xs := nums_V h.bg (by rw [h.len]; decide) (by rw [h.len]; decide)
theorem made (w : World) (n : Nat) : impl_SolidCount.St (((((w.alloc (.cells #[.int .i64 n] 3)).alloc (.cells #[.int .i64 0] 3)).alloc (.cells (nums [0, 0, 0, 0, 0, 0]) 3)).alloc (.cells #[.slice (some ⟨w.heap.size + 1 + 1, 0, none⟩) 6 6] 29)).alloc (.cells #[impl_SolidCount.try w.heap.size] 34)) w.heap.size n 0 [0, 0, 0, 0, 0, 0] := by
  have e : ∀ (w : World) (o : Obj), (w.alloc o).heap.size = w.heap.size + 1 := fun w o => by simp
  refine ⟨?_, ?_, ?_, ?_, ?_, rfl⟩
  · exact alloc_old (by simp only [e]; omega) (alloc_old (by simp only [e]; omega) (alloc_old (by simp only [e]; omega) (alloc_old (by simp only [e]; omega) (alloc_new _ _ _ (by simp only [e])))))
  · exact alloc_old (by simp only [e]; omega) (alloc_old (by simp only [e]; omega) (alloc_old (by simp only [e]; omega) (alloc_new _ _ _ (by simp only [e]))))
  · exact alloc_old (by simp only [e]; omega) (alloc_old (by simp only [e]; omega) (alloc_new _ _ _ (by simp only [e])))
  · exact alloc_old (by simp only [e]; omega) (alloc_new _ _ _ (by simp only [e]))
  · exact alloc_new _ _ _ (by simp only [e])
end impl_SolidCount.St
set_option maxHeartbeats 8000000 in
set_option maxRecDepth 100000 in
theorem impl_SolidCount.leaf_calls (k B n : Nat) (m c : Int) (xs : List Int) (w : World) (hst : impl_SolidCount.St w B n m xs) (hm : 0 ≤ m) (hm2 : m ≤ 1000000) (h : impl_SolidCount.leaf k xs = some c) :
    Calls Try.prog 14 #[.int .i64 6, impl_SolidCount.pt (B + 3), impl_SolidCount.pt (B + 1), impl_SolidCount.pt B, impl_SolidCount.pt (B + 4)] w fun e w' => e = .returned (.tuple #[]) ∧ impl_SolidCount.St w' B n (m + c) xs ∧ Below B w w' := by
  have hl := hst.lt
  have hB : B ≤ w.heap.size := by omega
  have c3 := cell_of_one hst.bs
  unfold impl_SolidCount.leaf at h
  obtain ⟨t, h1, h⟩ := Option.bind_eq_some_iff.mp h
  have k1 : ∀ W, impl_SolidCount.St W B n m xs → Calls Try.prog 15 #[.slice (some ⟨B + 2, 0, none⟩) 6 6] W fun e w' => e = .returned (.bool t) ∧ Below W.heap.size W w' := by
    intro W hW
    have := impl_stands.calls k (some ⟨B + 2, 0, none⟩) 6 xs t W hW.C (by rw [hW.len]; decide) h1
    rwa [hW.len] at this
  clear h1
  have HST := Aside0.mk hst
  clear hst
  cases t with
  | false =>
    rw [if_neg (by decide)] at h
    obtain rfl := Option.some.inj h
    clear h
    go_enter Try.func14, Try.ntmps14
    go_wp2
    go_region_with (go_at_call 15; refine (k1 _ ?_).mono ?_; exact HST.out.drew; rintro e w1 ⟨rfl, hb⟩; have HB := Aside0.mk hb; clear hb k1)
    all_goals go_wp2
    all_goals (first | go_end0 | refine bodyPost_ret (results_none rfl _ _ _) rfl ?_)
    all_goals exact ⟨rfl, by rw [Int.add_zero]; exact HST.out.drew.below HB.out, ((Below.refl _ _).drew.trans (HB.out.mono hB))⟩
  | true =>
    rw [if_pos rfl] at h
    obtain ⟨y, h2, h⟩ := Option.bind_eq_some_iff.mp h
    obtain ⟨u, h3, h⟩ := Option.bind_eq_some_iff.mp h
    have k2 : ∀ W, impl_SolidCount.St W B n m xs → Calls Try.prog 17 #[.slice (some ⟨B + 2, 0, none⟩) 6 6] W fun e w' => ∃ v0_ : Value, e = .returned (v0_) ∧ Kd.R (Kd.int .i64) 3 w' W.heap.size (fun k_ => (W.heap.size ≤ k_)) v0_ y ∧ Below W.heap.size W w' := by
      intro W hW
      have := impl_firstNamed.calls k _ (some ⟨B + 2, 0, none⟩) 6 xs y W hW.V h2
      rwa [hW.len] at this
    have k3 : ∀ W A0 c0, impl_SolidCount.St W B n m xs → (Kd.C (Kd.int .i64) W A0 y.length y ∧ y.length ≤ c0) → Calls Try.prog 16 #[.slice A0 y.length c0, .slice (some ⟨B + 2, 0, none⟩) 6 6] W fun e w' => e = .returned (.bool u) ∧ Drawn0 W w' := by
      intro W A0 c0 hW hC
      have := slices_Equal_int_int.calls k A0 c0 y (some ⟨B + 2, 0, none⟩) 6 xs u W hC.1 hC.2 hW.C (by rw [hW.len]; decide) h3
      rwa [hW.len] at this
    clear h2 h3
    cases u with
    | false =>
      obtain rfl := Option.some.inj h
      clear h
      go_enter Try.func14, Try.ntmps14
      go_wp2
      go_region_with (first | (go_at_call 15; refine (k1 _ ?_).mono ?_; exact HST.out.drew; rintro e w1 ⟨rfl, hb⟩; have HS1 := Aside0.mk (HST.out.drew.below hb); have HB := Aside0.mk ((Below.refl B w).drew.trans (hb.mono hB)); have c31 := cell_of_one HS1.out.bs; clear hb k1) | (go_at_call 17; refine (k2 _ ?_).mono ?_; exact HS1.out; rintro e w2 ⟨v0, rfl, hR, hb⟩; have HS2 := Aside0.mk (HS1.out.below hb); have HB2 := Aside0.mk (HB.out.trans (hb.mono (by have := HS1.out.lt; omega))); have c32 := cell_of_one HS2.out.bs; obtain ⟨Ao, co, rfl⟩ := Kd.R_slice hR; have HR2 := Aside0.mk (Kd.R_reads' hR).2; clear hR hb k2) | (go_at_call 16; refine (k3 _ _ _ ?_ ?_).mono ?_; exact HS2.out; exact ⟨HR2.out.2, HR2.out.1⟩; rintro e w3 ⟨rfl, ⟨nd, rfl⟩⟩; clear k3))
      all_goals go_wp2
      all_goals (first | go_end0 | refine bodyPost_ret (results_none rfl _ _ _) rfl ?_)
      all_goals exact ⟨rfl, by first | exact HS2.out.drewN _ | (rw [show ((if false = true then (1 : Int) else 0)) = 0 from rfl, Int.add_zero]; exact HS2.out.drewN _), pw_below_drewN HB2.out _⟩
    | true =>
      obtain rfl := Option.some.inj h
      clear h
      go_enter Try.func14, Try.ntmps14
      go_wp2
      go_region_with (first | (go_at_call 15; refine (k1 _ ?_).mono ?_; exact HST.out.drew; rintro e w1 ⟨rfl, hb⟩; have HS1 := Aside0.mk (HST.out.drew.below hb); have HB := Aside0.mk ((Below.refl B w).drew.trans (hb.mono hB)); have c31 := cell_of_one HS1.out.bs; clear hb k1) | (go_at_call 17; refine (k2 _ ?_).mono ?_; exact HS1.out; rintro e w2 ⟨v0, rfl, hR, hb⟩; have HS2 := Aside0.mk (HS1.out.below hb); have HB2 := Aside0.mk (HB.out.trans (hb.mono (by have := HS1.out.lt; omega))); have c32 := cell_of_one HS2.out.bs; have c12 := cell_of_one HS2.out.bm; have f12 := free_of_one HS2.out.bm; obtain ⟨Ao, co, rfl⟩ := Kd.R_slice hR; have HR2 := Aside0.mk (Kd.R_reads' hR).2; clear hR hb k2) | (go_at_call 16; refine (k3 _ _ _ ?_ ?_).mono ?_; exact HS2.out; exact ⟨HR2.out.2, HR2.out.1⟩; rintro e w3 ⟨rfl, ⟨nd, rfl⟩⟩; clear k3))
      all_goals go_wp2
      all_goals (first | go_end0 | refine bodyPost_ret (results_none rfl _ _ _) rfl ?_)
      all_goals exact ⟨rfl, (HS2.out.drewN _).setM _, (pw_below_drewN HB2.out _).setCell (by simp) _⟩
theorem impl_SolidCount.take_snoc {xs : List Int} {a : Nat} (h : a < xs.length) : xs.take (a + 1) = xs.take a ++ [xs.getD a 0] := by
  rw [List.take_add_one]
  simp [h]
theorem impl_SolidCount.set_get {xs : List Int} {a : Nat} {x : Int} (h : a < xs.length) : (xs.set a x).getD a 0 = x := by
  simp [h]
theorem impl_SolidCount.set_take {xs : List Int} {a : Nat} {x : Int} : (xs.set a x).take a = xs.take a := by
  rw [List.take_set_of_le (Nat.le_refl a)]
theorem impl_SolidCount.get_take {xs ys : List Int} {a : Nat} (h : xs.take (a + 1) = ys.take (a + 1)) : xs.getD a 0 = ys.getD a 0 := by
  have := congrArg (fun l => l.getD a 0) h
  simpa [List.getD_eq_getElem?_getD, List.getElem?_take] using this
theorem impl_SolidCount.take_less {xs ys : List Int} {a : Nat} (h : xs.take (a + 1) = ys.take (a + 1)) : xs.take a = ys.take a := by
  have := congrArg (fun l => l.take a) h
  simpa [List.take_take] using this
set_option maxHeartbeats 8000000 in
set_option maxRecDepth 100000 in
theorem impl_SolidCount.l_calls (k B n : Nat) (hn : n ≤ 3) : ∀ (d a : Nat), a + d = 6 → ∀ (v m c : Int) (xs : List Int) (w : World), v = a → impl_SolidCount.St w B n m xs → 0 ≤ m → m + c ≤ 1000000 → impl_SolidCount.l k n d (xs.take a) = some c →
    Calls Try.prog 14 #[.int .i64 v, impl_SolidCount.pt (B + 3), impl_SolidCount.pt (B + 1), impl_SolidCount.pt B, impl_SolidCount.pt (B + 4)] w fun e w' => e = .returned (.tuple #[]) ∧ (∃ xs', impl_SolidCount.St w' B n (m + c) xs' ∧ xs'.take a = xs.take a) ∧ Below B w w' := by
  intro d
  induction d with
  | zero =>
    intro a ha v m c xs w hv hst hm hmc h
    have ha : a = 6 := by omega
    subst ha
    subst hv
    rw [show xs.take 6 = xs from List.take_of_length_le (by rw [hst.len]; decide)] at h ⊢
    have hc := impl_SolidCount.l_ge k n 0 xs c h
    refine (impl_SolidCount.leaf_calls k B n m c xs w hst hm (by omega) h).mono ?_
    rintro e w' ⟨rfl, h1, h2⟩
    exact ⟨rfl, ⟨xs, h1, List.take_of_length_le (by rw [hst.len]; decide)⟩, h2⟩
  | succ d ih =>
    intro a ha v m c xs w hv hst hm hmc h
    have ha6 : a < 6 := by omega
    have q1 : ((a : Int) == 6) = false := beq_eq_false_iff_ne.mpr (by omega)
    have q2 : (0 : Int) ≤ (a : Int) := by omega
    have q3 : (a : Int) < 6 := by omega
    subst hv
    have hl := hst.lt
    have hB : B ≤ w.heap.size := by omega
    have c3 := cell_of_one hst.bs
    have cx := Go.Proofs.Ytfigjcnhchpobaa.HClo.nums_cell hst.bg (i := a) (by rw [hst.len]; exact ha6)
    have fx := frozen_of_row w (B + 2) a _ _ hst.bg
    have HST := Aside0.mk hst
    have H : impl_SolidCount.row (fun x => impl_SolidCount.l k n d (xs.take a ++ [x])) n 1 = some c := h
    have H' := Aside0.mk H
    have IH := Aside0.mk ih
    clear h H hst ih
    go_enter Try.func14, Try.ntmps14
    go_wp2
    go_loopg [] n (fun kq w' => ∃ (x m' c' : Int) (xs' : List Int), Aside0 (impl_SolidCount.row (fun x => impl_SolidCount.l k n d (xs.take a ++ [x])) kq x = some c') ∧ Aside0 (x + kq = n + 1) ∧ Aside0 (1 ≤ x) ∧ Aside0 (m' + c' = m + c ∧ 0 ≤ m') ∧ Aside0 (impl_SolidCount.St w' B n m' xs' ∧ xs'.getD a 0 = x ∧ xs'.take a = xs.take a) ∧ Aside0 (Below B w w'))
    case atStart => exact ⟨1, m, c, xs.set a 1, H', ⟨by omega⟩, ⟨by omega⟩, ⟨rfl, hm⟩, ⟨HST.out.setX a 1, impl_SolidCount.set_get (by rw [HST.out.len]; exact ha6), impl_SolidCount.set_take⟩, ⟨(Below.refl B w).setCell (by simp) _⟩⟩
    case round =>
      clear H'
      obtain ⟨x, m', c', xs', HA, HX, HX1, HM, HS, HB⟩ := hrel
      have hx := HX.out
      have hx1 := HX1.out
      have s3 := cell_of_one HS.out.1.bs
      have s0 := cell_of_one HS.out.1.bn
      have s4 := cell_of_one HS.out.1.bt
      have sx := Go.Proofs.Ytfigjcnhchpobaa.HClo.nums_cell HS.out.1.bg (i := a) (by rw [HS.out.1.len]; exact ha6)
      rw [HS.out.2.1] at sx
      cases gk with
      | zero =>
        have g : ¬ x ≤ (n : Int) := by omega
        have hA := Option.some.inj HA.out
        clear HA
        go_wp2
        repeat (go_quiet (fail); try go_wp2)
        go_end0
        have hM := HM.out
        exact ⟨rfl, ⟨xs', by rw [show m + c = m' by omega]; exact HS.out.1.drewN _, HS.out.2.2⟩, pw_below_drewN HB.out _⟩
      | succ g1 =>
        have g : x ≤ (n : Int) := by omega
        obtain ⟨c1, A1, hA⟩ := Option.bind_eq_some_iff.mp HA.out
        obtain ⟨c2, A2, hA⟩ := Option.bind_eq_some_iff.mp hA
        have hA := Option.some.inj hA
        clear HA
        have hge := impl_SolidCount.l_ge _ _ _ _ _ A1
        have hge2 := impl_SolidCount.row_ge (fun x c h => impl_SolidCount.l_ge _ _ _ _ _ h) _ _ _ A2
        have hM := HM.out
        have e1 : xs'.take (a + 1) = xs.take a ++ [x] := by rw [impl_SolidCount.take_snoc (by rw [HS.out.1.len]; exact ha6), HS.out.2.1, HS.out.2.2]
        have kc : ∀ W, impl_SolidCount.St W B n m' xs' → Calls Try.prog 14 #[.int .i64 ((a : Int) + 1), impl_SolidCount.pt (B + 3), impl_SolidCount.pt (B + 1), impl_SolidCount.pt B, impl_SolidCount.pt (B + 4)] W fun e w' => e = .returned (.tuple #[]) ∧ (∃ ys, impl_SolidCount.St w' B n (m' + c1) ys ∧ ys.take (a + 1) = xs'.take (a + 1)) ∧ Below B W w' := fun W hW => IH.out (a + 1) (by omega) _ m' c1 xs' W (by omega) hW hM.2 (by omega) (by rw [e1]; exact A1)
        have A2' := Aside0.mk A2
        have hm1 : m' + c1 + c2 = m + c ∧ 0 ≤ m' + c1 := by omega
        have HM1 := Aside0.mk hm1
        clear A1 A2 hA hM hm1 e1 IH HM
        go_wp2
        go_quiet (fail)
        go_wp2_with (go_at_call 14; refine (kc _ ?_).mono ?_; exact HS.out.1.drewN _; rintro e w1 ⟨rfl, ⟨ys, hS1, hT1⟩, hb⟩; clear kc; have HS1 := Aside0.mk hS1; have HT1 := Aside0.mk hT1; have HB1 := Aside0.mk ((pw_below_drewN HB.out _).trans hb); clear hb hS1 hT1; have z3 := cell_of_one HS1.out.bs; have zx := Go.Proofs.Ytfigjcnhchpobaa.HClo.nums_cell HS1.out.bg (i := a) (by rw [HS1.out.len]; exact ha6); have fz := frozen_of_row w1 (B + 2) a _ _ HS1.out.bg; have hz : ys.getD a 0 = x := (impl_SolidCount.get_take HT1.out).trans HS.out.2.1; rw [hz] at zx; clear hz)
        go_roundg g1
        case measure => omega
        case rel =>
          have hM1 := HM1.out
          have hla : a < ys.length := by rw [HS1.out.len]; exact ha6
          exact ⟨x + 1, m' + c1, c2, ys.set a (x + 1), A2', ⟨by omega⟩, ⟨by omega⟩, ⟨hM1.1, hM1.2⟩, ⟨HS1.out.setX a (x + 1), impl_SolidCount.set_get hla, impl_SolidCount.set_take.trans ((impl_SolidCount.take_less HT1.out).trans HS.out.2.2)⟩, ⟨HB1.out.setCell (by simp) _⟩⟩
set_option maxHeartbeats 8000000 in
set_option maxRecDepth 100000 in
theorem impl_SolidCount.calls (k : Nat) (a0 : Int) (r1 : Int) (r2 : Bool) (w : World) (h : impl_SolidCount.f k a0 = some (r1, r2)) :
    Calls Try.prog 7 #[.int .i64 a0] w fun e w' => e = .returned (.tuple #[.int .i64 r1, .bool r2]) ∧ Below w.heap.size w w' := by
  have hmf : ∀ (fn : Fn) (first cap : Array Value) (w : World), (Instr.makeFunc fn first cap).run Try.prog w = .ok (.func fn first cap) w := fun _ _ _ _ => rfl
  have hmk : ∀ (w : World), (Instr.makeSlice 29 (.int .i64 6) (.int .i64 6)).run Try.prog w = .ok (.slice (some ⟨w.heap.size, 0, none⟩) 6 6) (w.alloc (.cells (Go.Proofs.Ytfigjcnhchpobaa.HClo.nums [0, 0, 0, 0, 0, 0]) 3)) := fun _ => by kernel_rfl
  unfold impl_SolidCount.f at h
  by_cases c0 : a0 < 1
  · rw [if_pos c0] at h
    injection h with h
    injection h with h1 h2
    subst h1 h2
    go_enter Try.func7, Try.ntmps7
    go_wp2
    go_ret2
    exact ⟨rfl, by repeat (first | (with_reducible first | exact Below.refl _ _ | apply below_alloc | apply pw_below_drewN | apply below_drew1))⟩
  · rw [if_neg c0] at h
    by_cases c1 : a0 > 3
    · rw [if_pos c1] at h
      injection h with h
      injection h with h1 h2
      subst h1 h2
      go_enter Try.func7, Try.ntmps7
      go_wp2
      go_ret2
      exact ⟨rfl, by repeat (first | (with_reducible first | exact Below.refl _ _ | apply below_alloc | apply pw_below_drewN | apply below_drew1))⟩
    · rw [if_neg c1] at h
      obtain ⟨c, hc, h⟩ := Option.bind_eq_some_iff.mp h
      injection h with h
      injection h with h1 h2
      subst h1 h2
      obtain ⟨n, rfl⟩ := Int.eq_ofNat_of_zero_le (show 0 ≤ a0 by omega)
      rw [Int.toNat_natCast] at hc
      have hcb := impl_SolidCount.l_le k n (by omega) 6 [] c hc
      have hcb : c ≤ 729 := hcb
      have kc : ∀ W, impl_SolidCount.St W w.heap.size n 0 [0, 0, 0, 0, 0, 0] → Calls Try.prog 14 #[.int .i64 0, impl_SolidCount.pt (w.heap.size + 3), impl_SolidCount.pt (w.heap.size + 1), impl_SolidCount.pt w.heap.size, impl_SolidCount.pt (w.heap.size + 4)] W fun e w' => e = .returned (.tuple #[]) ∧ (∃ ys, impl_SolidCount.St w' w.heap.size n c ys) ∧ Below w.heap.size W w' := by
        intro W hW
        refine (impl_SolidCount.l_calls k w.heap.size n (by omega) 6 0 rfl 0 0 c _ W rfl hW (by omega) (by omega) hc).mono ?_
        rintro e w' ⟨rfl, ⟨ys, h1, _⟩, hb⟩
        exact ⟨rfl, ⟨ys, by rwa [Int.zero_add] at h1⟩, hb⟩
      clear hc
      go_enter Try.func7, Try.ntmps7
      clear hcb
      go_wp2_with (go_at_call 14; refine (kc _ ?_).mono ?_; exact impl_SolidCount.St.made w n; rintro e w1 ⟨rfl, ⟨ys, hS1⟩, hb⟩; clear kc; have HB1 := Aside0.mk (Below.trans (a := w) (by repeat (first | (with_reducible first | exact Below.refl _ _ | apply below_alloc | apply pw_below_drewN | apply below_drew1))) hb); have c2 := cell_of_one hS1.bm; clear hS1 hb)
      go_ret2
      exact ⟨rfl, HB1.out⟩

/-- A state of type 42 at block g of W; what its slices lead to came in by w0. -/
def IsS42 (w0 W : World) (g : Nat) (f0 : List Int) (f1 : Int) : Prop := ∃ A0 c0, W.heap[g]? = some (.cells #[.slice A0 f0.length c0, .int .i64 f1] 42 (0, 0)) ∧ w0.heap.size ≤ g ∧ Kd.C (Kd.int .u8) w0 A0 f0.length f0
theorem IsS42.grown {w0 W : World} {g : Nat} {f0 : List Int} {f1 : Int} {W1 : World} {row : Option Nat} (h : IsS42 w0 W g f0 f1) (hw : W.grownBy W1 row) (hne : some g ≠ row) : IsS42 w0 W1 g f0 f1 := by
  obtain ⟨A0, c0, hb, hg, hr0⟩ := h
  exact ⟨A0, c0, blk_grown hb hw hne, hg, hr0⟩
theorem IsS42.own_neN {w0 W : World} {g : Nat} {f0 : List Int} {f1 : Int} {α : Type} {d : Kd α} {e : Nat} {base : Nat} {ok : Nat → Prop} {v : Value} {xs : List α} (h : IsS42 w0 W g f0 f1) (ho : Kd.N d e W base ok v xs) (ht : e ≠ 42) : some g ≠ v.ownBlock := by
  obtain ⟨A0, c0, hb, hg, hr0⟩ := h
  exact Kd.N_ne ho hb ht
theorem IsS42.fresh {w0 W : World} {g : Nat} {f0 : List Int} {f1 : Int} (h : IsS42 w0 W g f0 f1) : ∀ k, W.heap.size ≤ k → k ≠ g := by
  obtain ⟨A0, c0, hb, hg, hr0⟩ := h
  exact Kd.freshB hb
theorem IsS42.kept {w0 W : World} {g : Nat} {f0 : List Int} {f1 : Int} {W1 : World} {S : Nat → Prop} (h : IsS42 w0 W g f0 f1) (hk : Kept W W1 S) (hne : ¬ S g) : IsS42 w0 W1 g f0 f1 := by
  obtain ⟨A0, c0, hb, hg, hr0⟩ := h
  exact ⟨A0, c0, blk_kept hb hk hne, hg, hr0⟩
theorem IsS42.below {w0 W : World} {g : Nat} {f0 : List Int} {f1 : Int} {W1 : World} (h : IsS42 w0 W g f0 f1) (hw : Below W.heap.size W W1) : IsS42 w0 W1 g f0 f1 := h.grown (grown_of_below hw none) (by simp)
theorem IsS42.alloc {w0 W : World} {g : Nat} {f0 : List Int} {f1 : Int} (h : IsS42 w0 W g f0 f1) (o : Obj) : IsS42 w0 (W.alloc o) g f0 f1 := h.below (below_alloc (Below.refl _ _) o)
theorem IsS42.drewN {w0 W : World} {g : Nat} {f0 : List Int} {f1 : Int} (h : IsS42 w0 W g f0 f1) (m : Nat) : IsS42 w0 (W.drewN m) g f0 f1 := h
theorem IsS42.drew {w0 W : World} {g : Nat} {f0 : List Int} {f1 : Int} (h : IsS42 w0 W g f0 f1) : IsS42 w0 W.drew g f0 f1 := h
theorem IsS42.at_ {w0 W : World} {g : Nat} {f0 : List Int} {f1 : Int} {w' : World} {m : Nat} (hq : W.drewN m = w') (h : IsS42 w0 W g f0 f1) : IsS42 w0 w' g f0 f1 := by subst hq; exact IsS42.drewN h m
theorem IsS42.apart {w0 W : World} {g : Nat} {f0 : List Int} {f1 : Int} {α : Type} {d : Kd α} {e : Nat} {base : Nat} {ok : Nat → Prop} {v : Value} {xs : List α} (h : IsS42 w0 W g f0 f1) (ho : d.R e W base ok v xs) (ht : ∀ q, q ∈ e :: d.E → q ≠ 42) : d.R e W base (fun k => ok k ∧ k ≠ g) v xs := by
  obtain ⟨A0, c0, hb, hg, hr0⟩ := h
  exact Kd.R_types ho hb ht
theorem IsS42.own_ne {w0 W : World} {g : Nat} {f0 : List Int} {f1 : Int} {α : Type} {d : Kd α} {e : Nat} {base : Nat} {ok : Nat → Prop} {v : Value} {xs : List α} (h : IsS42 w0 W g f0 f1) (ho : d.R e W base ok v xs) (ht : e ≠ 42) : some g ≠ v.ownBlock := by
  obtain ⟨A0, c0, hb, hg, hr0⟩ := h
  exact Kd.R_ne ho hb ht
theorem IsS42.apartQ {w0 W : World} {g : Nat} {f0 : List Int} {f1 : Int} {α : Type} {d : Kd α} {e : Nat} {base : Nat} {ok : Nat → Prop} {v : Value} {xs : List α} (h : IsS42 w0 W g f0 f1) (ho : d.Q e W base ok v xs) (ht : ∀ q, q ∈ e :: d.E → q ≠ 42) : d.Q e W base (fun k => ok k ∧ k ≠ g) v xs := by
  obtain ⟨A0, c0, hb, hg, hr0⟩ := h
  exact Kd.Q_types ho hb ht
theorem IsS42.own_neQ {w0 W : World} {g : Nat} {f0 : List Int} {f1 : Int} {α : Type} {d : Kd α} {e : Nat} {base : Nat} {ok : Nat → Prop} {v : Value} {xs : List α} (h : IsS42 w0 W g f0 f1) (ho : d.Q e W base ok v xs) (ht : e ≠ 42) : some g ≠ v.ownBlock := by
  obtain ⟨A0, c0, hb, hg, hr0⟩ := h
  exact Kd.Q_ne ho hb ht
theorem IsS42.apartS {w0 W : World} {g : Nat} {f0 : List Int} {f1 : Int} {α : Type} {d : Kd α} {e : Nat} {base : Nat} {ok : Nat → Prop} {v : Value} {xs : List α} (h : IsS42 w0 W g f0 f1) (ho : d.S e W base ok v xs) (ht : ∀ q, q ∈ e :: d.E → q ≠ 42) : d.S e W base (fun k => ok k ∧ k ≠ g) v xs := by
  obtain ⟨A0, c0, hb, hg, hr0⟩ := h
  exact Kd.S_types ho hb ht
theorem IsS42.own_neS {w0 W : World} {g : Nat} {f0 : List Int} {f1 : Int} {α : Type} {d : Kd α} {e : Nat} {base : Nat} {ok : Nat → Prop} {v : Value} {xs : List α} (h : IsS42 w0 W g f0 f1) (ho : d.S e W base ok v xs) (ht : e ≠ 42) : some g ≠ v.ownBlock := by
  obtain ⟨A0, c0, hb, hg, hr0⟩ := h
  exact Kd.S_ne ho hb ht
theorem IsS42.lt {w0 W : World} {g : Nat} {f0 : List Int} {f1 : Int} (h : IsS42 w0 W g f0 f1) : g < W.heap.size := by
  obtain ⟨A0, c0, hb, hg, hr0⟩ := h
  exact blk_lt hb
theorem IsS42.ge {w0 W : World} {g : Nat} {f0 : List Int} {f1 : Int} (h : IsS42 w0 W g f0 f1) : w0.heap.size ≤ g := by
  obtain ⟨A0, c0, hb, hg, hr0⟩ := h
  exact hg
theorem IsS42.ne_blk {w0 W : World} {g : Nat} {f0 : List Int} {f1 : Int} {a : Nat} {cs : Array Value} {t : TypeId} {fr : Nat × Nat} (h : IsS42 w0 W g f0 f1) (hb2 : W.heap[a]? = some (.cells cs t fr)) (ht : t ≠ 42) : g ≠ a := by
  obtain ⟨A0, c0, hb, hg, hr0⟩ := h
  rintro rfl
  rw [hb] at hb2
  injection hb2 with hb2
  injection hb2 with _ ht2
  exact ht ht2.symm
theorem IsS42.far {w0 W : World} {g : Nat} {f0 : List Int} {f1 : Int} {p : Addr} (h : IsS42 w0 W g f0 f1) (hne : g ≠ p.block) (u : Value) : IsS42 w0 (W.setCell p u) g f0 f1 := by
  obtain ⟨A0, c0, hb, hg, hr0⟩ := h
  exact ⟨A0, c0, blk_far hb hne u, hg, hr0⟩
theorem cellS42_0 {W : World} {g : Nat} {A0 : Option Addr} {c0 : Nat} {f0 : List Int} {f1 : Int} (h : W.heap[g]? = some (.cells #[.slice A0 f0.length c0, .int .i64 f1] 42 (0, 0))) : W.cell? ⟨g, 0, none⟩ = some (.slice A0 f0.length c0) := (blk_cell h 0).trans rfl
theorem cellS42_1 {W : World} {g : Nat} {A0 : Option Addr} {c0 : Nat} {f0 : List Int} {f1 : Int} (h : W.heap[g]? = some (.cells #[.slice A0 f0.length c0, .int .i64 f1] 42 (0, 0))) : W.cell? ⟨g, 1, none⟩ = some (.int .i64 f1) := (blk_cell h 1).trans rfl
theorem IsS42.set_1 {w0 W : World} {g : Nat} {f0 : List Int} {f1 : Int} (h : IsS42 w0 W g f0 f1) (x : Int) : IsS42 w0 (W.setCell ⟨g, 1, none⟩ (.int .i64 x)) g f0 x := by
  obtain ⟨A0, c0, hb, hg, hr0⟩ := h
  exact ⟨A0, c0, by simpa using blk_set hb 1 (.int .i64 x), hg, hr0⟩
theorem IsS42.new (w0 W : World) (A0 : Option Addr) (c0 : Nat) (f0 : List Int) (f1 : Int) (hB : Below w0.heap.size w0 W) (hr0 : Kd.C (Kd.int .u8) w0 A0 f0.length f0) : IsS42 w0 (W.alloc (.cells #[.slice A0 f0.length c0, .int .i64 f1] 42)) W.heap.size f0 f1 := ⟨A0, c0, by simpa using heap_alloc_new W _, hB.size, hr0⟩

/-! ### spec_l6Open: function 18 -/
def spec_l6Open.f (l0 : List Int) : Option (List Int × Int) := if (l0.length : Int) > 2000 then (if 2000 ≤ (l0.length : Int) then (some (l0.take 2000, 0)) else (none)) else (some (l0, 0))
set_option maxHeartbeats 8000000 in
set_option maxRecDepth 100000 in
theorem spec_l6Open.calls (A0 : Option Addr) (c0 : Nat) (l0 : List Int) (r1 : List Int) (r2 : Int) (w0 w : World) (hB : Below w0.heap.size w0 w) (hr0 : Kd.C (Kd.int .u8) w0 A0 l0.length l0) (hc0 : l0.length ≤ c0) (h : spec_l6Open.f l0 = some (r1, r2)) :
    Calls Try.prog 18 #[.slice A0 l0.length c0] w fun e w' => ∃ g_ : Nat, e = .returned (.pointer (some ⟨g_, 0, none⟩)) ∧ IsS42 w0 w' g_ r1 r2 ∧ Below w0.heap.size w0 w' ∧ Below w.heap.size w w' := by
  have hu42 := Try.underlying42
  have HR0 := Aside0.mk hr0
  have HC0 := Aside0.mk hc0
  clear hr0 hc0
  have HBW := Aside0.mk (Below.refl w.heap.size w)
  have HW0 := Aside0.mk hB.size
  have HB := Aside0.mk hB
  clear hB
  have H : (if (l0.length : Int) > 2000 then (if 2000 ≤ (l0.length : Int) then (some (l0.take 2000, 0)) else (none)) else (some (l0, 0))) = some (r1, r2) := h
  clear h
  by_cases c2 : (l0.length : Int) > 2000
  · rw [if_pos c2] at H
    have c2b0 : decide (2000 < (l0.length : Int)) = true := decide_eq_true c2
    have c2b1 : decide (2000 < l0.length) = true := decide_eq_true (by omega)
    clear c2
    by_cases c3 : 2000 ≤ (l0.length : Int)
    · rw [if_pos c3] at H
      have c3b0 := eq_true c3
      have c3b1 : decide (2000 ≤ (l0.length : Int)) = true := decide_eq_true c3
      clear c3
      simp only [Option.some.injEq, Prod.mk.injEq] at H
      obtain ⟨rfl, rfl⟩ := H
      obtain ⟨i04, hi04, _, hsz4, _⟩ := info_parts info5
      obtain ⟨hcut4, hA4, hC4⟩ := print_take_of (P := Try.prog) (Value.int .u8) 0 25 5 .i64 Try.underlying25 hi04 hsz4 A0 c0 l0 2000 (by omega) (of_decide_eq_true (by first | (with_reducible assumption) | assumption)) HC0.out
      have HR230 := Aside0.mk (Kd.C_of_reads (h1 := fun _ => rfl) (hA4 _ (Kd.reads_of_C HR0.out)))
      have HC230 := Aside0.mk hC4
      clear hA4 hC4 hi04 hsz4
      go_enter Try.func18, Try.ntmps18
      go_wp2_with (first | ((with_reducible refine gate_dst (N := 10) rfl ?_); refine box_event ?hg (N := 10) ?hd (cs := #[.slice A0 (l0.take 2000).length c0, .int .i64 0]) (t := 42) ?hr ?_; (case hd => rfl); (case hg => rfl); (case hr => first | (go_simp; done) | (go_simp; rfl)); intro gb231 hg w5 hbox hb; have n0_ := Aside0.mk (below_step HBW.out hb); have n1_ := Aside0.mk (below_step (by repeat (first | (with_reducible first | exact HB.out | apply below_alloc | apply pw_below_drewN | apply below_drew1) | exact HB.out)) hb); have n2_ := Aside0.mk (hbox); have n3_ := Aside0.mk ((by rw [hg]; exact (below_size (by repeat (first | (with_reducible first | exact HBW.out | apply below_alloc | apply pw_below_drewN | apply below_drew1) | exact HBW.out))) : w.heap.size ≤ gb231)); have n4_ := Aside0.mk ((Nat.le_trans HW0.out (by rw [hg]; exact (below_size (by repeat (first | (with_reducible first | exact HBW.out | apply below_alloc | apply pw_below_drewN | apply below_drew1) | exact HBW.out))) : w.heap.size ≤ gb231) : w0.heap.size ≤ gb231)); clear HBW; clear HB; have HBW := n0_; have HB := n1_; have BK231 := n2_; have GW231 := n3_; have GE231 := n4_; clear n0_ n1_ n2_ n3_ n4_; clear hb hbox hg))
      go_ret
      exact ⟨_, rfl, (show IsS42 w0 _ gb231 (l0.take 2000) 0 from ⟨_, _, by (with_reducible repeat (first | refine blk_drewN ?_ _ | refine blk_drew ?_ | refine blk_alloc ?_ _)); exact BK231.out, GE231.out, HR230.out⟩), by repeat (first | (with_reducible first | exact HB.out | apply below_alloc | apply pw_below_drewN | apply below_drew1 | refine below_set ?_ GE231.out) | exact HB.out), by repeat (first | (with_reducible first | exact HBW.out | apply below_alloc | apply pw_below_drewN | apply below_drew1 | refine below_set ?_ GW231.out) | exact HBW.out)⟩
    · rw [if_neg c3] at H
      exact absurd H (by simp)
  · rw [if_neg c2] at H
    have c2b0 : decide (2000 < (l0.length : Int)) = false := decide_eq_false c2
    have c2b1 : decide (2000 < l0.length) = false := decide_eq_false (by omega)
    clear c2
    simp only [Option.some.injEq, Prod.mk.injEq] at H
    obtain ⟨rfl, rfl⟩ := H
    go_enter Try.func18, Try.ntmps18
    go_wp2_with (first | ((with_reducible refine gate_dst (N := 10) rfl ?_); refine box_event ?hg (N := 10) ?hd (cs := #[.slice A0 l0.length c0, .int .i64 0]) (t := 42) ?hr ?_; (case hd => rfl); (case hg => rfl); (case hr => first | (go_simp; done) | (go_simp; rfl)); intro gb232 hg w6 hbox hb; have n0_ := Aside0.mk (below_step HBW.out hb); have n1_ := Aside0.mk (below_step (by repeat (first | (with_reducible first | exact HB.out | apply below_alloc | apply pw_below_drewN | apply below_drew1) | exact HB.out)) hb); have n2_ := Aside0.mk (hbox); have n3_ := Aside0.mk ((by rw [hg]; exact (below_size (by repeat (first | (with_reducible first | exact HBW.out | apply below_alloc | apply pw_below_drewN | apply below_drew1) | exact HBW.out))) : w.heap.size ≤ gb232)); have n4_ := Aside0.mk ((Nat.le_trans HW0.out (by rw [hg]; exact (below_size (by repeat (first | (with_reducible first | exact HBW.out | apply below_alloc | apply pw_below_drewN | apply below_drew1) | exact HBW.out))) : w.heap.size ≤ gb232) : w0.heap.size ≤ gb232)); clear HBW; clear HB; have HBW := n0_; have HB := n1_; have BK232 := n2_; have GW232 := n3_; have GE232 := n4_; clear n0_ n1_ n2_ n3_ n4_; clear hb hbox hg))
    go_ret
    exact ⟨_, rfl, (show IsS42 w0 _ gb232 l0 0 from ⟨_, _, by (with_reducible repeat (first | refine blk_drewN ?_ _ | refine blk_drew ?_ | refine blk_alloc ?_ _)); exact BK232.out, GE232.out, HR0.out⟩), by repeat (first | (with_reducible first | exact HB.out | apply below_alloc | apply pw_below_drewN | apply below_drew1 | refine below_set ?_ GE232.out) | exact HB.out), by repeat (first | (with_reducible first | exact HBW.out | apply below_alloc | apply pw_below_drewN | apply below_drew1 | refine below_set ?_ GW232.out) | exact HBW.out)⟩

/-! ### spec_l6Rd_pick: function 19 -/
def spec_l6Rd_pick.j0 : Nat → Int → Bool → List Int → Int → Option (Int × Int)
  | 0, _, _, _, _ => none
  | k + 1, x1, x24, x1000, x1001 => if x24 = true then (some (0, x1001)) else (if (wrap64 (x1001 - 1)) < (x1000.length : Int) then (if 0 ≤ (wrap64 (x1001 - 1)) then (if x1 = 0 then (none) else (some (Int.tmod (wrap64 (rd x1000 (wrap64 (x1001 - 1)))) x1, x1001))) else (none)) else (if (x1000.length : Int) = 0 then (none) else (if 0 ≤ (Int.tmod (wrap64 (x1001 - 1)) (x1000.length : Int)) then (if (Int.tmod (wrap64 (x1001 - 1)) (x1000.length : Int)) < (x1000.length : Int) then (if 0 ≤ (Int.tmod (wrap64 ((wrap64 ((wrap64 (x1001 - 1)) * 7)) + 3)) (x1000.length : Int)) then (if (Int.tmod (wrap64 ((wrap64 ((wrap64 (x1001 - 1)) * 7)) + 3)) (x1000.length : Int)) < (x1000.length : Int) then (if x1 = 0 then (none) else (some (Int.tmod (Go.bits .xor .i64 (wrap64 ((wrap64 ((wrap64 ((wrap64 ((wrap64 (rd x1000 (Int.tmod (wrap64 (x1001 - 1)) (x1000.length : Int)))) * 131)) + (wrap64 ((wrap64 (rd x1000 (Int.tmod (wrap64 ((wrap64 ((wrap64 (x1001 - 1)) * 7)) + 3)) (x1000.length : Int)))) * 1117)))) + (wrap64 ((wrap64 (x1001 - 1)) * 29)))) + (wrap64 ((wrap64 (Int.tdiv (wrap64 (x1001 - 1)) (x1000.length : Int))) * 53)))) (wrap64 (Int.tdiv (wrap64 ((wrap64 ((wrap64 ((wrap64 ((wrap64 (rd x1000 (Int.tmod (wrap64 (x1001 - 1)) (x1000.length : Int)))) * 131)) + (wrap64 ((wrap64 (rd x1000 (Int.tmod (wrap64 ((wrap64 ((wrap64 (x1001 - 1)) * 7)) + 3)) (x1000.length : Int)))) * 1117)))) + (wrap64 ((wrap64 (x1001 - 1)) * 29)))) + (wrap64 ((wrap64 (Int.tdiv (wrap64 (x1001 - 1)) (x1000.length : Int))) * 53)))) 64))) x1, x1001))) else (none)) else (none)) else (none)) else (none))))
def spec_l6Rd_pick.f (k : Nat) (s0_0 : List Int) (s0_1 : Int) (a1 : Int) : Option (Int × Int) := if a1 < 1 then (spec_l6Rd_pick.j0 k a1 true s0_0 (wrap64 (s0_1 + 1))) else (spec_l6Rd_pick.j0 k a1 ((s0_0.length : Int) == 0) s0_0 (wrap64 (s0_1 + 1)))
theorem spec_l6Rd_pick.mono_l : ∀ k, (∀ y0 y1 y2 y3, LeO (spec_l6Rd_pick.j0 k y0 y1 y2 y3) (spec_l6Rd_pick.j0 (k + 1) y0 y1 y2 y3))
  | 0 => fun _ _ _ _ r h => by simp [spec_l6Rd_pick.j0] at h
  | k + 1 => by
    have ih0 := spec_l6Rd_pick.mono_l k
    · intro y0 y1 y2 y3
      unfold spec_l6Rd_pick.j0
      repeat' first
      | (with_reducible exact ih0 _ _ _ _)
      | (with_reducible exact LeO.refl _)
      | (with_reducible exact LeO.none _)
      | (with_reducible refine LeO.ite ?_ ?_)
      | (with_reducible refine LeO.bind ?_ (fun _ => ?_))
      | exact ih0 _ _ _ _
      | exact LeO.none _
      | refine LeO.ite ?_ ?_
      | refine LeO.bind ?_ (fun _ => ?_)
theorem spec_l6Rd_pick.mono : ∀ a0 a1 a2 k, LeO (spec_l6Rd_pick.f k a0 a1 a2) (spec_l6Rd_pick.f (k + 1) a0 a1 a2) := by
  intro a0 a1 a2 k
  have ih0 := spec_l6Rd_pick.mono_l k
  unfold spec_l6Rd_pick.f
  repeat' first
      | (with_reducible exact ih0 _ _ _ _)
      | (with_reducible exact LeO.refl _)
      | (with_reducible exact LeO.none _)
      | (with_reducible refine LeO.ite ?_ ?_)
      | (with_reducible refine LeO.bind ?_ (fun _ => ?_))
      | exact ih0 _ _ _ _
      | exact LeO.none _
      | refine LeO.ite ?_ ?_
      | refine LeO.bind ?_ (fun _ => ?_)
set_option maxHeartbeats 8000000 in
set_option maxRecDepth 100000 in
theorem spec_l6Rd_pick.calls (k : Nat) (g : Nat) (s0_0 : List Int) (s0_1 : Int) (a1 : Int) (r1 : Int) (r2 : Int) (w0 w : World) (hI : IsS42 w0 w g s0_0 s0_1) (hB : Below w0.heap.size w0 w) (h : spec_l6Rd_pick.f k s0_0 s0_1 a1 = some (r1, r2)) :
    Calls Try.prog 19 #[.pointer (some ⟨g, 0, none⟩), .int .i64 a1] w fun e w' => e = .returned (.int .i64 r1) ∧ IsS42 w0 w' g s0_0 r2 ∧ Below w0.heap.size w0 w' ∧ KeepBut w w' g none := by
  have HI0 := Aside0.mk hI
  have HK := Aside0.mk (KeepBut.refl w g none)
  have HL := Aside0.mk hB.size
  clear hI
  have HW0 := Aside0.mk hB.size
  have HB := Aside0.mk hB
  clear hB
  have H : (if a1 < 1 then (spec_l6Rd_pick.j0 k a1 true s0_0 (wrap64 (s0_1 + 1))) else (spec_l6Rd_pick.j0 k a1 ((s0_0.length : Int) == 0) s0_0 (wrap64 (s0_1 + 1)))) = some (r1, r2) := h
  clear h
  have HC3 := Aside0.mk H
  clear H
  obtain ⟨ASz4_0, cSz4_0, HGz4, hgz4, HSz4_0⟩ := HI0.out
  have hcz4_0 := cellS42_0 HGz4
  have hcz4_1 := cellS42_1 HGz4
  have hfz4_1 := blk_frozen HGz4 1
  clear HGz4 hgz4
  go_enter Try.func19, Try.ntmps19
  go_upto_region 2 with (fail)
  repeat (go_quiet (fail); go_upto_region 2 with (fail))
  go_cut [24] (fun v24 wc => ∃ (kq : Nat) (x24_2 : Bool), v24 = .bool x24_2 ∧ Aside0 (spec_l6Rd_pick.j0 kq a1 x24_2 s0_0 (wrap64 (s0_1 + 1)) = some (r1, r2)) ∧ Aside0 (kq ≤ k) ∧ Aside0 (IsS42 w0 wc g s0_0 (wrap64 (s0_1 + 1))) ∧ Aside0 (KeepBut w wc g none) ∧ Aside0 (Below w0.heap.size w0 wc))
  case first =>
    have H := HC3.out
    clear HC3
    by_cases c5 : a1 < 1
    · rw [if_pos c5] at H
      have c5b0 : decide (a1 < 1) = true := decide_eq_true c5
      clear c5
      (first | rw [c5b0] | (simp only [i64_w, i32_w]; rw [c5b0]) | skip)
      have H' := Aside0.mk H
      clear H
      go_wp2
      repeat (go_quiet (fail); try go_wp2)
      go_meet
      case rel => exact ⟨_, (true), (by first | rfl | (simp; done) | (simp [*]; done)), H', ⟨by first | omega | exact Nat.le_refl _⟩, ⟨by repeat (first | (with_reducible first | exact HI0.out | apply IsS42.alloc | apply IsS42.drewN | apply IsS42.drew | apply IsS42.set_1) | exact HI0.out)⟩, ⟨by repeat (first | (with_reducible first | exact HK.out | apply KeepBut.set_ | apply keep_drewN | apply keep_drew | apply keep_alloc) | exact HK.out)⟩, ⟨by repeat (first | (with_reducible first | exact HB.out | apply below_alloc | apply pw_below_drewN | apply below_drew1 | refine below_set ?_ (IsS42.ge HI0.out)) | exact HB.out)⟩⟩
    · rw [if_neg c5] at H
      have c5b0 : decide (a1 < 1) = false := decide_eq_false c5
      clear c5
      (first | rw [c5b0] | (simp only [i64_w, i32_w]; rw [c5b0]) | skip)
      have H' := Aside0.mk H
      clear H
      obtain ⟨ASz6_0, cSz6_0, HGz6, hgz6, HSz6_0⟩ := HI0.out
      have hcz6_0 := cellS42_0 HGz6
      have hcz6_1 := cellS42_1 HGz6
      have hfz6_1 := blk_frozen HGz6 1
      clear HGz6 hgz6
      go_wp2
      repeat (go_quiet (fail); try go_wp2)
      go_meet
      case rel => exact ⟨_, (((s0_0.length : Int) == 0)), (by first | rfl | (simp; done) | (simp [*]; done)), H', ⟨by first | omega | exact Nat.le_refl _⟩, ⟨by repeat (first | (with_reducible first | exact HI0.out | apply IsS42.alloc | apply IsS42.drewN | apply IsS42.drew | apply IsS42.set_1) | exact HI0.out)⟩, ⟨by repeat (first | (with_reducible first | exact HK.out | apply KeepBut.set_ | apply keep_drewN | apply keep_drew | apply keep_alloc) | exact HK.out)⟩, ⟨by repeat (first | (with_reducible first | exact HB.out | apply below_alloc | apply pw_below_drewN | apply below_drew1 | refine below_set ?_ (IsS42.ge HI0.out)) | exact HB.out)⟩⟩
  case rest =>
    clear HC3
    try clear c1
    try clear p2
    try clear c5
    try clear c5b0
    try clear p6
    try clear hcz4_0
    try clear hcz4_1
    try clear hcz6_0
    try clear hcz6_1
    try clear hfz4_1
    try clear hfz6_1
    obtain ⟨kq, x24_2, rfl, HA, HJ2, HI0, HK, HB⟩ := hcut
    cases kq with
    | zero => exact absurd HA.out (by simp [spec_l6Rd_pick.j0])
    | succ kj2 =>
      have H := HA.out
      clear HA
      simp only [spec_l6Rd_pick.j0] at H
      by_cases c7 : x24_2 = true
      · subst c7
        have H1 : (some (0, (wrap64 (s0_1 + 1)))) = some (r1, r2) := by rw [if_pos rfl] at H; exact H
        clear H
        have H := H1
        clear H1
        simp only [Option.some.injEq, Prod.mk.injEq] at H
        obtain ⟨rfl, rfl⟩ := H
        go_wp2
        repeat (go_quiet (fail); try go_wp2)
        go_ret
        exact ⟨by first | rfl | (simp [errW_none, errW_some] <;> rfl) | (simp [*, errW_none, errW_some] <;> rfl), by repeat (first | (with_reducible first | exact HI0.out | apply IsS42.alloc | apply IsS42.drewN | apply IsS42.drew | apply IsS42.set_1) | exact HI0.out), by repeat (first | (with_reducible first | exact HB.out | apply below_alloc | apply pw_below_drewN | apply below_drew1 | refine below_set ?_ (IsS42.ge HI0.out)) | exact HB.out), by repeat (first | (with_reducible first | exact HK.out | apply KeepBut.set_ | apply keep_drewN | apply keep_drew | apply keep_alloc) | exact HK.out)⟩
      · replace c7 := Bool.eq_false_iff.mpr c7
        subst c7
        have H1 : (if (wrap64 ((wrap64 (s0_1 + 1)) - 1)) < (s0_0.length : Int) then (if 0 ≤ (wrap64 ((wrap64 (s0_1 + 1)) - 1)) then (if a1 = 0 then (none) else (some (Int.tmod (wrap64 (rd s0_0 (wrap64 ((wrap64 (s0_1 + 1)) - 1)))) a1, (wrap64 (s0_1 + 1))))) else (none)) else (if (s0_0.length : Int) = 0 then (none) else (if 0 ≤ (Int.tmod (wrap64 ((wrap64 (s0_1 + 1)) - 1)) (s0_0.length : Int)) then (if (Int.tmod (wrap64 ((wrap64 (s0_1 + 1)) - 1)) (s0_0.length : Int)) < (s0_0.length : Int) then (if 0 ≤ (Int.tmod (wrap64 ((wrap64 ((wrap64 ((wrap64 (s0_1 + 1)) - 1)) * 7)) + 3)) (s0_0.length : Int)) then (if (Int.tmod (wrap64 ((wrap64 ((wrap64 ((wrap64 (s0_1 + 1)) - 1)) * 7)) + 3)) (s0_0.length : Int)) < (s0_0.length : Int) then (if a1 = 0 then (none) else (some (Int.tmod (Go.bits .xor .i64 (wrap64 ((wrap64 ((wrap64 ((wrap64 ((wrap64 (rd s0_0 (Int.tmod (wrap64 ((wrap64 (s0_1 + 1)) - 1)) (s0_0.length : Int)))) * 131)) + (wrap64 ((wrap64 (rd s0_0 (Int.tmod (wrap64 ((wrap64 ((wrap64 ((wrap64 (s0_1 + 1)) - 1)) * 7)) + 3)) (s0_0.length : Int)))) * 1117)))) + (wrap64 ((wrap64 ((wrap64 (s0_1 + 1)) - 1)) * 29)))) + (wrap64 ((wrap64 (Int.tdiv (wrap64 ((wrap64 (s0_1 + 1)) - 1)) (s0_0.length : Int))) * 53)))) (wrap64 (Int.tdiv (wrap64 ((wrap64 ((wrap64 ((wrap64 ((wrap64 (rd s0_0 (Int.tmod (wrap64 ((wrap64 (s0_1 + 1)) - 1)) (s0_0.length : Int)))) * 131)) + (wrap64 ((wrap64 (rd s0_0 (Int.tmod (wrap64 ((wrap64 ((wrap64 ((wrap64 (s0_1 + 1)) - 1)) * 7)) + 3)) (s0_0.length : Int)))) * 1117)))) + (wrap64 ((wrap64 ((wrap64 (s0_1 + 1)) - 1)) * 29)))) + (wrap64 ((wrap64 (Int.tdiv (wrap64 ((wrap64 (s0_1 + 1)) - 1)) (s0_0.length : Int))) * 53)))) 64))) a1, (wrap64 (s0_1 + 1))))) else (none)) else (none)) else (none)) else (none)))) = some (r1, r2) := by rw [if_neg (show ¬ (false = true) by decide)] at H; exact H
        clear H
        have H := H1
        clear H1
        by_cases c8 : (wrap64 ((wrap64 (s0_1 + 1)) - 1)) < (s0_0.length : Int)
        · rw [if_pos c8] at H
          have c8b0 : decide ((wrap64 ((wrap64 (s0_1 + 1)) - 1)) < (s0_0.length : Int)) = true := decide_eq_true c8
          clear c8
          obtain ⟨ji9, hji9⟩ : ∃ j_ : Int, (wrap64 ((wrap64 (s0_1 + 1)) - 1)) = j_ := ⟨_, rfl⟩
          replace H : (if 0 ≤ (ji9) then (if a1 = 0 then (none) else (some (Int.tmod (wrap64 (rd s0_0 (ji9))) a1, (wrap64 (s0_1 + 1))))) else (none)) = some (r1, r2) := by first | (rw [hji9] at H; exact H) | (simp only [hji9] at H ⊢; exact H)
          (try rw [hji9] at c8b0)
          have hji9w : (IntKind.i64.wrap ((wrap64 (s0_1 + 1)) - 1)) = ji9 := (i64_w _).trans hji9
          by_cases c10 : 0 ≤ (ji9)
          · rw [if_pos c10] at H
            have c10b0 : decide (0 ≤ (ji9)) = true := decide_eq_true c10
            clear c10
            by_cases c11 : a1 = 0
            · rw [if_pos c11] at H
              exact absurd H (by simp)
            · rw [if_neg c11] at H
              have c11b0 : (a1 == 0) = false := beq_eq_false_iff_ne.mpr c11
              have c11b1 : (a1 != 0) = true := bne_iff_ne.mpr c11
              simp only [Option.some.injEq, Prod.mk.injEq] at H
              obtain ⟨rfl, rfl⟩ := H
              obtain ⟨ASz12_0, cSz12_0, HGz12, hgz12, HSz12_0⟩ := HI0.out
              have hcz12_0 := cellS42_0 HGz12
              have hcz12_1 := cellS42_1 HGz12
              have hfz12_1 := blk_frozen HGz12 1
              clear HGz12 hgz12
              have p233 : 0 ≤ ((ji9) : Int) := of_decide_eq_true (by first | (with_reducible assumption) | assumption)
              have q233 : (ji9) < (s0_0.length : Int) := of_decide_eq_true (by first | (with_reducible assumption) | assumption)
              obtain ⟨ad233, e233, hx233_0⟩ := Kd.at_int HSz12_0 (ji9) p233 q233
              cases e233
              replace hx233_0 := pw_cell_below HB.out hx233_0
              replace p233 := eq_true p233
              replace q233 := eq_true q233
              go_wp2
              repeat (go_quiet (fail); try go_wp2)
              go_ret
              exact ⟨by first | rfl | (simp [errW_none, errW_some] <;> rfl) | (simp only [← hji9]; first | rfl | (simp [errW_none, errW_some] <;> rfl)) | (simp [*, errW_none, errW_some] <;> rfl), by repeat (first | (with_reducible first | exact HI0.out | apply IsS42.alloc | apply IsS42.drewN | apply IsS42.drew | apply IsS42.set_1) | exact HI0.out), by repeat (first | (with_reducible first | exact HB.out | apply below_alloc | apply pw_below_drewN | apply below_drew1 | refine below_set ?_ (IsS42.ge HI0.out)) | exact HB.out), by repeat (first | (with_reducible first | exact HK.out | apply KeepBut.set_ | apply keep_drewN | apply keep_drew | apply keep_alloc) | exact HK.out)⟩
          · rw [if_neg c10] at H
            exact absurd H (by simp)
        · rw [if_neg c8] at H
          have c8b0 : decide ((wrap64 ((wrap64 (s0_1 + 1)) - 1)) < (s0_0.length : Int)) = false := decide_eq_false c8
          clear c8
          by_cases c13 : (s0_0.length : Int) = 0
          · rw [if_pos c13] at H
            exact absurd H (by simp)
          · rw [if_neg c13] at H
            have c13b0 : ((s0_0.length : Int) == 0) = false := beq_eq_false_iff_ne.mpr c13
            have c13b1 : ((s0_0.length : Int) != 0) = true := bne_iff_ne.mpr c13
            have c13b2 : ¬ (s0_0 = []) := fun h_ => c13 (by rw [h_]; rfl)
            obtain ⟨ji14, hji14⟩ : ∃ j_ : Int, (Int.tmod (wrap64 ((wrap64 (s0_1 + 1)) - 1)) (s0_0.length : Int)) = j_ := ⟨_, rfl⟩
            replace H : (if 0 ≤ (ji14) then (if (ji14) < (s0_0.length : Int) then (if 0 ≤ (Int.tmod (wrap64 ((wrap64 ((wrap64 ((wrap64 (s0_1 + 1)) - 1)) * 7)) + 3)) (s0_0.length : Int)) then (if (Int.tmod (wrap64 ((wrap64 ((wrap64 ((wrap64 (s0_1 + 1)) - 1)) * 7)) + 3)) (s0_0.length : Int)) < (s0_0.length : Int) then (if a1 = 0 then (none) else (some (Int.tmod (Go.bits .xor .i64 (wrap64 ((wrap64 ((wrap64 ((wrap64 ((wrap64 (rd s0_0 (ji14))) * 131)) + (wrap64 ((wrap64 (rd s0_0 (Int.tmod (wrap64 ((wrap64 ((wrap64 ((wrap64 (s0_1 + 1)) - 1)) * 7)) + 3)) (s0_0.length : Int)))) * 1117)))) + (wrap64 ((wrap64 ((wrap64 (s0_1 + 1)) - 1)) * 29)))) + (wrap64 ((wrap64 (Int.tdiv (wrap64 ((wrap64 (s0_1 + 1)) - 1)) (s0_0.length : Int))) * 53)))) (wrap64 (Int.tdiv (wrap64 ((wrap64 ((wrap64 ((wrap64 ((wrap64 (rd s0_0 (ji14))) * 131)) + (wrap64 ((wrap64 (rd s0_0 (Int.tmod (wrap64 ((wrap64 ((wrap64 ((wrap64 (s0_1 + 1)) - 1)) * 7)) + 3)) (s0_0.length : Int)))) * 1117)))) + (wrap64 ((wrap64 ((wrap64 (s0_1 + 1)) - 1)) * 29)))) + (wrap64 ((wrap64 (Int.tdiv (wrap64 ((wrap64 (s0_1 + 1)) - 1)) (s0_0.length : Int))) * 53)))) 64))) a1, (wrap64 (s0_1 + 1))))) else (none)) else (none)) else (none)) else (none)) = some (r1, r2) := by first | (rw [hji14] at H; exact H) | (simp only [hji14] at H ⊢; exact H)
            by_cases c15 : 0 ≤ (ji14)
            · rw [if_pos c15] at H
              have c15b0 : decide (0 ≤ (ji14)) = true := decide_eq_true c15
              clear c15
              by_cases c16 : (ji14) < (s0_0.length : Int)
              · rw [if_pos c16] at H
                have c16b0 : decide ((ji14) < (s0_0.length : Int)) = true := decide_eq_true c16
                clear c16
                obtain ⟨ji17, hji17⟩ : ∃ j_ : Int, (Int.tmod (wrap64 ((wrap64 ((wrap64 ((wrap64 (s0_1 + 1)) - 1)) * 7)) + 3)) (s0_0.length : Int)) = j_ := ⟨_, rfl⟩
                replace H : (if 0 ≤ (ji17) then (if (ji17) < (s0_0.length : Int) then (if a1 = 0 then (none) else (some (Int.tmod (Go.bits .xor .i64 (wrap64 ((wrap64 ((wrap64 ((wrap64 ((wrap64 (rd s0_0 (ji14))) * 131)) + (wrap64 ((wrap64 (rd s0_0 (ji17))) * 1117)))) + (wrap64 ((wrap64 ((wrap64 (s0_1 + 1)) - 1)) * 29)))) + (wrap64 ((wrap64 (Int.tdiv (wrap64 ((wrap64 (s0_1 + 1)) - 1)) (s0_0.length : Int))) * 53)))) (wrap64 (Int.tdiv (wrap64 ((wrap64 ((wrap64 ((wrap64 ((wrap64 (rd s0_0 (ji14))) * 131)) + (wrap64 ((wrap64 (rd s0_0 (ji17))) * 1117)))) + (wrap64 ((wrap64 ((wrap64 (s0_1 + 1)) - 1)) * 29)))) + (wrap64 ((wrap64 (Int.tdiv (wrap64 ((wrap64 (s0_1 + 1)) - 1)) (s0_0.length : Int))) * 53)))) 64))) a1, (wrap64 (s0_1 + 1))))) else (none)) else (none)) = some (r1, r2) := by first | (rw [hji17] at H; exact H) | (simp only [hji17] at H ⊢; exact H)
                by_cases c18 : 0 ≤ (ji17)
                · rw [if_pos c18] at H
                  have c18b0 : decide (0 ≤ (ji17)) = true := decide_eq_true c18
                  clear c18
                  by_cases c19 : (ji17) < (s0_0.length : Int)
                  · rw [if_pos c19] at H
                    have c19b0 : decide ((ji17) < (s0_0.length : Int)) = true := decide_eq_true c19
                    clear c19
                    by_cases c20 : a1 = 0
                    · rw [if_pos c20] at H
                      exact absurd H (by simp)
                    · rw [if_neg c20] at H
                      have c20b0 : (a1 == 0) = false := beq_eq_false_iff_ne.mpr c20
                      have c20b1 : (a1 != 0) = true := bne_iff_ne.mpr c20
                      simp only [Option.some.injEq, Prod.mk.injEq] at H
                      obtain ⟨rfl, rfl⟩ := H
                      obtain ⟨ASz21_0, cSz21_0, HGz21, hgz21, HSz21_0⟩ := HI0.out
                      have hcz21_0 := cellS42_0 HGz21
                      have hcz21_1 := cellS42_1 HGz21
                      have hfz21_1 := blk_frozen HGz21 1
                      clear HGz21 hgz21
                      have p234 : 0 ≤ ((ji14) : Int) := of_decide_eq_true (by first | (with_reducible assumption) | assumption)
                      have q234 : (ji14) < (s0_0.length : Int) := of_decide_eq_true (by first | (with_reducible assumption) | assumption)
                      obtain ⟨ad234, e234, hx234_0⟩ := Kd.at_int HSz21_0 (ji14) p234 q234
                      cases e234
                      replace hx234_0 := pw_cell_below HB.out hx234_0
                      replace p234 := eq_true p234
                      replace q234 := eq_true q234
                      have p235 : 0 ≤ ((ji17) : Int) := of_decide_eq_true (by first | (with_reducible assumption) | assumption)
                      have q235 : (ji17) < (s0_0.length : Int) := of_decide_eq_true (by first | (with_reducible assumption) | assumption)
                      obtain ⟨ad235, e235, hx235_0⟩ := Kd.at_int HSz21_0 (ji17) p235 q235
                      obtain rfl : ad234 = ad235 := (by injection e235)
                      replace hx235_0 := pw_cell_below HB.out hx235_0
                      replace p235 := eq_true p235
                      replace q235 := eq_true q235
                      go_wp2
                      repeat (go_quiet (fail); try go_wp2)
                      go_ret
                      exact ⟨by first | rfl | (simp [errW_none, errW_some] <;> rfl) | (simp only [← hji14, ← hji17]; first | rfl | (simp [errW_none, errW_some] <;> rfl)) | (simp [*, errW_none, errW_some] <;> rfl), by repeat (first | (with_reducible first | exact HI0.out | apply IsS42.alloc | apply IsS42.drewN | apply IsS42.drew | apply IsS42.set_1) | exact HI0.out), by repeat (first | (with_reducible first | exact HB.out | apply below_alloc | apply pw_below_drewN | apply below_drew1 | refine below_set ?_ (IsS42.ge HI0.out)) | exact HB.out), by repeat (first | (with_reducible first | exact HK.out | apply KeepBut.set_ | apply keep_drewN | apply keep_drew | apply keep_alloc) | exact HK.out)⟩
                  · rw [if_neg c19] at H
                    exact absurd H (by simp)
                · rw [if_neg c18] at H
                  exact absurd H (by simp)
              · rw [if_neg c16] at H
                exact absurd H (by simp)
            · rw [if_neg c15] at H
              exact absurd H (by simp)

/-! ### spec_DrawSolidCount: function 8 -/
def spec_DrawSolidCount.f (k : Nat) (l0 : List Int) : Option (Int) := (spec_l6Open.f l0).bind fun bt236 => ((spec_l6Rd_pick.f k bt236.1 bt236.2 3).bind fun bt239 => ((spec_l6Rd_pick.f k bt236.1 bt239.2 12).bind fun bt241 => ((spec_l6Rd_pick.f k bt236.1 bt241.2 12).bind fun bt243 => (some (wrap64 ((wrap64 ((wrap64 (1 + bt239.1)) + (wrap64 (Int.tdiv bt241.1 11)))) - (wrap64 (Int.tdiv bt243.1 11))))))))
theorem spec_DrawSolidCount.mono : ∀ a0 k, LeO (spec_DrawSolidCount.f k a0) (spec_DrawSolidCount.f (k + 1) a0) := by
  intro a0 k
  unfold spec_DrawSolidCount.f
  repeat' first
      | (with_reducible exact spec_l6Rd_pick.mono _ _ _ _)
      | (with_reducible exact LeO.refl _)
      | (with_reducible exact LeO.none _)
      | (with_reducible refine LeO.ite ?_ ?_)
      | (with_reducible refine LeO.bind ?_ (fun _ => ?_))
      | exact spec_l6Rd_pick.mono _ _ _ _
      | exact LeO.none _
      | refine LeO.ite ?_ ?_
      | refine LeO.bind ?_ (fun _ => ?_)
set_option maxHeartbeats 8000000 in
set_option maxRecDepth 100000 in
theorem spec_DrawSolidCount.calls (k : Nat) (A0 : Option Addr) (c0 : Nat) (l0 : List Int) (r : Int) (w : World) (hr0 : Kd.C (Kd.int .u8) w A0 l0.length l0) (hc0 : l0.length ≤ c0) (h : spec_DrawSolidCount.f k l0 = some r) :
    Calls Try.prog 8 #[.slice A0 l0.length c0] w fun e w' => e = .returned (.int .i64 r) ∧ Below w.heap.size w w' := by
  have HR0 := Aside0.mk hr0
  have HC0 := Aside0.mk hc0
  clear hr0 hc0
  have HB := Aside0.mk (Below.refl w.heap.size w)
  have H : ((spec_l6Open.f l0).bind fun bt236 => ((spec_l6Rd_pick.f k bt236.1 bt236.2 3).bind fun bt239 => ((spec_l6Rd_pick.f k bt236.1 bt239.2 12).bind fun bt241 => ((spec_l6Rd_pick.f k bt236.1 bt241.2 12).bind fun bt243 => (some (wrap64 ((wrap64 ((wrap64 (1 + bt239.1)) + (wrap64 (Int.tdiv bt241.1 11)))) - (wrap64 (Int.tdiv bt243.1 11))))))))) = some r := h
  clear h
  replace H := Option.bind_eq_some_iff.mp H
  obtain ⟨⟨t236, t237⟩, A20, H⟩ := H
  replace H : ((spec_l6Rd_pick.f k t236 t237 3).bind fun bt239 => ((spec_l6Rd_pick.f k t236 bt239.2 12).bind fun bt241 => ((spec_l6Rd_pick.f k t236 bt241.2 12).bind fun bt243 => (some (wrap64 ((wrap64 ((wrap64 (1 + bt239.1)) + (wrap64 (Int.tdiv bt241.1 11)))) - (wrap64 (Int.tdiv bt243.1 11)))))))) = some r := H
  have A2 := Aside0.mk A20
  clear A20
  replace H := Option.bind_eq_some_iff.mp H
  obtain ⟨⟨t239, t240⟩, A30, H⟩ := H
  replace H : ((spec_l6Rd_pick.f k t236 t240 12).bind fun bt241 => ((spec_l6Rd_pick.f k t236 bt241.2 12).bind fun bt243 => (some (wrap64 ((wrap64 ((wrap64 (1 + t239)) + (wrap64 (Int.tdiv bt241.1 11)))) - (wrap64 (Int.tdiv bt243.1 11))))))) = some r := H
  have A3 := Aside0.mk A30
  clear A30
  replace H := Option.bind_eq_some_iff.mp H
  obtain ⟨⟨t241, t242⟩, A40, H⟩ := H
  replace H : ((spec_l6Rd_pick.f k t236 t242 12).bind fun bt243 => (some (wrap64 ((wrap64 ((wrap64 (1 + t239)) + (wrap64 (Int.tdiv t241 11)))) - (wrap64 (Int.tdiv bt243.1 11)))))) = some r := H
  have A4 := Aside0.mk A40
  clear A40
  replace H := Option.bind_eq_some_iff.mp H
  obtain ⟨⟨t243, t244⟩, A50, H⟩ := H
  replace H : (some (wrap64 ((wrap64 ((wrap64 (1 + t239)) + (wrap64 (Int.tdiv t241 11)))) - (wrap64 (Int.tdiv t243 11))))) = some r := H
  have A5 := Aside0.mk A50
  clear A50
  obtain rfl := Option.some.inj H
  go_enter Try.func8, Try.ntmps8
  go_wp2_with (first | ((with_reducible refine gate_callee (f := 18) rfl ?_); refine goesL_ (some 5) rfl rfl Try.func18 (by kernel_rfl) rfl #[.slice A0 l0.length c0] rfl (by (try simp only [List.map_toArray, List.map_cons, List.map_nil]); first | done | rfl | (simp only [List.length_drop, List.length_take]; rfl)) ?_; (with_reducible refine (spec_l6Open.calls _ _ l0 t236 t237 w _ ?side1 ?side2 ?side3 A2.out).mono ?_); (case side1 => repeat (first | (with_reducible first | exact HB.out | apply below_alloc | apply pw_below_drewN | apply below_drew1) | exact HB.out)); (case side2 => exact HR0.out); (case side3 => exact HC0.out); rintro e w6 ⟨g238, rfl, hi, hb, hb2⟩; refine ⟨_, rfl, ?_⟩; have n0_ := Aside0.mk (hb); have n1_ := Aside0.mk (hi); clear HB; have HB := n0_; have HI238 := n1_; clear n0_ n1_; (try clear hb); (try clear hb2); (try clear hk); (try clear hi)) | ((with_reducible refine gate_callee (f := 19) rfl ?_); refine goesL_ (some 7) rfl rfl Try.func19 (by kernel_rfl) rfl #[.pointer (some ⟨g238, 0, none⟩), .int .i64 3] rfl (by (try simp only [List.map_toArray, List.map_cons, List.map_nil]); first | done | rfl | (simp only [List.length_drop, List.length_take]; rfl)) ?_; (with_reducible refine (spec_l6Rd_pick.calls k g238 t236 t237 3 t239 t240 w _ ?side1 ?side2 A3.out).mono ?_); (case side1 => repeat (first | (with_reducible first | exact HI238.out | apply IsS42.alloc | apply IsS42.drewN | apply IsS42.drew | apply IsS42.set_1) | exact HI238.out)); (case side2 => repeat (first | (with_reducible first | exact HB.out | apply below_alloc | apply pw_below_drewN | apply below_drew1 | refine below_set ?_ (IsS42.ge HI238.out)) | exact HB.out)); rintro e w7 ⟨rfl, hi, hb, hk⟩; refine ⟨_, rfl, ?_⟩; have n0_ := Aside0.mk (hb); have n1_ := Aside0.mk (hi); clear HB; clear HI238; have HB := n0_; have HI238 := n1_; clear n0_ n1_; (try clear hb); (try clear hb2); (try clear hk); (try clear hi)) | ((with_reducible refine gate_callee (f := 19) rfl ?_); refine goesL_ (some 10) rfl rfl Try.func19 (by kernel_rfl) rfl #[.pointer (some ⟨g238, 0, none⟩), .int .i64 12] rfl (by (try simp only [List.map_toArray, List.map_cons, List.map_nil]); first | done | rfl | (simp only [List.length_drop, List.length_take]; rfl)) ?_; (with_reducible refine (spec_l6Rd_pick.calls k g238 t236 t240 12 t241 t242 w _ ?side1 ?side2 A4.out).mono ?_); (case side1 => repeat (first | (with_reducible first | exact HI238.out | apply IsS42.alloc | apply IsS42.drewN | apply IsS42.drew | apply IsS42.set_1) | exact HI238.out)); (case side2 => repeat (first | (with_reducible first | exact HB.out | apply below_alloc | apply pw_below_drewN | apply below_drew1 | refine below_set ?_ (IsS42.ge HI238.out)) | exact HB.out)); rintro e w8 ⟨rfl, hi, hb, hk⟩; refine ⟨_, rfl, ?_⟩; have n0_ := Aside0.mk (hb); have n1_ := Aside0.mk (hi); clear HB; clear HI238; have HB := n0_; have HI238 := n1_; clear n0_ n1_; (try clear hb); (try clear hb2); (try clear hk); (try clear hi)) | ((with_reducible refine gate_callee (f := 19) rfl ?_); refine goesL_ (some 14) rfl rfl Try.func19 (by kernel_rfl) rfl #[.pointer (some ⟨g238, 0, none⟩), .int .i64 12] rfl (by (try simp only [List.map_toArray, List.map_cons, List.map_nil]); first | done | rfl | (simp only [List.length_drop, List.length_take]; rfl)) ?_; (with_reducible refine (spec_l6Rd_pick.calls k g238 t236 t242 12 t243 t244 w _ ?side1 ?side2 A5.out).mono ?_); (case side1 => repeat (first | (with_reducible first | exact HI238.out | apply IsS42.alloc | apply IsS42.drewN | apply IsS42.drew | apply IsS42.set_1) | exact HI238.out)); (case side2 => repeat (first | (with_reducible first | exact HB.out | apply below_alloc | apply pw_below_drewN | apply below_drew1 | refine below_set ?_ (IsS42.ge HI238.out)) | exact HB.out)); rintro e w9 ⟨rfl, hi, hb, hk⟩; refine ⟨_, rfl, ?_⟩; have n0_ := Aside0.mk (hb); have n1_ := Aside0.mk (hi); clear HB; clear HI238; have HB := n0_; have HI238 := n1_; clear n0_ n1_; (try clear hb); (try clear hb2); (try clear hk); (try clear hi)))
  go_ret
  exact ⟨by first | rfl | (simp [errW_none, errW_some] <;> rfl) | (simp [*, errW_none, errW_some] <;> rfl), by repeat (first | (with_reducible first | exact HB.out | apply below_alloc | apply pw_below_drewN | apply below_drew1 | refine below_set ?_ (IsS42.ge HI238.out)) | exact HB.out)⟩

end Go.Proofs.Ytfigjcnhchpobaa.PFnSolidCount
