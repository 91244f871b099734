-- Made by hprint.py (wip/) out of the translation; not trusted: Lean checks it.
import Derived.Test.YtfigjcnhchpobaaPFnExactSolidCountx0
import Derived.Test.YtfigjcnhchpobaaPFnExactSolidCountx4
import Derived.Test.YtfigjcnhchpobaaPFnExactSolidCountx7
import Derived.Test.YtfigjcnhchpobaaPFnExactSolidCountx8
namespace Go.Proofs.Ytfigjcnhchpobaa.PFnExactSolidCount
open Go.RowKit Go.Proofs.YtfigjcnhchpobaaW.PrintWords Go.Proofs.YtfigjcnhchpobaaW.PrintLast Go.Proofs.YtfigjcnhchpobaaW.PrintMore
attribute [local go_sem] max2_int min2_int max_two min_two max_three min_three max_four min_four   -- for this text's walks alone
set_option linter.unusedVariables false
set_option linter.unusedSimpArgs false

/-! ### impl_firstNamed: function 17 -/
def impl_firstNamed.l0 : Nat → List Int → List Int → Int → Option (List Int)
  | 0, _, _, _ => none
  | k + 1, x0, x3, x8 => if x8 < 256 then ((some (([wrap64 (Int.tdiv x8 64), Int.tmod (wrap64 (Int.tdiv x8 16)) 4, Int.tmod (wrap64 (Int.tdiv x8 4)) 4, Int.tmod x8 4] : List Int) : List Int)).bind fun y222 => ((impl_isOrder.f k y222).bind fun t225 => (if t225 = true then ((impl_named.f k x0 y222).bind fun t226 => ((slices_Compare_int_int.f k t226 x3).bind fun t229 => (if t229 < 0 then (impl_firstNamed.l0 k x0 t226 (wrap64 (x8 + 1))) else (impl_firstNamed.l0 k x0 x3 (wrap64 (x8 + 1)))))) else (impl_firstNamed.l0 k x0 x3 (wrap64 (x8 + 1)))))) else ((slices_Clone_int_int.f x3).bind fun t219 => (some t219))
def impl_firstNamed.f (k : Nat) (l0 : List Int) : Option (List Int) := impl_firstNamed.l0 k l0 l0 0
theorem impl_firstNamed.mono_l : ∀ k, (∀ y0 y1 y2, LeO (impl_firstNamed.l0 k y0 y1 y2) (impl_firstNamed.l0 (k + 1) y0 y1 y2))
  | 0 => fun _ _ _ r h => by simp [impl_firstNamed.l0] at h
  | k + 1 => by
    have ih0 := impl_firstNamed.mono_l k
    · intro y0 y1 y2
      unfold impl_firstNamed.l0
      repeat' first
      | (with_reducible exact ih0 _ _ _)
      | (with_reducible exact impl_isOrder.mono _ _)
      | (with_reducible exact impl_named.mono _ _ _)
      | (with_reducible exact slices_Compare_int_int.mono _ _ _)
      | (with_reducible exact LeO.refl _)
      | (with_reducible exact LeO.none _)
      | (with_reducible refine LeO.ite ?_ ?_)
      | (with_reducible refine LeO.bind ?_ (fun _ => ?_))
      | exact ih0 _ _ _
      | exact impl_isOrder.mono _ _
      | exact impl_named.mono _ _ _
      | exact slices_Compare_int_int.mono _ _ _
      | exact LeO.none _
      | refine LeO.ite ?_ ?_
      | refine LeO.bind ?_ (fun _ => ?_)
theorem impl_firstNamed.mono : ∀ a0 k, LeO (impl_firstNamed.f k a0) (impl_firstNamed.f (k + 1) a0) := by
  intro a0 k
  have ih0 := impl_firstNamed.mono_l k
  unfold impl_firstNamed.f
  repeat' first
      | (with_reducible exact ih0 _ _ _)
      | (with_reducible exact impl_isOrder.mono _ _)
      | (with_reducible exact impl_named.mono _ _ _)
      | (with_reducible exact slices_Compare_int_int.mono _ _ _)
      | (with_reducible exact LeO.refl _)
      | (with_reducible exact LeO.none _)
      | (with_reducible refine LeO.ite ?_ ?_)
      | (with_reducible refine LeO.bind ?_ (fun _ => ?_))
      | exact ih0 _ _ _
      | exact impl_isOrder.mono _ _
      | exact impl_named.mono _ _ _
      | exact slices_Compare_int_int.mono _ _ _
      | exact LeO.none _
      | refine LeO.ite ?_ ?_
      | refine LeO.bind ?_ (fun _ => ?_)
set_option maxHeartbeats 8000000 in
set_option maxRecDepth 100000 in
theorem impl_firstNamed.calls (k : Nat) (P0_ : Nat → Prop) (A0 : Option Addr) (c0 : Nat) (l0 : List Int) (r : List Int) (w : World) (hs0 : Kd.V (Kd.int .i64) 3 w w.heap.size (fun k_ => P0_ k_) (.slice A0 l0.length c0) l0) (h : impl_firstNamed.f k l0 = some r) :
    Calls Try.prog 17 #[.slice A0 l0.length c0] w fun e w' => ∃ v0_ : Value, e = .returned (v0_) ∧ Kd.R (Kd.int .i64) 3 w' w.heap.size (fun k_ => (w.heap.size ≤ k_)) v0_ r ∧ Below w.heap.size w w' := by
  have HO0 := Aside0.mk (show Kd.V (Kd.int .i64) 3 w w.heap.size (fun k_ => (P0_ k_ ∨ w.heap.size ≤ k_)) (.slice A0 l0.length c0) l0 from Kd.V_mono hs0 (fun k_ hk => .inl hk))
  have HB := Aside0.mk (Below.refl w.heap.size w)
  have H : (impl_firstNamed.l0 k l0 l0 0) = some r := h
  clear h
  have H' := Aside0.mk H
  clear H
  go_enter Try.func17, Try.ntmps17
  go_wp2
  go_loopg [3, 8] k (fun kq v3 v8 w' => ∃ (x3_1 : List Int) (x8_1 : Int), v8 = .int .i64 x8_1 ∧ Aside0 (impl_firstNamed.l0 kq l0 x3_1 x8_1 = some r) ∧ Aside0 (kq ≤ k) ∧ Aside0 (Kd.V (Kd.int .i64) 3 w' w.heap.size (fun k_ => (P0_ k_ ∨ w.heap.size ≤ k_)) (.slice A0 l0.length c0) l0) ∧ Aside0 (Kd.V (Kd.int .i64) 3 w' w.heap.size (fun k_ => (P0_ k_ ∨ w.heap.size ≤ k_)) v3 x3_1) ∧ Aside0 (Below w.heap.size w w'))
  case atStart => exact ⟨(l0), (0), (by first | rfl | (simp; done) | (simp [*]; done)), H', ⟨Nat.le_refl _⟩, ⟨by (with_reducible repeat (first | apply Kd.V_alloc | apply Kd.V_drewN | apply Kd.V_drew)); exact HO0.out⟩, ⟨by (with_reducible repeat (first | apply Kd.V_alloc | apply Kd.V_drewN | apply Kd.V_drew)); exact HO0.out⟩, ⟨by repeat (first | (with_reducible first | exact HB.out | apply below_alloc | apply pw_below_drewN | apply below_drew1) | exact HB.out)⟩⟩
  case round =>
    clear H'
    try clear c1
    obtain ⟨x3_1, x8_1, rfl, HA, HK1, HO_0, HO_3, HB⟩ := hrel
    cases gk with
    | zero => exact absurd HA.out (by simp [impl_firstNamed.l0])
    | succ k1 =>
      have H := HA.out
      clear HA
      simp only [impl_firstNamed.l0] at H
      by_cases c2 : x8_1 < 256
      · rw [if_pos c2] at H
        have c2b0 : decide (x8_1 < 256) = true := decide_eq_true c2
        clear c2
        obtain ⟨y222, hy222⟩ : ∃ y_ : List Int, y_ = (([wrap64 (Int.tdiv x8_1 64), Int.tmod (wrap64 (Int.tdiv x8_1 16)) 4, Int.tmod (wrap64 (Int.tdiv x8_1 4)) 4, Int.tmod x8_1 4] : List Int)) := ⟨_, rfl⟩
        replace H : ((impl_isOrder.f k1 y222).bind fun t225 => (if t225 = true then ((impl_named.f k1 l0 y222).bind fun t226 => ((slices_Compare_int_int.f k1 t226 x3_1).bind fun t229 => (if t229 < 0 then (impl_firstNamed.l0 k1 l0 t226 (wrap64 (x8_1 + 1))) else (impl_firstNamed.l0 k1 l0 x3_1 (wrap64 (x8_1 + 1)))))) else (impl_firstNamed.l0 k1 l0 x3_1 (wrap64 (x8_1 + 1))))) = some r := by first | (rw [hy222]; with_reducible exact H) | (have H2_ := (Option.bind_some _ _).symm.trans H; rw [hy222]; with_reducible exact H2_) | (have H2_ := (Option.bind_some _ _).symm.trans H; with_reducible exact H2_) | with_reducible exact H | (rw [hy222]; exact H) | exact H
        have Ny222 := Aside0.mk hy222
        clear hy222
        replace H := Option.bind_eq_some_iff.mp H
        obtain ⟨t225, A30, H⟩ := H
        replace H : (if t225 = true then ((impl_named.f k1 l0 y222).bind fun t226 => ((slices_Compare_int_int.f k1 t226 x3_1).bind fun t229 => (if t229 < 0 then (impl_firstNamed.l0 k1 l0 t226 (wrap64 (x8_1 + 1))) else (impl_firstNamed.l0 k1 l0 x3_1 (wrap64 (x8_1 + 1)))))) else (impl_firstNamed.l0 k1 l0 x3_1 (wrap64 (x8_1 + 1)))) = some r := H
        have A3 := Aside0.mk A30
        clear A30
        by_cases c4 : t225 = true
        · subst c4
          have H1 : ((impl_named.f k1 l0 y222).bind fun t226 => ((slices_Compare_int_int.f k1 t226 x3_1).bind fun t229 => (if t229 < 0 then (impl_firstNamed.l0 k1 l0 t226 (wrap64 (x8_1 + 1))) else (impl_firstNamed.l0 k1 l0 x3_1 (wrap64 (x8_1 + 1)))))) = some r := by rw [if_pos rfl] at H; exact H
          clear H
          have H := H1
          clear H1
          replace H := Option.bind_eq_some_iff.mp H
          obtain ⟨t226, A50, H⟩ := H
          replace H : ((slices_Compare_int_int.f k1 t226 x3_1).bind fun t229 => (if t229 < 0 then (impl_firstNamed.l0 k1 l0 t226 (wrap64 (x8_1 + 1))) else (impl_firstNamed.l0 k1 l0 x3_1 (wrap64 (x8_1 + 1))))) = some r := H
          have A5 := Aside0.mk A50
          clear A50
          replace H := Option.bind_eq_some_iff.mp H
          obtain ⟨t229, A60, H⟩ := H
          replace H : (if t229 < 0 then (impl_firstNamed.l0 k1 l0 t226 (wrap64 (x8_1 + 1))) else (impl_firstNamed.l0 k1 l0 x3_1 (wrap64 (x8_1 + 1)))) = some r := H
          have A6 := Aside0.mk A60
          clear A60
          by_cases c7 : t229 < 0
          · rw [if_pos c7] at H
            have c7b0 : decide (t229 < 0) = true := decide_eq_true c7
            clear c7
            have H' := Aside0.mk H
            clear H
            go_wp2_with (first | ((with_reducible refine gate_dst (N := 21) rfl ?_); refine Kd.R_lit (Kd.int .i64) _ 3 ?hg (N := 21) ?hd (xs := ([wrap64 (Int.tdiv x8_1 64), Int.tmod (wrap64 (Int.tdiv x8_1 16)) 4, Int.tmod (wrap64 (Int.tdiv x8_1 4)) 4, Int.tmod x8_1 4] : List Int)) (inner := [.int .i64 (wrap64 (Int.tdiv x8_1 64)), .int .i64 (Int.tmod (wrap64 (Int.tdiv x8_1 16)) 4), .int .i64 (Int.tmod (wrap64 (Int.tdiv x8_1 4)) 4), .int .i64 (Int.tmod x8_1 4)]) (ok := fun _ => True) (okp := fun _ => True) ?hr ?hp (fun _ hk => hk) trivial (Below.refl _ _) (Nat.le_refl _) (by simp) ?_; (case hd => rfl); (case hg => rfl); (case hr => first | (go_simp; done) | (go_simp; rfl)); (case hp => exact (Reps.one (show Kd.M (Kd.int .i64) _ _ _ (wrap64 (Int.tdiv x8_1 64)) [.int .i64 (wrap64 (Int.tdiv x8_1 64))] from rfl) (Reps.one (show Kd.M (Kd.int .i64) _ _ _ (Int.tmod (wrap64 (Int.tdiv x8_1 16)) 4) [.int .i64 (Int.tmod (wrap64 (Int.tdiv x8_1 16)) 4)] from rfl) (Reps.one (show Kd.M (Kd.int .i64) _ _ _ (Int.tmod (wrap64 (Int.tdiv x8_1 4)) 4) [.int .i64 (Int.tmod (wrap64 (Int.tdiv x8_1 4)) 4)] from rfl) (Reps.one (show Kd.M (Kd.int .i64) _ _ _ (Int.tmod x8_1 4) [.int .i64 (Int.tmod x8_1 4)] from rfl) (Reps.none _ _)))))); intro v223 w8 ho9 hb hg_ hnew_; clear hg_ hnew_; (first | rw [← Ny222.out] at ho9 | (simp only [Int.reduceToNat] at ho9; rw [← Ny222.out] at ho9)); have n0_ := Aside0.mk (Kd.V_elder' (by (with_reducible repeat (first | apply Kd.V_alloc | apply Kd.V_drewN | apply Kd.V_drew)); exact HO_0.out) (Kd.R_base ho9) hb); have n1_ := Aside0.mk (Kd.V_elder' (by (with_reducible repeat (first | apply Kd.V_alloc | apply Kd.V_drewN | apply Kd.V_drew)); exact HO_3.out) (Kd.R_base ho9) hb); have n2_ := Aside0.mk (Kd.R_lower (Kd.R_newM (M := fun k_ => (w.heap.size ≤ k_)) ho9 (below_size (by repeat (first | (with_reducible first | exact HB.out | apply below_alloc | apply pw_below_drewN | apply below_drew1) | exact HB.out))) (fun k_ h_ => h_)) (below_size (by repeat (first | (with_reducible first | exact HB.out | apply below_alloc | apply pw_below_drewN | apply below_drew1) | exact HB.out)))); have n3_ := Aside0.mk (below_step (by repeat (first | (with_reducible first | exact HB.out | apply below_alloc | apply pw_below_drewN | apply below_drew1) | exact HB.out)) hb); clear HO_0; clear HO_3; clear HB; have HO_0 := n0_; have HO_3 := n1_; have HO224 := n2_; have HB := n3_; clear n0_ n1_ n2_ n3_; clear hb ho9; obtain ⟨Ao10, co10, eo10⟩ := Kd.R_slice HO224.out; subst eo10) | ((with_reducible refine gate_callee (f := 26) rfl ?_); refine goesL_ (some 23) rfl rfl Try.func26 (by kernel_rfl) rfl #[.slice Ao10 y222.length co10] rfl (by (try simp only [List.map_toArray, List.map_cons, List.map_nil]); first | done | rfl | (simp only [List.length_drop, List.length_take]; rfl)) ?_; (with_reducible refine (impl_isOrder.calls k1 _ _ y222 true _ ?side1 ?side2 A3.out).mono ?_); (case side1 => repeat (first | exact (Kd.R_reads' HO224.out).2.2 | (with_reducible refine Kd.C_alloc ?_ _) | (with_reducible refine Kd.C_drewN ?_ _) | (with_reducible refine Kd.C_drew ?_))); (case side2 => exact (Kd.R_reads' HO224.out).2.1); rintro e w' ⟨rfl, ⟨nd, rfl⟩⟩; refine ⟨_, rfl, ?_⟩) | ((with_reducible refine gate_callee (f := 27) rfl ?_); refine goesL_ (some 26) rfl rfl Try.func27 (by kernel_rfl) rfl #[.slice A0 l0.length c0, .slice Ao10 y222.length co10] rfl (by (try simp only [List.map_toArray, List.map_cons, List.map_nil]); first | done | rfl | (simp only [List.length_drop, List.length_take]; rfl)) ?_; (with_reducible refine (impl_named.calls k1 _ _ l0 _ _ y222 t226 _ ?side1 ?side2 ?side3 ?side4 A5.out).mono ?_); (case side1 => repeat (first | exact (Kd.V_reads' HO_0.out).2.2 | (with_reducible refine Kd.C_alloc ?_ _) | (with_reducible refine Kd.C_drewN ?_ _) | (with_reducible refine Kd.C_drew ?_))); (case side2 => exact (Kd.V_reads' HO_0.out).2.1); (case side3 => repeat (first | exact (Kd.R_reads' HO224.out).2.2 | (with_reducible refine Kd.C_alloc ?_ _) | (with_reducible refine Kd.C_drewN ?_ _) | (with_reducible refine Kd.C_drew ?_))); (case side4 => exact (Kd.R_reads' HO224.out).2.1); rintro e w11 ⟨v227, rfl, ho0, hb⟩; refine ⟨_, rfl, ?_⟩; have n0_ := Aside0.mk (Kd.V_elder' (by (with_reducible repeat (first | apply Kd.V_alloc | apply Kd.V_drewN | apply Kd.V_drew)); exact HO_0.out) (Kd.R_base ho0) hb); have n1_ := Aside0.mk (Kd.V_elder' (by (with_reducible repeat (first | apply Kd.V_alloc | apply Kd.V_drewN | apply Kd.V_drew)); exact HO_3.out) (Kd.R_base ho0) hb); have n2_ := Aside0.mk (Kd.R_elder' (by (with_reducible repeat (first | apply Kd.R_alloc | apply Kd.R_drewN | apply Kd.R_drew)); exact HO224.out) (Kd.R_base ho0) hb); have n3_ := Aside0.mk (Kd.R_lower (Kd.R_new' (Kd.R_newM (M := fun k_ => (w.heap.size ≤ k_)) ho0 (below_size (by repeat (first | (with_reducible first | exact HB.out | apply below_alloc | apply pw_below_drewN | apply below_drew1) | exact HB.out))) (fun k_ h_ => h_)) (Kd.R_lt (by (with_reducible repeat (first | apply Kd.R_alloc | apply Kd.R_drewN | apply Kd.R_drew)); exact HO224.out))) (below_size (by repeat (first | (with_reducible first | exact HB.out | apply below_alloc | apply pw_below_drewN | apply below_drew1) | exact HB.out)))); have n4_ := Aside0.mk (below_step (by repeat (first | (with_reducible first | exact HB.out | apply below_alloc | apply pw_below_drewN | apply below_drew1) | exact HB.out)) hb); clear HO_0; clear HO_3; clear HO224; clear HB; have HO_0 := n0_; have HO_3 := n1_; have HO224 := n2_; have HO228 := n3_; have HB := n4_; clear n0_ n1_ n2_ n3_ n4_; (try clear hb); (try clear hb2); (try clear hk); (try clear hi); (try clear ho0); obtain ⟨Ao12, co12, eo12⟩ := Kd.R_slice HO228.out; subst eo12; obtain ⟨Ao13, co13, eo13⟩ := Kd.V_slice HO_3.out; subst eo13) | ((with_reducible refine gate_callee (f := 28) rfl ?_); refine goesL_ (some 29) rfl rfl Try.func28 (by kernel_rfl) rfl #[.slice Ao12 t226.length co12, .slice Ao13 x3_1.length co13] rfl (by (try simp only [List.map_toArray, List.map_cons, List.map_nil]); first | done | rfl | (simp only [List.length_drop, List.length_take]; rfl)) ?_; (with_reducible refine (slices_Compare_int_int.calls k1 _ _ t226 _ _ x3_1 t229 _ ?side1 ?side2 ?side3 ?side4 A6.out).mono ?_); (case side1 => repeat (first | exact (Kd.R_reads' HO228.out).2.2 | (with_reducible refine Kd.C_alloc ?_ _) | (with_reducible refine Kd.C_drewN ?_ _) | (with_reducible refine Kd.C_drew ?_))); (case side2 => exact (Kd.R_reads' HO228.out).2.1); (case side3 => repeat (first | exact (Kd.V_reads' HO_3.out).2.2 | (with_reducible refine Kd.C_alloc ?_ _) | (with_reducible refine Kd.C_drewN ?_ _) | (with_reducible refine Kd.C_drew ?_))); (case side4 => exact (Kd.V_reads' HO_3.out).2.1); rintro e w' ⟨rfl, ⟨nd, rfl⟩⟩; refine ⟨_, rfl, ?_⟩))
            go_roundg k1
            case measure => have := HK1.out; omega
            case rel => exact ⟨(t226), (wrap64 (x8_1 + 1)), (by first | rfl | (simp; done) | (simp [*]; done)), H', ⟨by have := HK1.out; omega⟩, ⟨by (with_reducible repeat (first | apply Kd.V_alloc | apply Kd.V_drewN | apply Kd.V_drew)); exact Kd.V_mono HO_0.out (fun _ hk => hk.1.1)⟩, ⟨Kd.V_mono (Kd.R_V (by (with_reducible repeat (first | apply Kd.R_alloc | apply Kd.R_drewN | apply Kd.R_drew)); exact Kd.R_mono HO228.out (fun _ hk => hk.1.1))) (fun k_ hk => by first | exact ⟨(.inr (hk.1)), hk.2⟩ | exact (.inr (hk)))⟩, ⟨by repeat (first | (with_reducible first | exact HB.out | apply below_alloc | apply pw_below_drewN | apply below_drew1) | exact HB.out)⟩⟩
          · rw [if_neg c7] at H
            have c7b0 : decide (t229 < 0) = false := decide_eq_false c7
            clear c7
            have H' := Aside0.mk H
            clear H
            go_wp2_with (first | ((with_reducible refine gate_dst (N := 21) rfl ?_); refine Kd.R_lit (Kd.int .i64) _ 3 ?hg (N := 21) ?hd (xs := ([wrap64 (Int.tdiv x8_1 64), Int.tmod (wrap64 (Int.tdiv x8_1 16)) 4, Int.tmod (wrap64 (Int.tdiv x8_1 4)) 4, Int.tmod x8_1 4] : List Int)) (inner := [.int .i64 (wrap64 (Int.tdiv x8_1 64)), .int .i64 (Int.tmod (wrap64 (Int.tdiv x8_1 16)) 4), .int .i64 (Int.tmod (wrap64 (Int.tdiv x8_1 4)) 4), .int .i64 (Int.tmod x8_1 4)]) (ok := fun _ => True) (okp := fun _ => True) ?hr ?hp (fun _ hk => hk) trivial (Below.refl _ _) (Nat.le_refl _) (by simp) ?_; (case hd => rfl); (case hg => rfl); (case hr => first | (go_simp; done) | (go_simp; rfl)); (case hp => exact (Reps.one (show Kd.M (Kd.int .i64) _ _ _ (wrap64 (Int.tdiv x8_1 64)) [.int .i64 (wrap64 (Int.tdiv x8_1 64))] from rfl) (Reps.one (show Kd.M (Kd.int .i64) _ _ _ (Int.tmod (wrap64 (Int.tdiv x8_1 16)) 4) [.int .i64 (Int.tmod (wrap64 (Int.tdiv x8_1 16)) 4)] from rfl) (Reps.one (show Kd.M (Kd.int .i64) _ _ _ (Int.tmod (wrap64 (Int.tdiv x8_1 4)) 4) [.int .i64 (Int.tmod (wrap64 (Int.tdiv x8_1 4)) 4)] from rfl) (Reps.one (show Kd.M (Kd.int .i64) _ _ _ (Int.tmod x8_1 4) [.int .i64 (Int.tmod x8_1 4)] from rfl) (Reps.none _ _)))))); intro v223 w14 ho15 hb hg_ hnew_; clear hg_ hnew_; (first | rw [← Ny222.out] at ho15 | (simp only [Int.reduceToNat] at ho15; rw [← Ny222.out] at ho15)); have n0_ := Aside0.mk (Kd.V_elder' (by (with_reducible repeat (first | apply Kd.V_alloc | apply Kd.V_drewN | apply Kd.V_drew)); exact HO_0.out) (Kd.R_base ho15) hb); have n1_ := Aside0.mk (Kd.V_elder' (by (with_reducible repeat (first | apply Kd.V_alloc | apply Kd.V_drewN | apply Kd.V_drew)); exact HO_3.out) (Kd.R_base ho15) hb); have n2_ := Aside0.mk (Kd.R_lower (Kd.R_newM (M := fun k_ => (w.heap.size ≤ k_)) ho15 (below_size (by repeat (first | (with_reducible first | exact HB.out | apply below_alloc | apply pw_below_drewN | apply below_drew1) | exact HB.out))) (fun k_ h_ => h_)) (below_size (by repeat (first | (with_reducible first | exact HB.out | apply below_alloc | apply pw_below_drewN | apply below_drew1) | exact HB.out)))); have n3_ := Aside0.mk (below_step (by repeat (first | (with_reducible first | exact HB.out | apply below_alloc | apply pw_below_drewN | apply below_drew1) | exact HB.out)) hb); clear HO_0; clear HO_3; clear HB; have HO_0 := n0_; have HO_3 := n1_; have HO224 := n2_; have HB := n3_; clear n0_ n1_ n2_ n3_; clear hb ho15; obtain ⟨Ao16, co16, eo16⟩ := Kd.R_slice HO224.out; subst eo16) | ((with_reducible refine gate_callee (f := 26) rfl ?_); refine goesL_ (some 23) rfl rfl Try.func26 (by kernel_rfl) rfl #[.slice Ao16 y222.length co16] rfl (by (try simp only [List.map_toArray, List.map_cons, List.map_nil]); first | done | rfl | (simp only [List.length_drop, List.length_take]; rfl)) ?_; (with_reducible refine (impl_isOrder.calls k1 _ _ y222 true _ ?side1 ?side2 A3.out).mono ?_); (case side1 => repeat (first | exact (Kd.R_reads' HO224.out).2.2 | (with_reducible refine Kd.C_alloc ?_ _) | (with_reducible refine Kd.C_drewN ?_ _) | (with_reducible refine Kd.C_drew ?_))); (case side2 => exact (Kd.R_reads' HO224.out).2.1); rintro e w' ⟨rfl, ⟨nd, rfl⟩⟩; refine ⟨_, rfl, ?_⟩) | ((with_reducible refine gate_callee (f := 27) rfl ?_); refine goesL_ (some 26) rfl rfl Try.func27 (by kernel_rfl) rfl #[.slice A0 l0.length c0, .slice Ao16 y222.length co16] rfl (by (try simp only [List.map_toArray, List.map_cons, List.map_nil]); first | done | rfl | (simp only [List.length_drop, List.length_take]; rfl)) ?_; (with_reducible refine (impl_named.calls k1 _ _ l0 _ _ y222 t226 _ ?side1 ?side2 ?side3 ?side4 A5.out).mono ?_); (case side1 => repeat (first | exact (Kd.V_reads' HO_0.out).2.2 | (with_reducible refine Kd.C_alloc ?_ _) | (with_reducible refine Kd.C_drewN ?_ _) | (with_reducible refine Kd.C_drew ?_))); (case side2 => exact (Kd.V_reads' HO_0.out).2.1); (case side3 => repeat (first | exact (Kd.R_reads' HO224.out).2.2 | (with_reducible refine Kd.C_alloc ?_ _) | (with_reducible refine Kd.C_drewN ?_ _) | (with_reducible refine Kd.C_drew ?_))); (case side4 => exact (Kd.R_reads' HO224.out).2.1); rintro e w17 ⟨v227, rfl, ho0, hb⟩; refine ⟨_, rfl, ?_⟩; have n0_ := Aside0.mk (Kd.V_elder' (by (with_reducible repeat (first | apply Kd.V_alloc | apply Kd.V_drewN | apply Kd.V_drew)); exact HO_0.out) (Kd.R_base ho0) hb); have n1_ := Aside0.mk (Kd.V_elder' (by (with_reducible repeat (first | apply Kd.V_alloc | apply Kd.V_drewN | apply Kd.V_drew)); exact HO_3.out) (Kd.R_base ho0) hb); have n2_ := Aside0.mk (Kd.R_elder' (by (with_reducible repeat (first | apply Kd.R_alloc | apply Kd.R_drewN | apply Kd.R_drew)); exact HO224.out) (Kd.R_base ho0) hb); have n3_ := Aside0.mk (Kd.R_lower (Kd.R_new' (Kd.R_newM (M := fun k_ => (w.heap.size ≤ k_)) ho0 (below_size (by repeat (first | (with_reducible first | exact HB.out | apply below_alloc | apply pw_below_drewN | apply below_drew1) | exact HB.out))) (fun k_ h_ => h_)) (Kd.R_lt (by (with_reducible repeat (first | apply Kd.R_alloc | apply Kd.R_drewN | apply Kd.R_drew)); exact HO224.out))) (below_size (by repeat (first | (with_reducible first | exact HB.out | apply below_alloc | apply pw_below_drewN | apply below_drew1) | exact HB.out)))); have n4_ := Aside0.mk (below_step (by repeat (first | (with_reducible first | exact HB.out | apply below_alloc | apply pw_below_drewN | apply below_drew1) | exact HB.out)) hb); clear HO_0; clear HO_3; clear HO224; clear HB; have HO_0 := n0_; have HO_3 := n1_; have HO224 := n2_; have HO228 := n3_; have HB := n4_; clear n0_ n1_ n2_ n3_ n4_; (try clear hb); (try clear hb2); (try clear hk); (try clear hi); (try clear ho0); obtain ⟨Ao18, co18, eo18⟩ := Kd.R_slice HO228.out; subst eo18; obtain ⟨Ao19, co19, eo19⟩ := Kd.V_slice HO_3.out; subst eo19) | ((with_reducible refine gate_callee (f := 28) rfl ?_); refine goesL_ (some 29) rfl rfl Try.func28 (by kernel_rfl) rfl #[.slice Ao18 t226.length co18, .slice Ao19 x3_1.length co19] rfl (by (try simp only [List.map_toArray, List.map_cons, List.map_nil]); first | done | rfl | (simp only [List.length_drop, List.length_take]; rfl)) ?_; (with_reducible refine (slices_Compare_int_int.calls k1 _ _ t226 _ _ x3_1 t229 _ ?side1 ?side2 ?side3 ?side4 A6.out).mono ?_); (case side1 => repeat (first | exact (Kd.R_reads' HO228.out).2.2 | (with_reducible refine Kd.C_alloc ?_ _) | (with_reducible refine Kd.C_drewN ?_ _) | (with_reducible refine Kd.C_drew ?_))); (case side2 => exact (Kd.R_reads' HO228.out).2.1); (case side3 => repeat (first | exact (Kd.V_reads' HO_3.out).2.2 | (with_reducible refine Kd.C_alloc ?_ _) | (with_reducible refine Kd.C_drewN ?_ _) | (with_reducible refine Kd.C_drew ?_))); (case side4 => exact (Kd.V_reads' HO_3.out).2.1); rintro e w' ⟨rfl, ⟨nd, rfl⟩⟩; refine ⟨_, rfl, ?_⟩))
            go_roundg k1
            case measure => have := HK1.out; omega
            case rel => exact ⟨(x3_1), (wrap64 (x8_1 + 1)), (by first | rfl | (simp; done) | (simp [*]; done)), H', ⟨by have := HK1.out; omega⟩, ⟨by (with_reducible repeat (first | apply Kd.V_alloc | apply Kd.V_drewN | apply Kd.V_drew)); exact Kd.V_mono HO_0.out (fun _ hk => hk.1.1)⟩, ⟨by (with_reducible repeat (first | apply Kd.V_alloc | apply Kd.V_drewN | apply Kd.V_drew)); exact Kd.V_mono HO_3.out (fun _ hk => hk.1.1)⟩, ⟨by repeat (first | (with_reducible first | exact HB.out | apply below_alloc | apply pw_below_drewN | apply below_drew1) | exact HB.out)⟩⟩
        · replace c4 := Bool.eq_false_iff.mpr c4
          subst c4
          have H1 : (impl_firstNamed.l0 k1 l0 x3_1 (wrap64 (x8_1 + 1))) = some r := by rw [if_neg (show ¬ (false = true) by decide)] at H; exact H
          clear H
          have H := H1
          clear H1
          have H' := Aside0.mk H
          clear H
          go_wp2_with (first | ((with_reducible refine gate_dst (N := 21) rfl ?_); refine Kd.R_lit (Kd.int .i64) _ 3 ?hg (N := 21) ?hd (xs := ([wrap64 (Int.tdiv x8_1 64), Int.tmod (wrap64 (Int.tdiv x8_1 16)) 4, Int.tmod (wrap64 (Int.tdiv x8_1 4)) 4, Int.tmod x8_1 4] : List Int)) (inner := [.int .i64 (wrap64 (Int.tdiv x8_1 64)), .int .i64 (Int.tmod (wrap64 (Int.tdiv x8_1 16)) 4), .int .i64 (Int.tmod (wrap64 (Int.tdiv x8_1 4)) 4), .int .i64 (Int.tmod x8_1 4)]) (ok := fun _ => True) (okp := fun _ => True) ?hr ?hp (fun _ hk => hk) trivial (Below.refl _ _) (Nat.le_refl _) (by simp) ?_; (case hd => rfl); (case hg => rfl); (case hr => first | (go_simp; done) | (go_simp; rfl)); (case hp => exact (Reps.one (show Kd.M (Kd.int .i64) _ _ _ (wrap64 (Int.tdiv x8_1 64)) [.int .i64 (wrap64 (Int.tdiv x8_1 64))] from rfl) (Reps.one (show Kd.M (Kd.int .i64) _ _ _ (Int.tmod (wrap64 (Int.tdiv x8_1 16)) 4) [.int .i64 (Int.tmod (wrap64 (Int.tdiv x8_1 16)) 4)] from rfl) (Reps.one (show Kd.M (Kd.int .i64) _ _ _ (Int.tmod (wrap64 (Int.tdiv x8_1 4)) 4) [.int .i64 (Int.tmod (wrap64 (Int.tdiv x8_1 4)) 4)] from rfl) (Reps.one (show Kd.M (Kd.int .i64) _ _ _ (Int.tmod x8_1 4) [.int .i64 (Int.tmod x8_1 4)] from rfl) (Reps.none _ _)))))); intro v223 w20 ho21 hb hg_ hnew_; clear hg_ hnew_; (first | rw [← Ny222.out] at ho21 | (simp only [Int.reduceToNat] at ho21; rw [← Ny222.out] at ho21)); have n0_ := Aside0.mk (Kd.V_elder' (by (with_reducible repeat (first | apply Kd.V_alloc | apply Kd.V_drewN | apply Kd.V_drew)); exact HO_0.out) (Kd.R_base ho21) hb); have n1_ := Aside0.mk (Kd.V_elder' (by (with_reducible repeat (first | apply Kd.V_alloc | apply Kd.V_drewN | apply Kd.V_drew)); exact HO_3.out) (Kd.R_base ho21) hb); have n2_ := Aside0.mk (Kd.R_lower (Kd.R_newM (M := fun k_ => (w.heap.size ≤ k_)) ho21 (below_size (by repeat (first | (with_reducible first | exact HB.out | apply below_alloc | apply pw_below_drewN | apply below_drew1) | exact HB.out))) (fun k_ h_ => h_)) (below_size (by repeat (first | (with_reducible first | exact HB.out | apply below_alloc | apply pw_below_drewN | apply below_drew1) | exact HB.out)))); have n3_ := Aside0.mk (below_step (by repeat (first | (with_reducible first | exact HB.out | apply below_alloc | apply pw_below_drewN | apply below_drew1) | exact HB.out)) hb); clear HO_0; clear HO_3; clear HB; have HO_0 := n0_; have HO_3 := n1_; have HO224 := n2_; have HB := n3_; clear n0_ n1_ n2_ n3_; clear hb ho21; obtain ⟨Ao22, co22, eo22⟩ := Kd.R_slice HO224.out; subst eo22) | ((with_reducible refine gate_callee (f := 26) rfl ?_); refine goesL_ (some 23) rfl rfl Try.func26 (by kernel_rfl) rfl #[.slice Ao22 y222.length co22] rfl (by (try simp only [List.map_toArray, List.map_cons, List.map_nil]); first | done | rfl | (simp only [List.length_drop, List.length_take]; rfl)) ?_; (with_reducible refine (impl_isOrder.calls k1 _ _ y222 false _ ?side1 ?side2 A3.out).mono ?_); (case side1 => repeat (first | exact (Kd.R_reads' HO224.out).2.2 | (with_reducible refine Kd.C_alloc ?_ _) | (with_reducible refine Kd.C_drewN ?_ _) | (with_reducible refine Kd.C_drew ?_))); (case side2 => exact (Kd.R_reads' HO224.out).2.1); rintro e w' ⟨rfl, ⟨nd, rfl⟩⟩; refine ⟨_, rfl, ?_⟩))
          go_roundg k1
          case measure => have := HK1.out; omega
          case rel => exact ⟨(x3_1), (wrap64 (x8_1 + 1)), (by first | rfl | (simp; done) | (simp [*]; done)), H', ⟨by have := HK1.out; omega⟩, ⟨by (with_reducible repeat (first | apply Kd.V_alloc | apply Kd.V_drewN | apply Kd.V_drew)); exact Kd.V_mono HO_0.out (fun _ hk => hk.1)⟩, ⟨by (with_reducible repeat (first | apply Kd.V_alloc | apply Kd.V_drewN | apply Kd.V_drew)); exact Kd.V_mono HO_3.out (fun _ hk => hk.1)⟩, ⟨by repeat (first | (with_reducible first | exact HB.out | apply below_alloc | apply pw_below_drewN | apply below_drew1) | exact HB.out)⟩⟩
      · rw [if_neg c2] at H
        have c2b0 : decide (x8_1 < 256) = false := decide_eq_false c2
        clear c2
        replace H := Option.bind_eq_some_iff.mp H
        obtain ⟨t219, A230, H⟩ := H
        replace H : (some t219) = some r := H
        have A23 := Aside0.mk A230
        clear A230
        obtain rfl := Option.some.inj H
        obtain ⟨Ao24, co24, eo24⟩ := Kd.V_slice HO_3.out
        subst eo24
        go_wp2_with (first | ((with_reducible refine gate_callee (f := 29) rfl ?_); refine goesL_ (some 34) rfl rfl Try.func29 (by kernel_rfl) rfl #[.slice Ao24 x3_1.length co24] rfl (by (try simp only [List.map_toArray, List.map_cons, List.map_nil]); first | done | rfl | (simp only [List.length_drop, List.length_take]; rfl)) ?_; (with_reducible refine (slices_Clone_int_int.calls _ _ x3_1 t219 _ ?side1 ?side2 A23.out).mono ?_); (case side1 => repeat (first | exact (Kd.V_reads' HO_3.out).2.2 | (with_reducible refine Kd.C_alloc ?_ _) | (with_reducible refine Kd.C_drewN ?_ _) | (with_reducible refine Kd.C_drew ?_))); (case side2 => exact (Kd.V_reads' HO_3.out).2.1); rintro e w25 ⟨v220, rfl, ho0, hb⟩; refine ⟨_, rfl, ?_⟩; have n0_ := Aside0.mk (Kd.V_elder' (by (with_reducible repeat (first | apply Kd.V_alloc | apply Kd.V_drewN | apply Kd.V_drew)); exact HO_0.out) (Kd.R_base ho0) hb); have n1_ := Aside0.mk (Kd.V_elder' (by (with_reducible repeat (first | apply Kd.V_alloc | apply Kd.V_drewN | apply Kd.V_drew)); exact HO_3.out) (Kd.R_base ho0) hb); have n2_ := Aside0.mk (Kd.R_lower (Kd.R_newM (M := fun k_ => (w.heap.size ≤ k_)) ho0 (below_size (by repeat (first | (with_reducible first | exact HB.out | apply below_alloc | apply pw_below_drewN | apply below_drew1) | exact HB.out))) (fun k_ h_ => h_)) (below_size (by repeat (first | (with_reducible first | exact HB.out | apply below_alloc | apply pw_below_drewN | apply below_drew1) | exact HB.out)))); have n3_ := Aside0.mk (below_step (by repeat (first | (with_reducible first | exact HB.out | apply below_alloc | apply pw_below_drewN | apply below_drew1) | exact HB.out)) hb); clear HO_0; clear HO_3; clear HB; have HO_0 := n0_; have HO_3 := n1_; have HO221 := n2_; have HB := n3_; clear n0_ n1_ n2_ n3_; (try clear hb); (try clear hb2); (try clear hk); (try clear hi); (try clear ho0)))
        go_ret
        exact ⟨_, by first | rfl | (simp [errW_none, errW_some] <;> rfl) | (simp [*, errW_none, errW_some] <;> rfl), by (with_reducible repeat (first | apply Kd.R_alloc | apply Kd.R_drewN | apply Kd.R_drew)); exact Kd.R_mono HO221.out (fun _ hk => hk.1), by repeat (first | (with_reducible first | exact HB.out | apply below_alloc | apply pw_below_drewN | apply below_drew1) | exact HB.out)⟩

-- NOT PRINTED: function 14 (impl_SolidCount_1)

/-! ### impl_SolidCount: function 7, by hand -/
def impl_SolidCount.row (F : Int → Option Int) : Nat → Int → Option Int
  | 0, _ => some 0
  | r + 1, x => (F x).bind fun a => (impl_SolidCount.row F r (x + 1)).bind fun b => some (a + b)
def impl_SolidCount.leaf (k : Nat) (s : List Int) : Option Int := (impl_stands.f k s).bind fun t => if t = true then ((impl_firstNamed.f k s).bind fun y => (slices_Equal_int_int.f k y s).bind fun e => some (if e = true then 1 else 0)) else some 0
def impl_SolidCount.l (k n : Nat) : Nat → List Int → Option Int
  | 0, pre => impl_SolidCount.leaf k pre
  | d + 1, pre => impl_SolidCount.row (fun x => impl_SolidCount.l k n d (pre ++ [x])) n 1
def impl_SolidCount.f (k : Nat) (a0 : Int) : Option (Int × Bool) := if a0 < 1 then some (0, false) else if a0 > 3 then some (0, false) else (impl_SolidCount.l k a0.toNat 6 []).bind fun c => some (c, true)
theorem impl_SolidCount.mono_row {F G : Int → Option Int} (h : ∀ x, LeO (F x) (G x)) : ∀ r x, LeO (impl_SolidCount.row F r x) (impl_SolidCount.row G r x)
  | 0, _ => LeO.refl _
  | r + 1, x => LeO.bind (h x) (fun _ => LeO.bind (impl_SolidCount.mono_row h r (x + 1)) (fun _ => LeO.refl _))
theorem impl_SolidCount.mono_leaf (k : Nat) (s : List Int) : LeO (impl_SolidCount.leaf k s) (impl_SolidCount.leaf (k + 1) s) :=
  LeO.bind (impl_stands.mono _ _) (fun t => LeO.ite (LeO.bind (impl_firstNamed.mono _ _) (fun y => LeO.bind (slices_Equal_int_int.mono _ _ _) (fun _ => LeO.refl _))) (LeO.refl _))
theorem impl_SolidCount.mono_l (k n : Nat) : ∀ d pre, LeO (impl_SolidCount.l k n d pre) (impl_SolidCount.l (k + 1) n d pre)
  | 0, pre => impl_SolidCount.mono_leaf k pre
  | d + 1, pre => impl_SolidCount.mono_row (fun x => impl_SolidCount.mono_l k n d (pre ++ [x])) n 1
theorem impl_SolidCount.mono : ∀ a0 k, LeO (impl_SolidCount.f k a0) (impl_SolidCount.f (k + 1) a0) := by
  intro a0 k
  unfold impl_SolidCount.f
  exact LeO.ite (LeO.refl _) (LeO.ite (LeO.refl _) (LeO.bind (impl_SolidCount.mono_l k _ _ _) (fun _ => LeO.refl _)))
theorem impl_SolidCount.row_ge {F : Int → Option Int} (h : ∀ x c, F x = some c → 0 ≤ c) : ∀ r x c, impl_SolidCount.row F r x = some c → 0 ≤ c
  | 0, _, c, hc => by have := Option.some.inj hc; omega
  | r + 1, x, c, hc => by
    obtain ⟨a, h1, hc⟩ := Option.bind_eq_some_iff.mp hc
    obtain ⟨b, h2, hc⟩ := Option.bind_eq_some_iff.mp hc
    have := Option.some.inj hc
    have := h _ _ h1
    have := impl_SolidCount.row_ge h r _ _ h2
    omega
theorem impl_SolidCount.l_ge (k n : Nat) : ∀ d pre c, impl_SolidCount.l k n d pre = some c → 0 ≤ c
  | 0, pre, c, hc => by
    unfold impl_SolidCount.l impl_SolidCount.leaf at hc
    obtain ⟨t, h1, hc⟩ := Option.bind_eq_some_iff.mp hc
    cases t with
    | false => rw [if_neg (by decide)] at hc; have := Option.some.inj hc; omega
    | true =>
      rw [if_pos rfl] at hc
      obtain ⟨y, h2, hc⟩ := Option.bind_eq_some_iff.mp hc
      obtain ⟨e, h3, hc⟩ := Option.bind_eq_some_iff.mp hc
      have := Option.some.inj hc
      cases e <;> simp at this <;> omega
  | d + 1, pre, c, hc => impl_SolidCount.row_ge (fun x c h => impl_SolidCount.l_ge k n d (pre ++ [x]) c h) n 1 c hc
theorem impl_SolidCount.row_le {F : Int → Option Int} {M : Int} (h : ∀ x c, F x = some c → c ≤ M) : ∀ (r : Nat) x c, impl_SolidCount.row F r x = some c → c ≤ r * M
  | 0, _, c, hc => by have := Option.some.inj hc; omega
  | r + 1, x, c, hc => by
    obtain ⟨a, h1, hc⟩ := Option.bind_eq_some_iff.mp hc
    obtain ⟨b, h2, hc⟩ := Option.bind_eq_some_iff.mp hc
    have := Option.some.inj hc
    have := h _ _ h1
    have := impl_SolidCount.row_le h r _ _ h2
    have e : ((r + 1 : Nat) : Int) * M = (r : Int) * M + M := by rw [Int.natCast_add, Int.add_mul]; simp
    omega
theorem impl_SolidCount.l_le (k n : Nat) (hn : n ≤ 3) : ∀ (d : Nat) pre c, impl_SolidCount.l k n d pre = some c → c ≤ (3 ^ d : Nat)
  | 0, pre, c, hc => by
    unfold impl_SolidCount.l impl_SolidCount.leaf at hc
    obtain ⟨t, h1, hc⟩ := Option.bind_eq_some_iff.mp hc
    cases t with
    | false => rw [if_neg (by decide)] at hc; have := Option.some.inj hc; omega
    | true =>
      rw [if_pos rfl] at hc
      obtain ⟨y, h2, hc⟩ := Option.bind_eq_some_iff.mp hc
      obtain ⟨e, h3, hc⟩ := Option.bind_eq_some_iff.mp hc
      have := Option.some.inj hc
      cases e <;> simp at this <;> omega
  | d + 1, pre, c, hc => by
    have := impl_SolidCount.row_le (fun x c h => impl_SolidCount.l_le k n hn d (pre ++ [x]) c h) n 1 c hc
    have e : 3 ^ (d + 1) = 3 ^ d * 3 := Nat.pow_succ 3 d
    rw [e]
    have h3 : (0 : Int) ≤ (3 ^ d : Nat) := Int.natCast_nonneg _
    have : (n : Int) * (3 ^ d : Nat) ≤ 3 * (3 ^ d : Nat) := Int.mul_le_mul_of_nonneg_right (by omega) h3
    rw [Int.natCast_mul]
    omega
abbrev impl_SolidCount.pt (b : Nat) : Value := .pointer (some ⟨b, 0, none⟩)
abbrev impl_SolidCount.try (B : Nat) : Value := .func (.func 14) #[] #[impl_SolidCount.pt (B + 3), impl_SolidCount.pt (B + 1), impl_SolidCount.pt B, impl_SolidCount.pt (B + 4)]
/-- The blocks of the closure's variables: n, many, the array, s, try. -/
structure impl_SolidCount.St (W : World) (B n : Nat) (m : Int) (xs : List Int) : Prop where
  bn : W.heap[B]? = some (.cells #[.int .i64 n] 3 (0, 0))
  bm : W.heap[B + 1]? = some (.cells #[.int .i64 m] 3 (0, 0))
  bg : W.heap[B + 2]? = some (.cells (Go.Proofs.Ytfigjcnhchpobaa.HClo.nums xs) 3 (0, 0))
  bs : W.heap[B + 3]? = some (.cells #[.slice (some ⟨B + 2, 0, none⟩) 6 6] 29 (0, 0))
  bt : W.heap[B + 4]? = some (.cells #[impl_SolidCount.try B] 34 (0, 0))
  len : xs.length = 6
namespace impl_SolidCount.St
open Go.Proofs.Ytfigjcnhchpobaa.HClo
variable {W W' : World} {B n : Nat} {m : Int} {xs : List Int}
theorem lt (h : impl_SolidCount.St W B n m xs) : B + 5 ≤ W.heap.size := lt_of_block h.bt
theorem below (h : impl_SolidCount.St W B n m xs) (hb : Below W.heap.size W W') : impl_SolidCount.St W' B n m xs := by
  have hl := h.lt
  exact ⟨(hb.block _ (by omega)).trans h.bn, (hb.block _ (by omega)).trans h.bm, (hb.block _ (by omega)).trans h.bg, (hb.block _ (by omega)).trans h.bs, (hb.block _ (by omega)).trans h.bt, h.len⟩
theorem drew (h : impl_SolidCount.St W B n m xs) : impl_SolidCount.St W.drew B n m xs := ⟨h.bn, h.bm, h.bg, h.bs, h.bt, h.len⟩
theorem drewN (h : impl_SolidCount.St W B n m xs) (j : Nat) : impl_SolidCount.St (W.drewN j) B n m xs := ⟨h.bn, h.bm, h.bg, h.bs, h.bt, h.len⟩
theorem setM (h : impl_SolidCount.St W B n m xs) (m' : Int) : impl_SolidCount.St (W.setCell ⟨B + 1, 0, none⟩ (.int .i64 m')) B n m' xs :=
  ⟨(heap_setCell_other _ _ _ _ (by simp)).trans h.bn, one_setCell h.bm, (heap_setCell_other _ _ _ _ (by simp)).trans h.bg, (heap_setCell_other _ _ _ _ (by simp)).trans h.bs, (heap_setCell_other _ _ _ _ (by simp)).trans h.bt, h.len⟩
theorem setX (h : impl_SolidCount.St W B n m xs) (i : Nat) (x : Int) : impl_SolidCount.St (W.setCell ⟨B + 2, i, none⟩ (.int .i64 x)) B n m (xs.set i x) :=
  ⟨(heap_setCell_other _ _ _ _ (by simp)).trans h.bn, (heap_setCell_other _ _ _ _ (by simp)).trans h.bm, by rw [heap_setCell_same _ _ _ _ _ _ h.bg, nums_set], (heap_setCell_other _ _ _ _ (by simp)).trans h.bs, (heap_setCell_other _ _ _ _ (by simp)).trans h.bt, by rw [List.length_set]; exact h.len⟩
theorem C (h : impl_SolidCount.St W B n m xs) : Kd.C (Kd.int .i64) W (some ⟨B + 2, 0, none⟩) xs.length xs := nums_C h.bg (by rw [h.len]; decide)
theorem V (h : impl_SolidCount.St W B n m xs) : Kd.V (Kd.int .i64) 3 W W.heap.size (fun k => k = B + 2) (.slice (some ⟨B + 2, 0, none⟩) xs.length 6) xs := nums_V h.bg (by rw [h.len]; decide) (by rw [h.len]; decide)
theorem made (w : World) (n : Nat) : impl_SolidCount.St (((((w.alloc (.cells #[.int .i64 n] 3)).alloc (.cells #[.int .i64 0] 3)).alloc (.cells (nums [0, 0, 0, 0, 0, 0]) 3)).alloc (.cells #[.slice (some ⟨w.heap.size + 1 + 1, 0, none⟩) 6 6] 29)).alloc (.cells #[impl_SolidCount.try w.heap.size] 34)) w.heap.size n 0 [0, 0, 0, 0, 0, 0] := by
  have e : ∀ (w : World) (o : Obj), (w.alloc o).heap.size = w.heap.size + 1 := fun w o => by simp
  refine ⟨?_, ?_, ?_, ?_, ?_, rfl⟩
  · exact alloc_old (by simp only [e]; omega) (alloc_old (by simp only [e]; omega) (alloc_old (by simp only [e]; omega) (alloc_old (by simp only [e]; omega) (alloc_new _ _ _ (by simp only [e])))))
  · exact alloc_old (by simp only [e]; omega) (alloc_old (by simp only [e]; omega) (alloc_old (by simp only [e]; omega) (alloc_new _ _ _ (by simp only [e]))))
  · exact alloc_old (by simp only [e]; omega) (alloc_old (by simp only [e]; omega) (alloc_new _ _ _ (by simp only [e])))
  · exact alloc_old (by simp only [e]; omega) (alloc_new _ _ _ (by simp only [e]))
  · exact alloc_new _ _ _ (by simp only [e])
end impl_SolidCount.St
set_option maxHeartbeats 8000000 in
set_option maxRecDepth 100000 in
theorem impl_SolidCount.leaf_calls (k B n : Nat) (m c : Int) (xs : List Int) (w : World) (hst : impl_SolidCount.St w B n m xs) (hm : 0 ≤ m) (hm2 : m ≤ 1000000) (h : impl_SolidCount.leaf k xs = some c) :
    Calls Try.prog 14 #[.int .i64 6, impl_SolidCount.pt (B + 3), impl_SolidCount.pt (B + 1), impl_SolidCount.pt B, impl_SolidCount.pt (B + 4)] w fun e w' => e = .returned (.tuple #[]) ∧ impl_SolidCount.St w' B n (m + c) xs ∧ Below B w w' := by
  have hl := hst.lt
  have hB : B ≤ w.heap.size := by omega
  have c3 := cell_of_one hst.bs
  unfold impl_SolidCount.leaf at h
  obtain ⟨t, h1, h⟩ := Option.bind_eq_some_iff.mp h
  have k1 : ∀ W, impl_SolidCount.St W B n m xs → Calls Try.prog 15 #[.slice (some ⟨B + 2, 0, none⟩) 6 6] W fun e w' => e = .returned (.bool t) ∧ Below W.heap.size W w' := by
    intro W hW
    have := impl_stands.calls k (some ⟨B + 2, 0, none⟩) 6 xs t W hW.C (by rw [hW.len]; decide) h1
    rwa [hW.len] at this
  clear h1
  have HST := Aside0.mk hst
  clear hst
  cases t with
  | false =>
    rw [if_neg (by decide)] at h
    obtain rfl := Option.some.inj h
    clear h
    go_enter Try.func14, Try.ntmps14
    go_wp2
    go_region_with (go_at_call 15; refine (k1 _ ?_).mono ?_; exact HST.out.drew; rintro e w1 ⟨rfl, hb⟩; have HB := Aside0.mk hb; clear hb k1)
    all_goals go_wp2
    all_goals (first | go_end0 | refine bodyPost_ret (results_none rfl _ _ _) rfl ?_)
    all_goals exact ⟨rfl, by rw [Int.add_zero]; exact HST.out.drew.below HB.out, ((Below.refl _ _).drew.trans (HB.out.mono hB))⟩
  | true =>
    rw [if_pos rfl] at h
    obtain ⟨y, h2, h⟩ := Option.bind_eq_some_iff.mp h
    obtain ⟨u, h3, h⟩ := Option.bind_eq_some_iff.mp h
    have k2 : ∀ W, impl_SolidCount.St W B n m xs → Calls Try.prog 17 #[.slice (some ⟨B + 2, 0, none⟩) 6 6] W fun e w' => ∃ v0_ : Value, e = .returned (v0_) ∧ Kd.R (Kd.int .i64) 3 w' W.heap.size (fun k_ => (W.heap.size ≤ k_)) v0_ y ∧ Below W.heap.size W w' := by
      intro W hW
      have := impl_firstNamed.calls k _ (some ⟨B + 2, 0, none⟩) 6 xs y W hW.V h2
      rwa [hW.len] at this
    have k3 : ∀ W A0 c0, impl_SolidCount.St W B n m xs → (Kd.C (Kd.int .i64) W A0 y.length y ∧ y.length ≤ c0) → Calls Try.prog 16 #[.slice A0 y.length c0, .slice (some ⟨B + 2, 0, none⟩) 6 6] W fun e w' => e = .returned (.bool u) ∧ Drawn0 W w' := by
      intro W A0 c0 hW hC
      have := slices_Equal_int_int.calls k A0 c0 y (some ⟨B + 2, 0, none⟩) 6 xs u W hC.1 hC.2 hW.C (by rw [hW.len]; decide) h3
      rwa [hW.len] at this
    clear h2 h3
    cases u with
    | false =>
      obtain rfl := Option.some.inj h
      clear h
      go_enter Try.func14, Try.ntmps14
      go_wp2
      go_region_with (first | (go_at_call 15; refine (k1 _ ?_).mono ?_; exact HST.out.drew; rintro e w1 ⟨rfl, hb⟩; have HS1 := Aside0.mk (HST.out.drew.below hb); have HB := Aside0.mk ((Below.refl B w).drew.trans (hb.mono hB)); have c31 := cell_of_one HS1.out.bs; clear hb k1) | (go_at_call 17; refine (k2 _ ?_).mono ?_; exact HS1.out; rintro e w2 ⟨v0, rfl, hR, hb⟩; have HS2 := Aside0.mk (HS1.out.below hb); have HB2 := Aside0.mk (HB.out.trans (hb.mono (by have := HS1.out.lt; omega))); have c32 := cell_of_one HS2.out.bs; obtain ⟨Ao, co, rfl⟩ := Kd.R_slice hR; have HR2 := Aside0.mk (Kd.R_reads' hR).2; clear hR hb k2) | (go_at_call 16; refine (k3 _ _ _ ?_ ?_).mono ?_; exact HS2.out; exact ⟨HR2.out.2, HR2.out.1⟩; rintro e w3 ⟨rfl, ⟨nd, rfl⟩⟩; clear k3))
      all_goals go_wp2
      all_goals (first | go_end0 | refine bodyPost_ret (results_none rfl _ _ _) rfl ?_)
      all_goals exact ⟨rfl, by first | exact HS2.out.drewN _ | (rw [show ((if false = true then (1 : Int) else 0)) = 0 from rfl, Int.add_zero]; exact HS2.out.drewN _), pw_below_drewN HB2.out _⟩
    | true =>
      obtain rfl := Option.some.inj h
      clear h
      go_enter Try.func14, Try.ntmps14
      go_wp2
      go_region_with (first | (go_at_call 15; refine (k1 _ ?_).mono ?_; exact HST.out.drew; rintro e w1 ⟨rfl, hb⟩; have HS1 := Aside0.mk (HST.out.drew.below hb); have HB := Aside0.mk ((Below.refl B w).drew.trans (hb.mono hB)); have c31 := cell_of_one HS1.out.bs; clear hb k1) | (go_at_call 17; refine (k2 _ ?_).mono ?_; exact HS1.out; rintro e w2 ⟨v0, rfl, hR, hb⟩; have HS2 := Aside0.mk (HS1.out.below hb); have HB2 := Aside0.mk (HB.out.trans (hb.mono (by have := HS1.out.lt; omega))); have c32 := cell_of_one HS2.out.bs; have c12 := cell_of_one HS2.out.bm; have f12 := free_of_one HS2.out.bm; obtain ⟨Ao, co, rfl⟩ := Kd.R_slice hR; have HR2 := Aside0.mk (Kd.R_reads' hR).2; clear hR hb k2) | (go_at_call 16; refine (k3 _ _ _ ?_ ?_).mono ?_; exact HS2.out; exact ⟨HR2.out.2, HR2.out.1⟩; rintro e w3 ⟨rfl, ⟨nd, rfl⟩⟩; clear k3))
      all_goals go_wp2
      all_goals (first | go_end0 | refine bodyPost_ret (results_none rfl _ _ _) rfl ?_)
      all_goals exact ⟨rfl, (HS2.out.drewN _).setM _, (pw_below_drewN HB2.out _).setCell (by simp) _⟩
theorem impl_SolidCount.take_snoc {xs : List Int} {a : Nat} (h : a < xs.length) : xs.take (a + 1) = xs.take a ++ [xs.getD a 0] := by
  rw [List.take_add_one]
  simp [h]
theorem impl_SolidCount.set_get {xs : List Int} {a : Nat} {x : Int} (h : a < xs.length) : (xs.set a x).getD a 0 = x := by
  simp [h]
theorem impl_SolidCount.set_take {xs : List Int} {a : Nat} {x : Int} : (xs.set a x).take a = xs.take a := by
  rw [List.take_set_of_le (Nat.le_refl a)]
theorem impl_SolidCount.get_take {xs ys : List Int} {a : Nat} (h : xs.take (a + 1) = ys.take (a + 1)) : xs.getD a 0 = ys.getD a 0 := by
  have := congrArg (fun l => l.getD a 0) h
  simpa [List.getD_eq_getElem?_getD, List.getElem?_take] using this
theorem impl_SolidCount.take_less {xs ys : List Int} {a : Nat} (h : xs.take (a + 1) = ys.take (a + 1)) : xs.take a = ys.take a := by
  have := congrArg (fun l => l.take a) h
  simpa [List.take_take] using this
set_option maxHeartbeats 8000000 in
set_option maxRecDepth 100000 in
theorem impl_SolidCount.l_calls (k B n : Nat) (hn : n ≤ 3) : ∀ (d a : Nat), a + d = 6 → ∀ (v m c : Int) (xs : List Int) (w : World), v = a → impl_SolidCount.St w B n m xs → 0 ≤ m → m + c ≤ 1000000 → impl_SolidCount.l k n d (xs.take a) = some c →
    Calls Try.prog 14 #[.int .i64 v, impl_SolidCount.pt (B + 3), impl_SolidCount.pt (B + 1), impl_SolidCount.pt B, impl_SolidCount.pt (B + 4)] w fun e w' => e = .returned (.tuple #[]) ∧ (∃ xs', impl_SolidCount.St w' B n (m + c) xs' ∧ xs'.take a = xs.take a) ∧ Below B w w' := by
  intro d
  induction d with
  | zero =>
    intro a ha v m c xs w hv hst hm hmc h
    have ha : a = 6 := by omega
    subst ha
    subst hv
    rw [show xs.take 6 = xs from List.take_of_length_le (by rw [hst.len]; decide)] at h ⊢
    have hc := impl_SolidCount.l_ge k n 0 xs c h
    refine (impl_SolidCount.leaf_calls k B n m c xs w hst hm (by omega) h).mono ?_
    rintro e w' ⟨rfl, h1, h2⟩
    exact ⟨rfl, ⟨xs, h1, List.take_of_length_le (by rw [hst.len]; decide)⟩, h2⟩
  | succ d ih =>
    intro a ha v m c xs w hv hst hm hmc h
    have ha6 : a < 6 := by omega
    have q1 : ((a : Int) == 6) = false := beq_eq_false_iff_ne.mpr (by omega)
    have q2 : (0 : Int) ≤ (a : Int) := by omega
    have q3 : (a : Int) < 6 := by omega
    subst hv
    have hl := hst.lt
    have hB : B ≤ w.heap.size := by omega
    have c3 := cell_of_one hst.bs
    have cx := Go.Proofs.Ytfigjcnhchpobaa.HClo.nums_cell hst.bg (i := a) (by rw [hst.len]; exact ha6)
    have fx := frozen_of_row w (B + 2) a _ _ hst.bg
    have HST := Aside0.mk hst
    have H : impl_SolidCount.row (fun x => impl_SolidCount.l k n d (xs.take a ++ [x])) n 1 = some c := h
    have H' := Aside0.mk H
    have IH := Aside0.mk ih
    clear h H hst ih
    go_enter Try.func14, Try.ntmps14
    go_wp2
    go_loopg [] n (fun kq w' => ∃ (x m' c' : Int) (xs' : List Int), Aside0 (impl_SolidCount.row (fun x => impl_SolidCount.l k n d (xs.take a ++ [x])) kq x = some c') ∧ Aside0 (x + kq = n + 1) ∧ Aside0 (1 ≤ x) ∧ Aside0 (m' + c' = m + c ∧ 0 ≤ m') ∧ Aside0 (impl_SolidCount.St w' B n m' xs' ∧ xs'.getD a 0 = x ∧ xs'.take a = xs.take a) ∧ Aside0 (Below B w w'))
    case atStart => exact ⟨1, m, c, xs.set a 1, H', ⟨by omega⟩, ⟨by omega⟩, ⟨rfl, hm⟩, ⟨HST.out.setX a 1, impl_SolidCount.set_get (by rw [HST.out.len]; exact ha6), impl_SolidCount.set_take⟩, ⟨(Below.refl B w).setCell (by simp) _⟩⟩
    case round =>
      clear H'
      obtain ⟨x, m', c', xs', HA, HX, HX1, HM, HS, HB⟩ := hrel
      have hx := HX.out
      have hx1 := HX1.out
      have s3 := cell_of_one HS.out.1.bs
      have s0 := cell_of_one HS.out.1.bn
      have s4 := cell_of_one HS.out.1.bt
      have sx := Go.Proofs.Ytfigjcnhchpobaa.HClo.nums_cell HS.out.1.bg (i := a) (by rw [HS.out.1.len]; exact ha6)
      rw [HS.out.2.1] at sx
      cases gk with
      | zero =>
        have g : ¬ x ≤ (n : Int) := by omega
        have hA := Option.some.inj HA.out
        clear HA
        go_wp2
        repeat (go_quiet (fail); try go_wp2)
        go_end0
        have hM := HM.out
        exact ⟨rfl, ⟨xs', by rw [show m + c = m' by omega]; exact HS.out.1.drewN _, HS.out.2.2⟩, pw_below_drewN HB.out _⟩
      | succ g1 =>
        have g : x ≤ (n : Int) := by omega
        obtain ⟨c1, A1, hA⟩ := Option.bind_eq_some_iff.mp HA.out
        obtain ⟨c2, A2, hA⟩ := Option.bind_eq_some_iff.mp hA
        have hA := Option.some.inj hA
        clear HA
        have hge := impl_SolidCount.l_ge _ _ _ _ _ A1
        have hge2 := impl_SolidCount.row_ge (fun x c h => impl_SolidCount.l_ge _ _ _ _ _ h) _ _ _ A2
        have hM := HM.out
        have e1 : xs'.take (a + 1) = xs.take a ++ [x] := by rw [impl_SolidCount.take_snoc (by rw [HS.out.1.len]; exact ha6), HS.out.2.1, HS.out.2.2]
        have kc : ∀ W, impl_SolidCount.St W B n m' xs' → Calls Try.prog 14 #[.int .i64 ((a : Int) + 1), impl_SolidCount.pt (B + 3), impl_SolidCount.pt (B + 1), impl_SolidCount.pt B, impl_SolidCount.pt (B + 4)] W fun e w' => e = .returned (.tuple #[]) ∧ (∃ ys, impl_SolidCount.St w' B n (m' + c1) ys ∧ ys.take (a + 1) = xs'.take (a + 1)) ∧ Below B W w' := fun W hW => IH.out (a + 1) (by omega) _ m' c1 xs' W (by omega) hW hM.2 (by omega) (by rw [e1]; exact A1)
        have A2' := Aside0.mk A2
        have hm1 : m' + c1 + c2 = m + c ∧ 0 ≤ m' + c1 := by omega
        have HM1 := Aside0.mk hm1
        clear A1 A2 hA hM hm1 e1 IH HM
        go_wp2
        go_quiet (fail)
        go_wp2_with (go_at_call 14; refine (kc _ ?_).mono ?_; exact HS.out.1.drewN _; rintro e w1 ⟨rfl, ⟨ys, hS1, hT1⟩, hb⟩; clear kc; have HS1 := Aside0.mk hS1; have HT1 := Aside0.mk hT1; have HB1 := Aside0.mk ((pw_below_drewN HB.out _).trans hb); clear hb hS1 hT1; have z3 := cell_of_one HS1.out.bs; have zx := Go.Proofs.Ytfigjcnhchpobaa.HClo.nums_cell HS1.out.bg (i := a) (by rw [HS1.out.len]; exact ha6); have fz := frozen_of_row w1 (B + 2) a _ _ HS1.out.bg; have hz : ys.getD a 0 = x := (impl_SolidCount.get_take HT1.out).trans HS.out.2.1; rw [hz] at zx; clear hz)
        go_roundg g1
        case measure => omega
        case rel =>
          have hM1 := HM1.out
          have hla : a < ys.length := by rw [HS1.out.len]; exact ha6
          exact ⟨x + 1, m' + c1, c2, ys.set a (x + 1), A2', ⟨by omega⟩, ⟨by omega⟩, ⟨hM1.1, hM1.2⟩, ⟨HS1.out.setX a (x + 1), impl_SolidCount.set_get hla, impl_SolidCount.set_take.trans ((impl_SolidCount.take_less HT1.out).trans HS.out.2.2)⟩, ⟨HB1.out.setCell (by simp) _⟩⟩
set_option maxHeartbeats 8000000 in
set_option maxRecDepth 100000 in
theorem impl_SolidCount.calls (k : Nat) (a0 : Int) (r1 : Int) (r2 : Bool) (w : World) (h : impl_SolidCount.f k a0 = some (r1, r2)) :
    Calls Try.prog 7 #[.int .i64 a0] w fun e w' => e = .returned (.tuple #[.int .i64 r1, .bool r2]) ∧ Below w.heap.size w w' := by
  have hmf : ∀ (fn : Fn) (first cap : Array Value) (w : World), (Instr.makeFunc fn first cap).run Try.prog w = .ok (.func fn first cap) w := fun _ _ _ _ => rfl
  have hmk : ∀ (w : World), (Instr.makeSlice 29 (.int .i64 6) (.int .i64 6)).run Try.prog w = .ok (.slice (some ⟨w.heap.size, 0, none⟩) 6 6) (w.alloc (.cells (Go.Proofs.Ytfigjcnhchpobaa.HClo.nums [0, 0, 0, 0, 0, 0]) 3)) := fun _ => by kernel_rfl
  unfold impl_SolidCount.f at h
  by_cases c0 : a0 < 1
  · rw [if_pos c0] at h
    injection h with h
    injection h with h1 h2
    subst h1 h2
    go_enter Try.func7, Try.ntmps7
    go_wp2
    go_ret2
    exact ⟨rfl, by repeat (first | (with_reducible first | exact Below.refl _ _ | apply below_alloc | apply pw_below_drewN | apply below_drew1))⟩
  · rw [if_neg c0] at h
    by_cases c1 : a0 > 3
    · rw [if_pos c1] at h
      injection h with h
      injection h with h1 h2
      subst h1 h2
      go_enter Try.func7, Try.ntmps7
      go_wp2
      go_ret2
      exact ⟨rfl, by repeat (first | (with_reducible first | exact Below.refl _ _ | apply below_alloc | apply pw_below_drewN | apply below_drew1))⟩
    · rw [if_neg c1] at h
      obtain ⟨c, hc, h⟩ := Option.bind_eq_some_iff.mp h
      injection h with h
      injection h with h1 h2
      subst h1 h2
      obtain ⟨n, rfl⟩ := Int.eq_ofNat_of_zero_le (show 0 ≤ a0 by omega)
      rw [Int.toNat_natCast] at hc
      have hcb := impl_SolidCount.l_le k n (by omega) 6 [] c hc
      have hcb : c ≤ 729 := hcb
      have kc : ∀ W, impl_SolidCount.St W w.heap.size n 0 [0, 0, 0, 0, 0, 0] → Calls Try.prog 14 #[.int .i64 0, impl_SolidCount.pt (w.heap.size + 3), impl_SolidCount.pt (w.heap.size + 1), impl_SolidCount.pt w.heap.size, impl_SolidCount.pt (w.heap.size + 4)] W fun e w' => e = .returned (.tuple #[]) ∧ (∃ ys, impl_SolidCount.St w' w.heap.size n c ys) ∧ Below w.heap.size W w' := by
        intro W hW
        refine (impl_SolidCount.l_calls k w.heap.size n (by omega) 6 0 rfl 0 0 c _ W rfl hW (by omega) (by omega) hc).mono ?_
        rintro e w' ⟨rfl, ⟨ys, h1, _⟩, hb⟩
        exact ⟨rfl, ⟨ys, by rwa [Int.zero_add] at h1⟩, hb⟩
      clear hc
      go_enter Try.func7, Try.ntmps7
      clear hcb
      go_wp2_with (go_at_call 14; refine (kc _ ?_).mono ?_; exact impl_SolidCount.St.made w n; rintro e w1 ⟨rfl, ⟨ys, hS1⟩, hb⟩; clear kc; have HB1 := Aside0.mk (Below.trans (a := w) (by repeat (first | (with_reducible first | exact Below.refl _ _ | apply below_alloc | apply pw_below_drewN | apply below_drew1))) hb); have c2 := cell_of_one hS1.bm; clear hS1 hb)
      go_ret2
      exact ⟨rfl, HB1.out⟩

/-! ### laws_FnExactSolidCount: function 3 -/
def laws_FnExactSolidCount.f (k : Nat) (a0 : Int) : Option (Bool) := (spec_SolidCount.f k a0).bind fun bt230 => ((impl_SolidCount.f k a0).bind fun bt232 => (if bt232.1 = bt230.1 then (if (bt232.2 != bt230.2) = true then (some false) else (some true)) else (some false)))
theorem laws_FnExactSolidCount.mono : ∀ a0 k, LeO (laws_FnExactSolidCount.f k a0) (laws_FnExactSolidCount.f (k + 1) a0) := by
  intro a0 k
  unfold laws_FnExactSolidCount.f
  repeat' first
      | (with_reducible exact impl_SolidCount.mono _ _)
      | (with_reducible exact spec_SolidCount.mono _ _)
      | (with_reducible exact LeO.refl _)
      | (with_reducible exact LeO.none _)
      | (with_reducible refine LeO.ite ?_ ?_)
      | (with_reducible refine LeO.bind ?_ (fun _ => ?_))
      | exact impl_SolidCount.mono _ _
      | exact spec_SolidCount.mono _ _
      | exact LeO.none _
      | refine LeO.ite ?_ ?_
      | refine LeO.bind ?_ (fun _ => ?_)
set_option maxHeartbeats 8000000 in
set_option maxRecDepth 100000 in
theorem laws_FnExactSolidCount.calls (k : Nat) (a0 : Int) (r : Bool) (w : World) (h : laws_FnExactSolidCount.f k a0 = some r) :
    Calls Try.prog 3 #[.int .i64 a0] w fun e w' => e = .returned (.bool r) ∧ Below w.heap.size w w' := by
  have HB := Aside0.mk (Below.refl w.heap.size w)
  have H : ((spec_SolidCount.f k a0).bind fun bt230 => ((impl_SolidCount.f k a0).bind fun bt232 => (if bt232.1 = bt230.1 then (if (bt232.2 != bt230.2) = true then (some false) else (some true)) else (some false)))) = some r := h
  clear h
  replace H := Option.bind_eq_some_iff.mp H
  obtain ⟨⟨t230, t231⟩, A20, H⟩ := H
  replace H : ((impl_SolidCount.f k a0).bind fun bt232 => (if bt232.1 = t230 then (if (bt232.2 != t231) = true then (some false) else (some true)) else (some false))) = some r := H
  have A2 := Aside0.mk A20
  clear A20
  replace H := Option.bind_eq_some_iff.mp H
  obtain ⟨⟨t232, t233⟩, A30, H⟩ := H
  replace H : (if t232 = t230 then (if (t233 != t231) = true then (some false) else (some true)) else (some false)) = some r := H
  have A3 := Aside0.mk A30
  clear A30
  by_cases c4 : t232 = t230
  · rw [if_pos c4] at H
    have c4b0 : (t232 == t230) = true := beq_iff_eq.mpr c4
    have c4b1 : (t232 != t230) = false := bne_eq_false_iff_eq.mpr c4
    clear c4
    by_cases c5 : (t233 != t231) = true
    · rw [if_pos c5] at H
      have c5b0 : (t233 != t231) = true := c5
      (try (have c5b1 : decide (t233 = t231) = false := by simpa using c5))
      (try (have c5b2 : (t233 == t231) = false := by simpa using c5))
      (try (have c5b3 : ¬ (t233 = t231) := by simpa using c5))
      clear c5
      obtain rfl := Option.some.inj H
      go_enter Try.func3, Try.ntmps3
      go_wp2_with (first | ((with_reducible refine gate_callee (f := 6) rfl ?_); refine goesL_ (some 9) rfl rfl Try.func6 (by kernel_rfl) rfl #[.int .i64 a0] rfl (by (try simp only [List.map_toArray, List.map_cons, List.map_nil]); first | done | rfl | (simp only [List.length_drop, List.length_take]; rfl)) ?_; (with_reducible refine (spec_SolidCount.calls k a0 t230 t231 _ A2.out).mono ?_); rintro e w6 ⟨rfl, hb⟩; refine ⟨_, rfl, ?_⟩; have n0_ := Aside0.mk (below_step (by repeat (first | (with_reducible first | exact HB.out | apply below_alloc | apply pw_below_drewN | apply below_drew1) | exact HB.out)) hb); clear HB; have HB := n0_; clear n0_; (try clear hb); (try clear hb2); (try clear hk); (try clear hi)) | ((with_reducible refine gate_callee (f := 7) rfl ?_); refine goesL_ (some 14) rfl rfl Try.func7 (by kernel_rfl) rfl #[.int .i64 a0] rfl (by (try simp only [List.map_toArray, List.map_cons, List.map_nil]); first | done | rfl | (simp only [List.length_drop, List.length_take]; rfl)) ?_; (with_reducible refine (impl_SolidCount.calls k a0 t232 t233 _ A3.out).mono ?_); rintro e w7 ⟨rfl, hb⟩; refine ⟨_, rfl, ?_⟩; have n0_ := Aside0.mk (below_step (by repeat (first | (with_reducible first | exact HB.out | apply below_alloc | apply pw_below_drewN | apply below_drew1) | exact HB.out)) hb); clear HB; have HB := n0_; clear n0_; (try clear hb); (try clear hb2); (try clear hk); (try clear hi)))
      go_ret
      exact ⟨by first | rfl | (simp [errW_none, errW_some] <;> rfl) | (simp [*, errW_none, errW_some] <;> rfl), by repeat (first | (with_reducible first | exact HB.out | apply below_alloc | apply pw_below_drewN | apply below_drew1) | exact HB.out)⟩
    · rw [if_neg c5] at H
      have c5b0 : (t233 != t231) = false := by simpa using c5
      (try (have c5b1 : decide (t233 = t231) = true := by simpa using c5))
      (try (have c5b2 : (t233 == t231) = true := by simpa using c5))
      clear c5
      obtain rfl := Option.some.inj H
      go_enter Try.func3, Try.ntmps3
      go_wp2_with (first | ((with_reducible refine gate_callee (f := 6) rfl ?_); refine goesL_ (some 9) rfl rfl Try.func6 (by kernel_rfl) rfl #[.int .i64 a0] rfl (by (try simp only [List.map_toArray, List.map_cons, List.map_nil]); first | done | rfl | (simp only [List.length_drop, List.length_take]; rfl)) ?_; (with_reducible refine (spec_SolidCount.calls k a0 t230 t231 _ A2.out).mono ?_); rintro e w8 ⟨rfl, hb⟩; refine ⟨_, rfl, ?_⟩; have n0_ := Aside0.mk (below_step (by repeat (first | (with_reducible first | exact HB.out | apply below_alloc | apply pw_below_drewN | apply below_drew1) | exact HB.out)) hb); clear HB; have HB := n0_; clear n0_; (try clear hb); (try clear hb2); (try clear hk); (try clear hi)) | ((with_reducible refine gate_callee (f := 7) rfl ?_); refine goesL_ (some 14) rfl rfl Try.func7 (by kernel_rfl) rfl #[.int .i64 a0] rfl (by (try simp only [List.map_toArray, List.map_cons, List.map_nil]); first | done | rfl | (simp only [List.length_drop, List.length_take]; rfl)) ?_; (with_reducible refine (impl_SolidCount.calls k a0 t232 t233 _ A3.out).mono ?_); rintro e w9 ⟨rfl, hb⟩; refine ⟨_, rfl, ?_⟩; have n0_ := Aside0.mk (below_step (by repeat (first | (with_reducible first | exact HB.out | apply below_alloc | apply pw_below_drewN | apply below_drew1) | exact HB.out)) hb); clear HB; have HB := n0_; clear n0_; (try clear hb); (try clear hb2); (try clear hk); (try clear hi)))
      go_ret
      exact ⟨by first | rfl | (simp [errW_none, errW_some] <;> rfl) | (simp [*, errW_none, errW_some] <;> rfl), by repeat (first | (with_reducible first | exact HB.out | apply below_alloc | apply pw_below_drewN | apply below_drew1) | exact HB.out)⟩
  · rw [if_neg c4] at H
    have c4b0 : (t232 == t230) = false := beq_eq_false_iff_ne.mpr c4
    have c4b1 : (t232 != t230) = true := bne_iff_ne.mpr c4
    obtain rfl := Option.some.inj H
    go_enter Try.func3, Try.ntmps3
    go_wp2_with (first | ((with_reducible refine gate_callee (f := 6) rfl ?_); refine goesL_ (some 9) rfl rfl Try.func6 (by kernel_rfl) rfl #[.int .i64 a0] rfl (by (try simp only [List.map_toArray, List.map_cons, List.map_nil]); first | done | rfl | (simp only [List.length_drop, List.length_take]; rfl)) ?_; (with_reducible refine (spec_SolidCount.calls k a0 t230 t231 _ A2.out).mono ?_); rintro e w10 ⟨rfl, hb⟩; refine ⟨_, rfl, ?_⟩; have n0_ := Aside0.mk (below_step (by repeat (first | (with_reducible first | exact HB.out | apply below_alloc | apply pw_below_drewN | apply below_drew1) | exact HB.out)) hb); clear HB; have HB := n0_; clear n0_; (try clear hb); (try clear hb2); (try clear hk); (try clear hi)) | ((with_reducible refine gate_callee (f := 7) rfl ?_); refine goesL_ (some 14) rfl rfl Try.func7 (by kernel_rfl) rfl #[.int .i64 a0] rfl (by (try simp only [List.map_toArray, List.map_cons, List.map_nil]); first | done | rfl | (simp only [List.length_drop, List.length_take]; rfl)) ?_; (with_reducible refine (impl_SolidCount.calls k a0 t232 t233 _ A3.out).mono ?_); rintro e w11 ⟨rfl, hb⟩; refine ⟨_, rfl, ?_⟩; have n0_ := Aside0.mk (below_step (by repeat (first | (with_reducible first | exact HB.out | apply below_alloc | apply pw_below_drewN | apply below_drew1) | exact HB.out)) hb); clear HB; have HB := n0_; clear n0_; (try clear hb); (try clear hb2); (try clear hk); (try clear hi)))
    go_ret
    exact ⟨by first | rfl | (simp [errW_none, errW_some] <;> rfl) | (simp [*, errW_none, errW_some] <;> rfl), by repeat (first | (with_reducible first | exact HB.out | apply below_alloc | apply pw_below_drewN | apply below_drew1) | exact HB.out)⟩

/-- THE ONE PURE STATEMENT of laws_FnExactSolidCount: yours. -/
def laws_FnExactSolidCount.Pure : Prop := ∀ (a0 : Int), (Lit.int .i64 a0).wf = true → ∃ k, laws_FnExactSolidCount.f k a0 = some true
theorem laws_FnExactSolidCount.walk (P : laws_FnExactSolidCount.Pure) (a0 : Int) (w : World) (w0 : (Lit.int .i64 a0).wf = true) :
    Calls Try.prog 3 #[.int .i64 a0] w fun e w' => e = .returned (.bool true) ∧ Below w.heap.size w w' := by
  obtain ⟨k, h⟩ := P a0 w0
  refine (laws_FnExactSolidCount.calls k a0 true w h).mono ?_
  rintro e w' ⟨rfl, hd⟩
  exact ⟨rfl, hd⟩

end Go.Proofs.Ytfigjcnhchpobaa.PFnExactSolidCount
