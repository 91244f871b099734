-- Made by hprint.py (wip/) out of the translation; not trusted: Lean checks it.
import Derived.Test.YtkphiccdgclldaaPFnExactZonoPathx0
import Derived.Test.YtkphiccdgclldaaPFnExactZonoPathx1
import Derived.Test.YtkphiccdgclldaaPFnExactZonoPathx4
import Derived.Test.YtkphiccdgclldaaPFnExactZonoPathx6
namespace Go.Proofs.Ytkphiccdgclldaa.PFnExactZonoPath
open Go.RowKit Go.Proofs.YtkphiccdgclldaaW.PrintWords Go.Proofs.YtkphiccdgclldaaW.PrintLast Go.Proofs.YtkphiccdgclldaaW.PrintMore
attribute [local go_sem] max2_int min2_int max_two min_two max_three min_three max_four min_four   -- for this text's walks alone
set_option linter.unusedVariables false
set_option linter.unusedSimpArgs false

/-! ### spec_ZonoPath: function 24 -/
def spec_ZonoPath.f (k : Nat) (l0 : List (List Int)) : Option ((List (List Int)) × Bool) := (spec_l7Star.f k l0).bind fun t301 => (if t301 = true then ((spec_l7Zono.f k l0).bind fun t302 => (some (t302, true))) else (some ((([] : List (List Int))), false)))
theorem spec_ZonoPath.mono : ∀ a0 k, LeO (spec_ZonoPath.f k a0) (spec_ZonoPath.f (k + 1) a0) := by
  intro a0 k
  unfold spec_ZonoPath.f
  repeat' first
      | (with_reducible exact spec_l7Star.mono _ _)
      | (with_reducible exact spec_l7Zono.mono _ _)
      | (with_reducible exact LeO.refl _)
      | (with_reducible exact LeO.none _)
      | (with_reducible refine LeO.ite ?_ ?_)
      | (with_reducible refine LeO.bind ?_ (fun _ => ?_))
      | exact spec_l7Star.mono _ _
      | exact spec_l7Zono.mono _ _
      | exact LeO.none _
      | refine LeO.ite ?_ ?_
      | refine LeO.bind ?_ (fun _ => ?_)
set_option maxHeartbeats 8000000 in
set_option maxRecDepth 100000 in
theorem spec_ZonoPath.calls (k : Nat) (A0 : Option Addr) (c0 : Nat) (l0 : List (List Int)) (r1 : List (List Int)) (r2 : Bool) (w : World) (hr0 : Kd.C (Kd.slice 3 (Kd.int .i64)) w A0 l0.length l0) (hc0 : l0.length ≤ c0) (h : spec_ZonoPath.f k l0 = some (r1, r2)) :
    Calls Try.prog 24 #[.slice A0 l0.length c0] w fun e w' => ∃ v0_ : Value, e = .returned (.tuple #[v0_, .bool r2]) ∧ Kd.N (Kd.slice 3 (Kd.int .i64)) 34 w' w.heap.size (fun k_ => (w.heap.size ≤ k_)) v0_ r1 ∧ Below w.heap.size w w' := by
  have HR0 := Aside0.mk hr0
  have HC0 := Aside0.mk hc0
  clear hr0 hc0
  have HB := Aside0.mk (Below.refl w.heap.size w)
  have H : ((spec_l7Star.f k l0).bind fun t301 => (if t301 = true then ((spec_l7Zono.f k l0).bind fun t302 => (some (t302, true))) else (some ((([] : List (List Int))), false)))) = some (r1, r2) := h
  clear h
  replace H := Option.bind_eq_some_iff.mp H
  obtain ⟨t301, A20, H⟩ := H
  replace H : (if t301 = true then ((spec_l7Zono.f k l0).bind fun t302 => (some (t302, true))) else (some ((([] : List (List Int))), false))) = some (r1, r2) := H
  have A2 := Aside0.mk A20
  clear A20
  by_cases c3 : t301 = true
  · subst c3
    have H1 : ((spec_l7Zono.f k l0).bind fun t302 => (some (t302, true))) = some (r1, r2) := by rw [if_pos rfl] at H; exact H
    clear H
    have H := H1
    clear H1
    replace H := Option.bind_eq_some_iff.mp H
    obtain ⟨t302, A40, H⟩ := H
    replace H : (some (t302, true)) = some (r1, r2) := H
    have A4 := Aside0.mk A40
    clear A40
    simp only [Option.some.injEq, Prod.mk.injEq] at H
    obtain ⟨rfl, rfl⟩ := H
    go_enter Try.func24, Try.ntmps24
    go_wp2_with (first | ((with_reducible refine gate_callee (f := 44) rfl ?_); refine goesL_ (some 5) rfl rfl Try.func44 (by kernel_rfl) rfl #[.slice A0 l0.length c0] rfl (by (try simp only [List.map_toArray, List.map_cons, List.map_nil]); first | done | rfl | (simp only [List.length_drop, List.length_take]; rfl)) ?_; (with_reducible refine (spec_l7Star.calls k _ _ l0 true _ ?side1 ?side2 A2.out).mono ?_); (case side1 => repeat (first | exact HR0.out | (with_reducible refine Kd.C_alloc ?_ _) | (with_reducible refine Kd.C_drewN ?_ _) | (with_reducible refine Kd.C_drew ?_))); (case side2 => exact HC0.out); rintro e w' ⟨rfl, ⟨nd, rfl⟩⟩; refine ⟨_, rfl, ?_⟩) | ((with_reducible refine gate_callee (f := 47) rfl ?_); refine goesL_ (some 9) rfl rfl Try.func47 (by kernel_rfl) rfl #[.slice A0 l0.length c0] rfl (by (try simp only [List.map_toArray, List.map_cons, List.map_nil]); first | done | rfl | (simp only [List.length_drop, List.length_take]; rfl)) ?_; (with_reducible refine (spec_l7Zono.calls k _ _ l0 t302 _ ?side1 ?side2 A4.out).mono ?_); (case side1 => repeat (first | exact HR0.out | (with_reducible refine Kd.C_alloc ?_ _) | (with_reducible refine Kd.C_drewN ?_ _) | (with_reducible refine Kd.C_drew ?_))); (case side2 => exact HC0.out); rintro e w5 ⟨v303, rfl, ho0, hb⟩; refine ⟨_, rfl, ?_⟩; have n0_ := Aside0.mk (Kd.N_lower (Kd.N_mono (ok' := fun k_ => (w.heap.size ≤ k_)) ho0 (fun k_ hk_ => (Nat.le_trans (below_size (by repeat (first | (with_reducible first | exact HB.out | apply below_alloc | apply pw_below_drewN | apply below_drew1) | exact HB.out))) hk_))) (below_size (by repeat (first | (with_reducible first | exact HB.out | apply below_alloc | apply pw_below_drewN | apply below_drew1) | exact HB.out)))); have n1_ := Aside0.mk (below_step (by repeat (first | (with_reducible first | exact HB.out | apply below_alloc | apply pw_below_drewN | apply below_drew1) | exact HB.out)) hb); clear HB; have HO304 := n0_; have HB := n1_; clear n0_ n1_; (try clear hb); (try clear hb2); (try clear hk); (try clear hi); (try clear ho0)))
    go_ret2
    exact ⟨_, by first | rfl | (simp [errW_none, errW_some] <;> rfl) | (simp [*, errW_none, errW_some] <;> rfl), by (with_reducible repeat (first | apply Kd.N_alloc | apply Kd.N_drewN | apply Kd.N_drew)); exact HO304.out, by repeat (first | (with_reducible first | exact HB.out | apply below_alloc | apply pw_below_drewN | apply below_drew1) | exact HB.out)⟩
  · replace c3 := Bool.eq_false_iff.mpr c3
    subst c3
    have H1 : (some ((([] : List (List Int))), false)) = some (r1, r2) := by rw [if_neg (show ¬ (false = true) by decide)] at H; exact H
    clear H
    have H := H1
    clear H1
    obtain ⟨y305, hy305⟩ : ∃ y_ : List (List Int), y_ = (([] : List (List Int))) := ⟨_, rfl⟩
    replace H : (some (y305, false)) = some (r1, r2) := by first | (rw [hy305]; with_reducible exact H) | (have H2_ := (Option.bind_some _ _).symm.trans H; rw [hy305]; with_reducible exact H2_) | (have H2_ := (Option.bind_some _ _).symm.trans H; with_reducible exact H2_) | with_reducible exact H | (rw [hy305]; exact H) | exact H
    have Ny305 := Aside0.mk hy305
    clear hy305
    simp only [Option.some.injEq, Prod.mk.injEq] at H
    obtain ⟨rfl, rfl⟩ := H
    go_enter Try.func24, Try.ntmps24
    go_wp2_with (first | ((with_reducible refine gate_callee (f := 44) rfl ?_); refine goesL_ (some 5) rfl rfl Try.func44 (by kernel_rfl) rfl #[.slice A0 l0.length c0] rfl (by (try simp only [List.map_toArray, List.map_cons, List.map_nil]); first | done | rfl | (simp only [List.length_drop, List.length_take]; rfl)) ?_; (with_reducible refine (spec_l7Star.calls k _ _ l0 false _ ?side1 ?side2 A2.out).mono ?_); (case side1 => repeat (first | exact HR0.out | (with_reducible refine Kd.C_alloc ?_ _) | (with_reducible refine Kd.C_drewN ?_ _) | (with_reducible refine Kd.C_drew ?_))); (case side2 => exact HC0.out); rintro e w' ⟨rfl, ⟨nd, rfl⟩⟩; refine ⟨_, rfl, ?_⟩) | ((with_reducible refine gate_dst (N := 7) rfl ?_); refine Kd.N_lit (Kd.slice 3 (Kd.int .i64)) _ 34 ?hg (N' := 7) ?hd (xs := ([] : List (List Int))) (inner := []) (ok := (fun k_ => (w.heap.size ≤ k_))) (okp := (fun k_ => (w.heap.size ≤ k_))) ?hr ?hp (fun _ hk => hk) ((show ∀ k_, w.heap.size ≤ k_ → (fun k_ => (w.heap.size ≤ k_)) k_ from fun k_ hk => (Nat.le_trans (below_size (by repeat (first | (with_reducible first | exact HB.out | apply below_alloc | apply pw_below_drewN | apply below_drew1) | exact HB.out))) hk)) _ (Nat.le_refl _)) (Below.refl _ _) (Nat.le_refl _) (by simp) ?_; (case hd => rfl); (case hg => rfl); (case hr => first | (go_simp; done) | (go_simp; rfl)); (case hp => exact (Reps.none _ _)); intro v306 w6 ho7 hb hg_ hnew_; clear hg_ hnew_; (first | rw [← Ny305.out] at ho7 | (simp only [Int.reduceToNat] at ho7; rw [← Ny305.out] at ho7)); have n0_ := Aside0.mk (Kd.N_lower ho7 (below_size (by repeat (first | (with_reducible first | exact HB.out | apply below_alloc | apply pw_below_drewN | apply below_drew1) | exact HB.out)))); have n1_ := Aside0.mk (below_step (by repeat (first | (with_reducible first | exact HB.out | apply below_alloc | apply pw_below_drewN | apply below_drew1) | exact HB.out)) hb); clear HB; have HO307 := n0_; have HB := n1_; clear n0_ n1_; clear hb ho7))
    go_ret2
    exact ⟨_, by first | rfl | (simp [errW_none, errW_some] <;> rfl) | (simp [*, errW_none, errW_some] <;> rfl), by (with_reducible repeat (first | apply Kd.N_alloc | apply Kd.N_drewN | apply Kd.N_drew)); exact HO307.out, by repeat (first | (with_reducible first | exact HB.out | apply below_alloc | apply pw_below_drewN | apply below_drew1) | exact HB.out)⟩

/-! ### laws_markIntS: function 57 -/
def laws_markIntS.l0 : Nat → List Int → Int → Int → Option (Int × List Int)
  | 0, _, _, _ => none
  | k + 1, x0, x1, x5 => if x5 < (x0.length : Int) then (if 0 ≤ x5 then (laws_markIntS.l0 k (x0.set (x5 : Int).toNat x1) (wrap64 (x1 + 1)) (wrap64 (x5 + 1))) else (none)) else (some (x1, x0))
def laws_markIntS.f (k : Nat) (l0 : List Int) (a1 : Int) : Option (Int × List Int) := laws_markIntS.l0 k l0 a1 0
theorem laws_markIntS.mono_l : ∀ k, (∀ y0 y1 y2, LeO (laws_markIntS.l0 k y0 y1 y2) (laws_markIntS.l0 (k + 1) y0 y1 y2))
  | 0 => fun _ _ _ r h => by simp [laws_markIntS.l0] at h
  | k + 1 => by
    have ih0 := laws_markIntS.mono_l k
    · intro y0 y1 y2
      unfold laws_markIntS.l0
      repeat' first
      | (with_reducible exact ih0 _ _ _)
      | (with_reducible exact LeO.refl _)
      | (with_reducible exact LeO.none _)
      | (with_reducible refine LeO.ite ?_ ?_)
      | (with_reducible refine LeO.bind ?_ (fun _ => ?_))
      | exact ih0 _ _ _
      | exact LeO.none _
      | refine LeO.ite ?_ ?_
      | refine LeO.bind ?_ (fun _ => ?_)
theorem laws_markIntS.mono : ∀ a0 a1 k, LeO (laws_markIntS.f k a0 a1) (laws_markIntS.f (k + 1) a0 a1) := by
  intro a0 a1 k
  have ih0 := laws_markIntS.mono_l k
  unfold laws_markIntS.f
  repeat' first
      | (with_reducible exact ih0 _ _ _)
      | (with_reducible exact LeO.refl _)
      | (with_reducible exact LeO.none _)
      | (with_reducible refine LeO.ite ?_ ?_)
      | (with_reducible refine LeO.bind ?_ (fun _ => ?_))
      | exact ih0 _ _ _
      | exact LeO.none _
      | refine LeO.ite ?_ ?_
      | refine LeO.bind ?_ (fun _ => ?_)
set_option maxHeartbeats 8000000 in
set_option maxRecDepth 100000 in
theorem laws_markIntS.calls (k : Nat) (P0_ : Nat → Prop) (u9000_ : Value) (l0 : List Int) (a1 : Int) (r1 : Int) (r2 : List Int) (w0 w : World) (hB : Below w0.heap.size w0 w) (ho0 : Kd.R (Kd.int .i64) 3 w w0.heap.size P0_ u9000_ l0) (h : laws_markIntS.f k l0 a1 = some (r1, r2)) :
    Calls Try.prog 57 #[u9000_, .int .i64 a1] w fun e w' => e = .returned (.int .i64 r1) ∧ Kd.R (Kd.int .i64) 3 w' w0.heap.size (fun k_ => (P0_ k_ ∨ w.heap.size ≤ k_)) u9000_ r2 ∧ Below w0.heap.size w0 w' ∧ Kept w w' (fun k_ => P0_ k_) := by
  have HO0 := Aside0.mk (show Kd.R (Kd.int .i64) 3 w w0.heap.size (fun k_ => (P0_ k_ ∨ w.heap.size ≤ k_)) u9000_ l0 from Kd.R_mono ho0 (fun k_ hk => (.inl hk)))
  have HK := Aside0.mk (Kept.refl w (fun k_ => P0_ k_))
  have HW0 := Aside0.mk hB.size
  have HB := Aside0.mk hB
  clear hB
  have H : (laws_markIntS.l0 k l0 a1 0) = some (r1, r2) := h
  clear h
  have H' := Aside0.mk H
  clear H
  go_enter Try.func57, Try.ntmps57
  go_wp2
  go_loopg [1, 5] k (fun kq v1 v5 w' => ∃ (x0_1 : List Int) (x1_1 : Int) (x5_1 : Int), v1 = .int .i64 x1_1 ∧ v5 = .int .i64 x5_1 ∧ Aside0 (laws_markIntS.l0 kq x0_1 x1_1 x5_1 = some (r1, r2)) ∧ Aside0 (kq ≤ k) ∧ Aside0 (Kd.R (Kd.int .i64) 3 w' w0.heap.size (fun k_ => (P0_ k_ ∨ w.heap.size ≤ k_)) u9000_ x0_1) ∧ Aside0 (Kept w w' (fun k_ => P0_ k_)) ∧ Aside0 (Below w0.heap.size w0 w'))
  case atStart => exact ⟨(l0), (a1), (0), (by first | rfl | (simp; done) | (simp [*]; done)), (by first | rfl | (simp; done) | (simp [*]; done)), H', ⟨Nat.le_refl _⟩, ⟨by (with_reducible repeat (first | apply Kd.R_alloc | apply Kd.R_drewN | apply Kd.R_drew)); exact HO0.out⟩, ⟨by repeat (first | (with_reducible first | exact HK.out | apply Kept.alloc | apply Kept.drewN | apply Kept.drew) | exact HK.out)⟩, ⟨by repeat (first | (with_reducible first | exact HB.out | apply below_alloc | apply pw_below_drewN | apply below_drew1) | exact HB.out)⟩⟩
  case round =>
    clear H'
    try clear p2
    obtain ⟨x0_1, x1_1, x5_1, rfl, rfl, HA, HK1, HO_0, HK, HB⟩ := hrel
    cases gk with
    | zero => exact absurd HA.out (by simp [laws_markIntS.l0])
    | succ k1 =>
      have H := HA.out
      clear HA
      simp only [laws_markIntS.l0] at H
      by_cases c3 : x5_1 < (x0_1.length : Int)
      · rw [if_pos c3] at H
        have c3b0 : decide (x5_1 < (x0_1.length : Int)) = true := decide_eq_true c3
        clear c3
        by_cases c4 : 0 ≤ x5_1
        · rw [if_pos c4] at H
          have c4b0 : decide (0 ≤ x5_1) = true := decide_eq_true c4
          clear c4
          obtain ⟨y308, hy308⟩ : ∃ y_ : List Int, y_ = (x0_1.set (x5_1 : Int).toNat x1_1) := ⟨_, rfl⟩
          replace H : (laws_markIntS.l0 k1 y308 (wrap64 (x1_1 + 1)) (wrap64 (x5_1 + 1))) = some (r1, r2) := by first | (rw [hy308]; with_reducible exact H) | (have H2_ := (Option.bind_some _ _).symm.trans H; rw [hy308]; with_reducible exact H2_) | (have H2_ := (Option.bind_some _ _).symm.trans H; with_reducible exact H2_) | with_reducible exact H | (rw [hy308]; exact H) | exact H
          have Ny308 := Aside0.mk hy308
          clear hy308
          have H' := Aside0.mk H
          clear H
          obtain ⟨Ao6, co6, eo6⟩ := Kd.R_slice HO_0.out
          subst eo6
          have p5 : 0 ≤ (x5_1 : Int) := of_decide_eq_true (by first | (with_reducible assumption) | assumption)
          have q5 : (x5_1 : Int) < ((x0_1.length : Int) : Int) := of_decide_eq_true (by first | (with_reducible assumption) | assumption)
          obtain ⟨go5, co5, eo5, gb5, gl5, cl5, HG5⟩ := Kd.R_form HO_0.out (by omega)
          (first | cases eo5 | (injection eo5 with ea_ en_ ec_; (first | subst ea_ | (injection ea_ with ea_; subst ea_)); subst ec_; clear en_))
          have GB5 := Aside0.mk gb5
          have GG5 := Aside0.mk HG5
          clear gb5 gl5 HG5
          have HMgo5 := Aside0.mk (show (P0_ go5 ∨ w.heap.size ≤ go5) from (HO_0.out.1 _ rfl))
          obtain ⟨hx5_0, hf5_0⟩ := Kd.R_celln 0 HO_0.out (x5_1 : Int) p5 q5
          replace p5 := eq_true p5
          replace q5 := eq_true q5
          have HP7 := Kd.R_putg HO_0.out (x5_1 : Int) x1_1
          go_wp2_with (first | ((with_reducible refine gate_store (t := 3) (p := 15) rfl ?_); refine store_event (t := 3) (p := 15) (v := ?vo_w8) (w1 := (wr.setCell ⟨go5, (x5_1 : Int).toNat, none⟩ (.int .i64 x1_1))) ?hg ?ho ?hn ?hr ?_; (case ho => rfl); (case hg => rfl); (case hn => rfl); (case hr => first | (go_simp; done) | (go_simp; rfl)); intro w8 hw; have hg : wr.grownBy w8 (some go5) := (by rw [hw]; exact HP7.2); have hp_ : Kd.R (Kd.int .i64) 3 w8 w0.heap.size (fun k_ => (P0_ k_ ∨ w.heap.size ≤ k_)) (.slice (some ⟨go5, 0, none⟩) x0_1.length co6) y308 := (by rw [hw, Ny308.out]; exact HP7.1); clear HP7; have n0_ := Aside0.mk (hp_); have n1_ := Aside0.mk ((by rw [hw]; exact below_set (HB.out) GB5.out : Below w0.heap.size w0 w8)); have n2_ := Aside0.mk (Kept.of_grown (S := (fun k_ => P0_ k_)) hg (by repeat (first | (with_reducible first | exact HK.out | apply Kept.alloc | apply Kept.drewN | apply Kept.drew) | exact HK.out)) (fun k_ e_ => (HO_0.out.1 k_ e_))); clear HO_0; clear HB; clear HK; have HO_0 := n0_; have HB := n1_; have HK := n2_; clear n0_ n1_ n2_; clear hg hw hp_))
          go_roundg k1
          case measure => have := HK1.out; omega
          case rel => exact ⟨(y308), (wrap64 (x1_1 + 1)), (wrap64 (x5_1 + 1)), (by first | rfl | (simp; done) | (simp [*]; done)), (by first | rfl | (simp; done) | (simp [*]; done)), H', ⟨by have := HK1.out; omega⟩, ⟨by (with_reducible repeat (first | apply Kd.R_alloc | apply Kd.R_drewN | apply Kd.R_drew)); exact HO_0.out⟩, ⟨by repeat (first | (with_reducible first | exact HK.out | apply Kept.alloc | apply Kept.drewN | apply Kept.drew) | exact HK.out)⟩, ⟨by repeat (first | (with_reducible first | exact HB.out | apply below_alloc | apply pw_below_drewN | apply below_drew1) | exact HB.out)⟩⟩
        · rw [if_neg c4] at H
          exact absurd H (by simp)
      · rw [if_neg c3] at H
        have c3b0 : decide (x5_1 < (x0_1.length : Int)) = false := decide_eq_false c3
        clear c3
        simp only [Option.some.injEq, Prod.mk.injEq] at H
        obtain ⟨rfl, rfl⟩ := H
        obtain ⟨Ao9, co9, eo9⟩ := Kd.R_slice HO_0.out
        subst eo9
        go_wp2
        go_ret
        exact ⟨by first | rfl | (simp [errW_none, errW_some] <;> rfl) | (simp [*, errW_none, errW_some] <;> rfl), by (with_reducible repeat (first | apply Kd.R_alloc | apply Kd.R_drewN | apply Kd.R_drew)); exact HO_0.out, by repeat (first | (with_reducible first | exact HB.out | apply below_alloc | apply pw_below_drewN | apply below_drew1) | exact HB.out), by repeat (first | (with_reducible first | exact HK.out | apply Kept.alloc | apply Kept.drewN | apply Kept.drew) | exact HK.out)⟩

/-! ### laws_markIntSS: function 25, by hand -/
def laws_markIntSS.l0 (k : Nat) : List (List Int) → Int → Option (Int × List (List Int))
  | [], a => some (a, [])
  | s :: t, a => (laws_markIntS.f k s a).bind fun p => (laws_markIntSS.l0 k t p.1).bind fun q => some (q.1, p.2 :: q.2)
def laws_markIntSS.f (k : Nat) (l0 : List (List Int)) (a1 : Int) : Option (Int × List (List Int)) := laws_markIntSS.l0 k l0 a1
theorem laws_markIntSS.mono_l (k : Nat) : ∀ l a, LeO (laws_markIntSS.l0 k l a) (laws_markIntSS.l0 (k + 1) l a)
  | [], _ => LeO.refl _
  | s :: t, a => by
    unfold laws_markIntSS.l0
    exact LeO.bind (laws_markIntS.mono _ _ _) (fun p => LeO.bind (laws_markIntSS.mono_l k t p.1) (fun q => LeO.refl _))
theorem laws_markIntSS.mono : ∀ a0 a1 k, LeO (laws_markIntSS.f k a0 a1) (laws_markIntSS.f (k + 1) a0 a1) := fun a0 a1 k => laws_markIntSS.mono_l k a0 a1
open Go.Proofs.Ytkphiccdgclldaa.HRaw Go.Proofs.Ytkphiccdgclldaa.HSrt Go.Proofs.Ytkphiccdgclldaa.HMrk in
set_option maxHeartbeats 8000000 in
set_option maxRecDepth 100000 in
theorem laws_markIntSS.calls (k : Nat) (P0_ : Nat → Prop) (u9000_ : Value) (l0 : List (List Int)) (a1 : Int) (r1 : Int) (r2 : List (List Int)) (w0 w : World) (hB : Below w0.heap.size w0 w) (ho0 : Kd.S (Kd.slice 3 (Kd.int .i64)) 34 w w0.heap.size P0_ u9000_ l0) (h : laws_markIntSS.f k l0 a1 = some (r1, r2)) :
    Calls Try.prog 25 #[u9000_, .int .i64 a1] w fun e w' => e = .returned (.int .i64 r1) ∧ Kd.S (Kd.slice 3 (Kd.int .i64)) 34 w' w0.heap.size (fun k_ => (P0_ k_ ∨ w.heap.size ≤ k_)) u9000_ r2 ∧ Below w0.heap.size w0 w' ∧ Kept w w' (fun k_ => P0_ k_) := by
  unfold laws_markIntSS.f at h
  by_cases hn : 0 < l0.length
  · obtain ⟨g, cap, cur, hs, f, O⟩ := open_S ho0 hn
    obtain rfl := O.val
    have hl := O.hlen
    have hmx := maxLen_le O.len O.cm
    have OO := Aside0.mk O
    have HB := Aside0.mk hB
    have HH := Aside0.mk h
    have HK := Aside0.mk (Kept.refl w P0_)
    clear O ho0 hB h
    go_enter Try.func25, Try.ntmps25
    go_wp2
    go_loopg [1, 5] l0.length (fun kq v1 v5 w' => ∃ (i : Nat) (a : Int) (ys zs : List (List Int)), v1 = .int .i64 a ∧ v5 = .int .i64 i ∧ kq + i = l0.length ∧ Aside0 (ys.length = i) ∧ Aside0 (r2 = ys ++ zs) ∧ Aside0 (laws_markIntSS.l0 k (l0.drop i) a = some (r1, zs)) ∧
      Aside0 (OpenS w' 3 34 w0.heap.size P0_ (.slice (some ⟨g, 0, none⟩) l0.length cap) (ys ++ l0.drop i) g cap cur hs f) ∧ Aside0 (Below w0.heap.size w0 w') ∧ Aside0 (Kept w w' P0_))
    case atStart => exact ⟨0, a1, [], r2, rfl, rfl, rfl, ⟨rfl⟩, ⟨rfl⟩, HH, OO, HB, HK⟩
    case round =>
      clear OO HB HH HK
      obtain ⟨i, a, ys, zs, rfl, rfl, hki, hyl, hr2, HH, OO, HB, HK⟩ := hrel
      by_cases hlt : i < l0.length
      · have H := HH.out
        clear HH
        rw [List.drop_eq_getElem_cons hlt] at H
        simp only [laws_markIntSS.l0] at H
        obtain ⟨⟨p1, p2⟩, hp, H⟩ := Option.bind_eq_some_iff.mp H
        obtain ⟨⟨q1, q2⟩, hq, H⟩ := Option.bind_eq_some_iff.mp H
        obtain ⟨rfl, rfl⟩ : q1 = r1 ∧ p2 :: q2 = zs := by injection H with H; injection H with a b; exact ⟨a, b⟩
        clear H
        have hlen : (ys ++ l0.drop i).length = l0.length := by rw [List.length_append, hyl.out, List.length_drop]; omega
        have hi1 : i < (ys ++ l0.drop i).length := by omega
        have hi2 : i < hs.length := by have := OO.out.hlen; omega
        have hget : (ys ++ l0.drop i)[i] = l0[i] := by
          rw [List.getElem_append_right (by rw [hyl.out]; exact Nat.le_refl _)]
          simp [hyl.out]
        obtain ⟨A1, n1, c1, e1⟩ : ∃ A n c, hs[i] = (A, n, c) := ⟨_, _, _, rfl⟩
        have hR := OO.out.el i l0[i] hs[i] (by rw [List.getElem?_eq_getElem hi1, hget]) (List.getElem?_eq_getElem hi2)
        rw [e1] at hR
        have hx : wr.cell? ⟨g, i, none⟩ = some (.slice A1 n1 c1) := by
          have h1 := OO.out.hd i hi2
          rw [e1] at h1
          unfold World.cell?
          simp only [OO.out.blk]
          exact h1
        have c57 := laws_markIntS.calls k (fun k_ => (P0_ k_ ∧ k_ ≠ g) ∧ f k_ = i) (.slice A1 n1 c1) l0[i] a p1 p2 w0 wr HB.out hR hp
        have hn1 : l0[i].length = n1 := by
          obtain ⟨A', c', e'⟩ := Kd.R_slice hR
          unfold encH at e'
          injection e' with _ e' _
          exact e'.symm
        have q1' : ((i : Int) < (l0.length : Int)) = True := eq_true (by omega)
        have q2' : (i < l0.length) = True := eq_true hlt
        clear hR
        go_wp2_with (first | (go_at_call 57; refine c57.mono ?_; rintro e w2 ⟨rfl, hR2, hB2, hK2⟩; clear c57))
        have hp2 : p2.length = l0[i].length := by
          obtain ⟨A', c', e'⟩ := Kd.R_slice hR2
          injection e' with _ e' _
          omega
        have OS := OpenS_wrote OO.out hi1 hi2 (y := p2) (by rw [hget]; exact hp2) (W := w2) ⟨_, by rw [e1]; exact hR2⟩ hK2.2
        have es : (ys ++ l0.drop i).set i p2 = (ys ++ [p2]) ++ l0.drop (i + 1) := by
          rw [List.set_append_right _ _ (by rw [hyl.out]; exact Nat.le_refl _), hyl.out, Nat.sub_self, List.drop_eq_getElem_cons hlt, List.set_cons_zero, List.append_assoc]
          rfl
        rw [es] at OS
        go_roundg (l0.length - (i + 1))
        case measure => omega
        case rel => exact ⟨i + 1, p1, ys ++ [p2], q2, rfl, by simp, by omega, ⟨by rw [List.length_append, hyl.out]; rfl⟩, ⟨by rw [hr2.out, List.append_assoc]; rfl⟩, ⟨hq⟩, ⟨OS⟩, ⟨hB2⟩, ⟨HK.out.then_ hK2 (fun k_ hk => .inl hk.1.1)⟩⟩
      · have hin : i = l0.length := by omega
        subst hin
        have H := HH.out
        rw [List.drop_length] at H
        simp only [laws_markIntSS.l0] at H
        obtain ⟨rfl, rfl⟩ : a = r1 ∧ [] = zs := by injection H with H; injection H with a b; exact ⟨a, b⟩
        have hS := OO.out.shut
        rw [List.drop_length, ← hr2.out] at hS
        go_wp2
        go_ret
        exact ⟨rfl, Kd.S_mono hS (fun k_ hk => .inl hk), HB.out, HK.out⟩
  · have h0 : l0 = [] := List.eq_nil_of_length_eq_zero (by omega)
    subst h0
    obtain ⟨A, c, rfl⟩ := Kd.S_slice ho0
    simp only [laws_markIntSS.l0] at h
    obtain ⟨rfl, rfl⟩ : a1 = r1 ∧ [] = r2 := by injection h with h; injection h with a b; exact ⟨a, b⟩
    have HS := Aside0.mk ho0
    clear ho0 h
    go_enter Try.func25, Try.ntmps25
    go_wp2
    go_loopg [1, 5] 0 (fun kq v1 v5 w' => v1 = .int .i64 a1 ∧ v5 = .int .i64 0 ∧ w' = w)
    case atStart => exact ⟨rfl, rfl, rfl⟩
    case round =>
      obtain ⟨rfl, rfl, rfl⟩ := hrel
      go_wp2
      go_ret
      exact ⟨rfl, Kd.S_mono HS.out (fun k_ hk => .inl hk), hB, Kept.refl _ _⟩

/-! ### laws_heldIntS: function 58 -/
def laws_heldIntS.l0 : Nat → List Int → Int → Int → Option (Int)
  | 0, _, _, _ => none
  | k + 1, x0, x1, x5 => if x5 < (x0.length : Int) then (if 0 ≤ x5 then (if (rd x0 x5) = x1 then (laws_heldIntS.l0 k x0 (wrap64 (x1 + 1)) (wrap64 (x5 + 1))) else (some (-1))) else (none)) else (some x1)
def laws_heldIntS.f (k : Nat) (l0 : List Int) (a1 : Int) : Option (Int) := laws_heldIntS.l0 k l0 a1 0
theorem laws_heldIntS.mono_l : ∀ k, (∀ y0 y1 y2, LeO (laws_heldIntS.l0 k y0 y1 y2) (laws_heldIntS.l0 (k + 1) y0 y1 y2))
  | 0 => fun _ _ _ r h => by simp [laws_heldIntS.l0] at h
  | k + 1 => by
    have ih0 := laws_heldIntS.mono_l k
    · intro y0 y1 y2
      unfold laws_heldIntS.l0
      repeat' first
      | (with_reducible exact ih0 _ _ _)
      | (with_reducible exact LeO.refl _)
      | (with_reducible exact LeO.none _)
      | (with_reducible refine LeO.ite ?_ ?_)
      | (with_reducible refine LeO.bind ?_ (fun _ => ?_))
      | exact ih0 _ _ _
      | exact LeO.none _
      | refine LeO.ite ?_ ?_
      | refine LeO.bind ?_ (fun _ => ?_)
theorem laws_heldIntS.mono : ∀ a0 a1 k, LeO (laws_heldIntS.f k a0 a1) (laws_heldIntS.f (k + 1) a0 a1) := by
  intro a0 a1 k
  have ih0 := laws_heldIntS.mono_l k
  unfold laws_heldIntS.f
  repeat' first
      | (with_reducible exact ih0 _ _ _)
      | (with_reducible exact LeO.refl _)
      | (with_reducible exact LeO.none _)
      | (with_reducible refine LeO.ite ?_ ?_)
      | (with_reducible refine LeO.bind ?_ (fun _ => ?_))
      | exact ih0 _ _ _
      | exact LeO.none _
      | refine LeO.ite ?_ ?_
      | refine LeO.bind ?_ (fun _ => ?_)
set_option maxHeartbeats 8000000 in
set_option maxRecDepth 100000 in
theorem laws_heldIntS.calls (k : Nat) (A0 : Option Addr) (c0 : Nat) (l0 : List Int) (a1 : Int) (r : Int) (w : World) (hr0 : Kd.C (Kd.int .i64) w A0 l0.length l0) (hc0 : l0.length ≤ c0) (h : laws_heldIntS.f k l0 a1 = some r) :
    Calls Try.prog 58 #[.slice A0 l0.length c0, .int .i64 a1] w fun e w' => e = .returned (.int .i64 r) ∧ Drawn0 w w' := by
  have HR0 := Aside0.mk hr0
  have HC0 := Aside0.mk hc0
  clear hr0 hc0
  have H : (laws_heldIntS.l0 k l0 a1 0) = some r := h
  clear h
  have H' := Aside0.mk H
  clear H
  go_enter Try.func58, Try.ntmps58
  go_wp2
  go_loopg [1, 5] k (fun kq v1 v5 w' => ∃ (x1_1 : Int) (x5_1 : Int), v1 = .int .i64 x1_1 ∧ v5 = .int .i64 x5_1 ∧ Aside0 (laws_heldIntS.l0 kq l0 x1_1 x5_1 = some r) ∧ Aside0 (kq ≤ k) ∧ Drawn0 w w')
  case atStart => exact ⟨(a1), (0), (by first | rfl | (simp; done) | (simp [*]; done)), (by first | rfl | (simp; done) | (simp [*]; done)), H', ⟨Nat.le_refl _⟩, by repeat (first | exact Drawn0.refl _ | apply Drawn0.step)⟩
  case round =>
    clear H'
    try clear p2
    obtain ⟨x1_1, x5_1, rfl, rfl, HA, HK1, ⟨m1, rfl⟩⟩ := hrel
    cases gk with
    | zero => exact absurd HA.out (by simp [laws_heldIntS.l0])
    | succ k1 =>
      have H := HA.out
      clear HA
      simp only [laws_heldIntS.l0] at H
      by_cases c3 : x5_1 < (l0.length : Int)
      · rw [if_pos c3] at H
        have c3b0 : decide (x5_1 < (l0.length : Int)) = true := decide_eq_true c3
        clear c3
        by_cases c4 : 0 ≤ x5_1
        · rw [if_pos c4] at H
          have c4b0 : decide (0 ≤ x5_1) = true := decide_eq_true c4
          clear c4
          by_cases c5 : (rd l0 x5_1) = x1_1
          · rw [if_pos c5] at H
            have c5b0 : ((rd l0 x5_1) == x1_1) = true := beq_iff_eq.mpr c5
            have c5b1 : ((rd l0 x5_1) != x1_1) = false := bne_eq_false_iff_eq.mpr c5
            clear c5
            have H' := Aside0.mk H
            clear H
            have p309 : 0 ≤ (x5_1 : Int) := of_decide_eq_true (by first | (with_reducible assumption) | assumption)
            have q309 : x5_1 < (l0.length : Int) := of_decide_eq_true (by first | (with_reducible assumption) | assumption)
            obtain ⟨ad309, e309, hx309_0⟩ := Kd.at_int HR0.out x5_1 p309 q309
            cases e309
            replace p309 := eq_true p309
            replace q309 := eq_true q309
            go_wp2
            go_roundg k1
            case measure => have := HK1.out; omega
            case rel => exact ⟨(wrap64 (x1_1 + 1)), (wrap64 (x5_1 + 1)), (by first | rfl | (simp; done) | (simp [*]; done)), (by first | rfl | (simp; done) | (simp [*]; done)), H', ⟨by have := HK1.out; omega⟩, by repeat (first | exact Drawn0.refl _ | apply Drawn0.step)⟩
          · rw [if_neg c5] at H
            have c5b0 : ((rd l0 x5_1) == x1_1) = false := beq_eq_false_iff_ne.mpr c5
            have c5b1 : ((rd l0 x5_1) != x1_1) = true := bne_iff_ne.mpr c5
            obtain rfl := Option.some.inj H
            have p309 : 0 ≤ (x5_1 : Int) := of_decide_eq_true (by first | (with_reducible assumption) | assumption)
            have q309 : x5_1 < (l0.length : Int) := of_decide_eq_true (by first | (with_reducible assumption) | assumption)
            obtain ⟨ad309, e309, hx309_0⟩ := Kd.at_int HR0.out x5_1 p309 q309
            cases e309
            replace p309 := eq_true p309
            replace q309 := eq_true q309
            go_wp2
            go_ret
            exact ⟨by first | rfl | (simp; done) | (simp [*]; done), by repeat (first | exact Drawn0.refl _ | apply Drawn0.step)⟩
        · rw [if_neg c4] at H
          exact absurd H (by simp)
      · rw [if_neg c3] at H
        have c3b0 : decide (x5_1 < (l0.length : Int)) = false := decide_eq_false c3
        clear c3
        obtain rfl := Option.some.inj H
        go_wp2
        go_ret
        exact ⟨by first | rfl | (simp; done) | (simp [*]; done), by repeat (first | exact Drawn0.refl _ | apply Drawn0.step)⟩

/-! ### laws_heldIntSS: function 26 -/
def laws_heldIntSS.l0 : Nat → List (List Int) → Int → Int → Option (Int)
  | 0, _, _, _ => none
  | k + 1, x0, x1, x5 => if x5 < (x0.length : Int) then (if 0 ≤ x5 then ((laws_heldIntS.f k (rd_L1 x0 x5) x1).bind fun t311 => (if t311 < 0 then (some (-1)) else (laws_heldIntSS.l0 k x0 t311 (wrap64 (x5 + 1))))) else (none)) else (some x1)
def laws_heldIntSS.f (k : Nat) (l0 : List (List Int)) (a1 : Int) : Option (Int) := laws_heldIntSS.l0 k l0 a1 0
theorem laws_heldIntSS.mono_l : ∀ k, (∀ y0 y1 y2, LeO (laws_heldIntSS.l0 k y0 y1 y2) (laws_heldIntSS.l0 (k + 1) y0 y1 y2))
  | 0 => fun _ _ _ r h => by simp [laws_heldIntSS.l0] at h
  | k + 1 => by
    have ih0 := laws_heldIntSS.mono_l k
    · intro y0 y1 y2
      unfold laws_heldIntSS.l0
      repeat' first
      | (with_reducible exact ih0 _ _ _)
      | (with_reducible exact laws_heldIntS.mono _ _ _)
      | (with_reducible exact LeO.refl _)
      | (with_reducible exact LeO.none _)
      | (with_reducible refine LeO.ite ?_ ?_)
      | (with_reducible refine LeO.bind ?_ (fun _ => ?_))
      | exact ih0 _ _ _
      | exact laws_heldIntS.mono _ _ _
      | exact LeO.none _
      | refine LeO.ite ?_ ?_
      | refine LeO.bind ?_ (fun _ => ?_)
theorem laws_heldIntSS.mono : ∀ a0 a1 k, LeO (laws_heldIntSS.f k a0 a1) (laws_heldIntSS.f (k + 1) a0 a1) := by
  intro a0 a1 k
  have ih0 := laws_heldIntSS.mono_l k
  unfold laws_heldIntSS.f
  repeat' first
      | (with_reducible exact ih0 _ _ _)
      | (with_reducible exact laws_heldIntS.mono _ _ _)
      | (with_reducible exact LeO.refl _)
      | (with_reducible exact LeO.none _)
      | (with_reducible refine LeO.ite ?_ ?_)
      | (with_reducible refine LeO.bind ?_ (fun _ => ?_))
      | exact ih0 _ _ _
      | exact laws_heldIntS.mono _ _ _
      | exact LeO.none _
      | refine LeO.ite ?_ ?_
      | refine LeO.bind ?_ (fun _ => ?_)
set_option maxHeartbeats 8000000 in
set_option maxRecDepth 100000 in
theorem laws_heldIntSS.calls (k : Nat) (A0 : Option Addr) (c0 : Nat) (l0 : List (List Int)) (a1 : Int) (r : Int) (w : World) (hr0 : Kd.C (Kd.slice 3 (Kd.int .i64)) w A0 l0.length l0) (hc0 : l0.length ≤ c0) (h : laws_heldIntSS.f k l0 a1 = some r) :
    Calls Try.prog 26 #[.slice A0 l0.length c0, .int .i64 a1] w fun e w' => e = .returned (.int .i64 r) ∧ Drawn0 w w' := by
  have HR0 := Aside0.mk hr0
  have HC0 := Aside0.mk hc0
  clear hr0 hc0
  have H : (laws_heldIntSS.l0 k l0 a1 0) = some r := h
  clear h
  have H' := Aside0.mk H
  clear H
  go_enter Try.func26, Try.ntmps26
  go_wp2
  go_loopg [1, 5] k (fun kq v1 v5 w' => ∃ (x1_1 : Int) (x5_1 : Int), v1 = .int .i64 x1_1 ∧ v5 = .int .i64 x5_1 ∧ Aside0 (laws_heldIntSS.l0 kq l0 x1_1 x5_1 = some r) ∧ Aside0 (kq ≤ k) ∧ Drawn0 w w')
  case atStart => exact ⟨(a1), (0), (by first | rfl | (simp; done) | (simp [*]; done)), (by first | rfl | (simp; done) | (simp [*]; done)), H', ⟨Nat.le_refl _⟩, by repeat (first | exact Drawn0.refl _ | apply Drawn0.step)⟩
  case round =>
    clear H'
    try clear c2
    try clear p2
    obtain ⟨x1_1, x5_1, rfl, rfl, HA, HK1, ⟨m1, rfl⟩⟩ := hrel
    cases gk with
    | zero => exact absurd HA.out (by simp [laws_heldIntSS.l0])
    | succ k1 =>
      have H := HA.out
      clear HA
      simp only [laws_heldIntSS.l0] at H
      by_cases c3 : x5_1 < (l0.length : Int)
      · rw [if_pos c3] at H
        have c3b0 : decide (x5_1 < (l0.length : Int)) = true := decide_eq_true c3
        clear c3
        by_cases c4 : 0 ≤ x5_1
        · rw [if_pos c4] at H
          have c4b0 : decide (0 ≤ x5_1) = true := decide_eq_true c4
          clear c4
          replace H := Option.bind_eq_some_iff.mp H
          obtain ⟨t311, A50, H⟩ := H
          replace H : (if t311 < 0 then (some (-1)) else (laws_heldIntSS.l0 k1 l0 t311 (wrap64 (x5_1 + 1)))) = some r := H
          have A5 := Aside0.mk A50
          clear A50
          by_cases c6 : t311 < 0
          · rw [if_pos c6] at H
            have c6b0 : decide (t311 < 0) = true := decide_eq_true c6
            clear c6
            obtain rfl := Option.some.inj H
            have p310 : 0 ≤ (x5_1 : Int) := of_decide_eq_true (by first | (with_reducible assumption) | assumption)
            have q310 : x5_1 < (l0.length : Int) := of_decide_eq_true (by first | (with_reducible assumption) | assumption)
            obtain ⟨ad310, A310_0, c310_0, e310, hx310_0, hl310_0, hi310_0⟩ := at_L1 HR0.out x5_1 p310 q310
            cases e310
            have HR310_0 := Aside0.mk hi310_0
            have HC310_0 := Aside0.mk hl310_0
            clear hi310_0 hl310_0
            replace p310 := eq_true p310
            replace q310 := eq_true q310
            go_wp2_with (first | ((with_reducible refine gate_callee (f := 58) rfl ?_); refine goesL_ (some 17) rfl rfl Try.func58 (by kernel_rfl) rfl #[.slice A310_0 (rd_L1 l0 x5_1).length c310_0, .int .i64 x1_1] rfl (by (try simp only [List.map_toArray, List.map_cons, List.map_nil]); first | done | rfl | (simp only [List.length_drop, List.length_take]; rfl)) ?_; (with_reducible refine (laws_heldIntS.calls k1 _ _ (rd_L1 l0 x5_1) x1_1 t311 _ ?side1 ?side2 A5.out).mono ?_); (case side1 => repeat (first | exact HR310_0.out | (with_reducible refine Kd.C_alloc ?_ _) | (with_reducible refine Kd.C_drewN ?_ _) | (with_reducible refine Kd.C_drew ?_))); (case side2 => exact HC310_0.out); rintro e w' ⟨rfl, ⟨nd, rfl⟩⟩; refine ⟨_, rfl, ?_⟩))
            go_ret
            exact ⟨by first | rfl | (simp; done) | (simp [*]; done), by repeat (first | exact Drawn0.refl _ | apply Drawn0.step)⟩
          · rw [if_neg c6] at H
            have c6b0 : decide (t311 < 0) = false := decide_eq_false c6
            clear c6
            have H' := Aside0.mk H
            clear H
            have p310 : 0 ≤ (x5_1 : Int) := of_decide_eq_true (by first | (with_reducible assumption) | assumption)
            have q310 : x5_1 < (l0.length : Int) := of_decide_eq_true (by first | (with_reducible assumption) | assumption)
            obtain ⟨ad310, A310_0, c310_0, e310, hx310_0, hl310_0, hi310_0⟩ := at_L1 HR0.out x5_1 p310 q310
            cases e310
            have HR310_0 := Aside0.mk hi310_0
            have HC310_0 := Aside0.mk hl310_0
            clear hi310_0 hl310_0
            replace p310 := eq_true p310
            replace q310 := eq_true q310
            go_wp2_with (first | ((with_reducible refine gate_callee (f := 58) rfl ?_); refine goesL_ (some 17) rfl rfl Try.func58 (by kernel_rfl) rfl #[.slice A310_0 (rd_L1 l0 x5_1).length c310_0, .int .i64 x1_1] rfl (by (try simp only [List.map_toArray, List.map_cons, List.map_nil]); first | done | rfl | (simp only [List.length_drop, List.length_take]; rfl)) ?_; (with_reducible refine (laws_heldIntS.calls k1 _ _ (rd_L1 l0 x5_1) x1_1 t311 _ ?side1 ?side2 A5.out).mono ?_); (case side1 => repeat (first | exact HR310_0.out | (with_reducible refine Kd.C_alloc ?_ _) | (with_reducible refine Kd.C_drewN ?_ _) | (with_reducible refine Kd.C_drew ?_))); (case side2 => exact HC310_0.out); rintro e w' ⟨rfl, ⟨nd, rfl⟩⟩; refine ⟨_, rfl, ?_⟩))
            go_roundg k1
            case measure => have := HK1.out; omega
            case rel => exact ⟨(t311), (wrap64 (x5_1 + 1)), (by first | rfl | (simp; done) | (simp [*]; done)), (by first | rfl | (simp; done) | (simp [*]; done)), H', ⟨by have := HK1.out; omega⟩, by repeat (first | exact Drawn0.refl _ | apply Drawn0.step)⟩
        · rw [if_neg c4] at H
          exact absurd H (by simp)
      · rw [if_neg c3] at H
        have c3b0 : decide (x5_1 < (l0.length : Int)) = false := decide_eq_false c3
        clear c3
        obtain rfl := Option.some.inj H
        go_wp2
        go_ret
        exact ⟨by first | rfl | (simp; done) | (simp [*]; done), by repeat (first | exact Drawn0.refl _ | apply Drawn0.step)⟩

/-! ### laws_FnExactZonoPath: function 5, by hand -/
def laws_FnExactZonoPath.f (k : Nat) (l0 : List (List Int)) : Option Bool := (laws_szIntSS.f k l0 1048576).bind fun t => if t < 0 then some true else (laws_toIntSS.f k l0).bind fun a => (spec_ZonoPath.f k a).bind fun ws => (impl_ZonoPath.f k a).bind fun gs => (laws_eqIntSS.f k gs.1 ws.1).bind fun e1 => (laws_eqIntSS.f k a a).bind fun e2 => (laws_markIntSS.f k a 1).bind fun mx => (laws_markIntSS.f k gs.1 1).bind fun mg => (laws_heldIntSS.f k mg.2 1).bind fun q => if e1 = true ∧ gs.2 = ws.2 ∧ e2 = true ∧ 0 ≤ mx.1 ∧ 0 ≤ q ∧ q = mg.1 then some true else none
theorem laws_FnExactZonoPath.mono : ∀ a0 k, LeO (laws_FnExactZonoPath.f k a0) (laws_FnExactZonoPath.f (k + 1) a0) := by
  intro a0 k
  unfold laws_FnExactZonoPath.f
  exact LeO.bind (laws_szIntSS.mono _ _ _) (fun t => LeO.ite (LeO.refl _) (LeO.bind (laws_toIntSS.mono _ _) (fun a => LeO.bind (spec_ZonoPath.mono _ _) (fun ws => LeO.bind (impl_ZonoPath.mono _ _) (fun gs => LeO.bind (laws_eqIntSS.mono _ _ _) (fun e1 => LeO.bind (laws_eqIntSS.mono _ _ _) (fun e2 => LeO.bind (laws_markIntSS.mono _ _ _) (fun mx => LeO.bind (laws_markIntSS.mono _ _ _) (fun mg => LeO.bind (laws_heldIntSS.mono _ _ _) (fun q => LeO.refl _))))))))))
open Go.Proofs.Ytkphiccdgclldaa.HRaw Go.Proofs.Ytkphiccdgclldaa.HSrt Go.Proofs.Ytkphiccdgclldaa.HMrk in
set_option maxHeartbeats 16000000 in
set_option maxRecDepth 100000 in
theorem laws_FnExactZonoPath.calls (k : Nat) (A0 : Option Addr) (c0 : Nat) (l0 : List (List Int)) (r : Bool) (w : World) (hr0 : Kd.C (Kd.slice 3 (Kd.int .i64)) w A0 l0.length l0) (hc0 : l0.length ≤ c0) (h : laws_FnExactZonoPath.f k l0 = some r) :
    Calls Try.prog 5 #[.slice A0 l0.length c0] w fun e w' => e = .returned (.bool r) ∧ Below w.heap.size w w' := by
  unfold laws_FnExactZonoPath.f at h
  obtain ⟨t, h1, h⟩ := Option.bind_eq_some_iff.mp h
  have c14 := laws_szIntSS.calls k A0 c0 l0 1048576 t w hr0 hc0 h1
  by_cases ht : t < 0
  · rw [if_pos ht] at h
    obtain rfl := Option.some.inj h
    have q0 : (t < 0) = True := eq_true ht
    clear h h1
    go_enter Try.func5, Try.ntmps5
    go_wp2_with (first | (go_at_call 14; refine c14.mono ?_; rintro e w' ⟨rfl, ⟨nd, rfl⟩⟩; clear c14))
    go_ret
    exact ⟨rfl, pw_below_drewN (Below.refl _ _) _⟩
  · rw [if_neg ht] at h
    obtain ⟨a, h2, h⟩ := Option.bind_eq_some_iff.mp h
    obtain ⟨⟨ws1, ws2⟩, h3, h⟩ := Option.bind_eq_some_iff.mp h
    obtain ⟨⟨gs1, gs2⟩, h4, h⟩ := Option.bind_eq_some_iff.mp h
    obtain ⟨e1, h5, h⟩ := Option.bind_eq_some_iff.mp h
    obtain ⟨e2, h6, h⟩ := Option.bind_eq_some_iff.mp h
    obtain ⟨⟨mx1, mx2⟩, h7, h⟩ := Option.bind_eq_some_iff.mp h
    obtain ⟨⟨mg1, mg2⟩, h8, h⟩ := Option.bind_eq_some_iff.mp h
    obtain ⟨q, h9, h⟩ := Option.bind_eq_some_iff.mp h
    by_cases hc : e1 = true ∧ gs2 = ws2 ∧ e2 = true ∧ 0 ≤ mx1 ∧ 0 ≤ q ∧ q = mg1
    · rw [if_pos hc] at h
      obtain rfl := Option.some.inj h
      obtain ⟨rfl, rfl, rfl, hm0, hq0, rfl⟩ := hc
      have q0 : (t < 0) = False := eq_false ht
      have q1 : (mx1 < 0) = False := eq_false (by omega)
      have q2 : (q < 0) = False := eq_false (by omega)
      have HR0 : Aside0 (∀ W : World, Below w.heap.size w W → Kd.C (Kd.slice 3 (Kd.int .i64)) W A0 l0.length l0) := ⟨fun W hb => Kd.C_below hr0 hb⟩
      have A2 := Aside0.mk h2
      have A3 := Aside0.mk h3
      have A4 := Aside0.mk h4
      have A5 := Aside0.mk h5
      have A6 := Aside0.mk h6
      have A7 := Aside0.mk h7
      have A8 := Aside0.mk h8
      have A9 := Aside0.mk h9
      clear h h1 h2 h3 h4 h5 h6 h7 h8 h9 hr0 ht hm0 hq0
      go_enter Try.func5, Try.ntmps5
      go_wp2_with (first | (go_at_call 14; refine c14.mono ?_; rintro e w' ⟨rfl, ⟨nd, rfl⟩⟩; clear c14))
      have B0 := Aside0.mk (pw_below_drewN (Below.refl w.heap.size w) nd)
      generalize w.drewN nd = wa at B0 ⊢
      refine (laws_toIntSS.calls k A0 c0 l0 a wa (HR0.out _ B0.out) hc0 A2.out).mono ?_
      rintro e w1 ⟨va, rfl, hSa, hB1⟩
      obtain ⟨Aa, ca, rfl, hca, hRa⟩ := S_reads hSa
      have B1 := Aside0.mk (below_step B0.out hB1)
      have cS := spec_ZonoPath.calls k Aa ca a ws1 gs2 w1 (hRa w1 (fun _ _ _ _ => rfl)) hca A3.out
      clear hSa hB1 hRa hca B0
      go_wp2_with fail
      refine cS.mono ?_
      rintro e w2 ⟨vw, rfl, hNw, hB2⟩
      clear cS
      obtain ⟨Aw, cw, rfl, hcw, hRw0⟩ := N_reads hNw
      have hRw : ∀ W : World, (∀ k, w1.heap.size ≤ k → k < w2.heap.size → W.heap[k]? = w2.heap[k]?) → Kd.C (Kd.slice 3 (Kd.int .i64)) W Aw ws1.length ws1 := fun W hW => hRw0 W (fun k h1 h2 => hW k h1 h2)
      clear hRw0
      have B2 := Aside0.mk (below_step B1.out hB2)
      have S12 := hB2.size
      clear hNw hB2 B1
      have HRw := Aside0.mk hRw
      clear hRw
      go_wp2_with fail
      refine (laws_toIntSS.calls k A0 c0 l0 a w2 (HR0.out _ B2.out) hc0 A2.out).mono ?_
      rintro e w3 ⟨vx, rfl, hSx, hB3⟩
      obtain ⟨Ax, cx, rfl, hcx, hRx⟩ := S_reads hSx
      have B3 := Aside0.mk (below_step B2.out hB3)
      have HB3 := Aside0.mk hB3
      have HSx := Aside0.mk hSx
      have HRx := Aside0.mk hRx
      have S23 := hB3.size
      clear hB3 hSx hRx
      have cI := impl_ZonoPath.calls k Ax cx a gs1 gs2 w3 (HRx.out w3 (fun _ _ _ _ => rfl)) hcx A4.out
      go_wp2_with fail
      refine cI.mono ?_
      rintro e w4 ⟨vg, rfl, hSg, hB4⟩
      clear cI
      obtain ⟨Ag, cg, rfl, hcg, hRg⟩ := S_reads hSg
      have B4 := Aside0.mk (below_step B3.out hB4)
      have HB4 := Aside0.mk hB4
      have HSg := Aside0.mk hSg
      have HRg := Aside0.mk hRg
      have S34 := hB4.size
      clear hB4 hSg hRg
      have cE1 : ∀ W : World, (∀ k, w1.heap.size ≤ k → k < w2.heap.size → W.heap[k]? = w2.heap[k]?) → (∀ k, w3.heap.size ≤ k → k < w4.heap.size → W.heap[k]? = w4.heap[k]?) → Calls Try.prog 18 #[.slice Ag gs1.length cg, .slice Aw ws1.length cw] W (fun e w' => e = .returned (.bool true) ∧ Drawn0 W w') := fun W hw hg => laws_eqIntSS.calls k Ag cg gs1 Aw cw ws1 true W (HRg.out W (fun k _ h1 h2 => hg k h1 h2)) hcg (HRw.out W hw) hcw A5.out
      go_wp2_with fail
      refine (cE1 w4 (fun k _ h2 => (HB4.out.block k (by omega)).trans (HB3.out.block k h2)) (fun _ _ _ => rfl)).mono ?_
      rintro e wb ⟨rfl, ⟨nb, rfl⟩⟩
      have hbn : (gs2 != gs2) = false := by simp
      go_wp2_with fail
      refine (laws_toIntSS.calls k A0 c0 l0 a _ (HR0.out _ (pw_below_drewN B4.out nb)) hc0 A2.out).mono ?_
      rintro e w5 ⟨vy, rfl, hSy, hB5⟩
      obtain ⟨Ay, cy, rfl, hcy, hRy⟩ := S_reads hSy
      have K5 : Aside0 (∀ k, k < w4.heap.size → w5.heap[k]? = w4.heap[k]?) := ⟨fun k h => hB5.block k h⟩
      have S45 : w4.heap.size ≤ w5.heap.size := hB5.size
      have B5 := Aside0.mk (below_step (pw_below_drewN B4.out nb) hB5)
      have cE2 := laws_eqIntSS.calls k Ax cx a Ay cy a true w5 (HRx.out w5 (fun k _ h1 h2 => (K5.out k (by omega)).trans (HB4.out.block k h2))) hcx (hRy w5 (fun _ _ _ _ => rfl)) hcy A6.out
      clear hSy hRy hB5
      go_wp2_with fail
      refine cE2.mono ?_
      rintro e wc ⟨rfl, ⟨nc, rfl⟩⟩
      clear cE2
      go_wp2_with fail
      have hSx5 : Kd.S (Kd.slice 3 (Kd.int .i64)) 34 (w5.drewN nc) w.heap.size (fun k => w2.heap.size ≤ k ∧ k < w3.heap.size) (.slice Ax a.length cx) a := Kd.S_lower (Kd.S_move (Kd.S_mono (Kd.S_bound HSx.out) (fun k hk => ⟨hk.2.1, hk.2.2.1⟩)) (fun k hk => (K5.out k (by have := hk.2; omega)).trans (HB4.out.block k hk.2))) B2.out.size
      refine (laws_markIntSS.calls k _ _ a 1 mx1 mx2 w (w5.drewN nc) (pw_below_drewN B5.out nc) hSx5 A7.out).mono ?_
      rintro e w6 ⟨rfl, _, hB6, hK6⟩
      clear hSx5
      have K6 : Aside0 (∀ k, k < w5.heap.size → ¬ (w2.heap.size ≤ k ∧ k < w3.heap.size) → w6.heap[k]? = w5.heap[k]?) := ⟨fun k h1 h2 => hK6.2 k h1 h2⟩
      have S56 : w5.heap.size ≤ w6.heap.size := hK6.1
      have HB6 := Aside0.mk hB6
      clear hB6 hK6
      go_wp2_with fail
      refine (cE1 w6 (fun k h1 h2 => (K6.out k (by omega) (by omega)).trans ((K5.out k (by omega)).trans ((HB4.out.block k (by omega)).trans (HB3.out.block k h2)))) (fun k h1 h2 => (K6.out k (by omega) (by omega)).trans (K5.out k h2))).mono ?_
      rintro e wd ⟨rfl, ⟨nd2, rfl⟩⟩
      go_wp2_with fail
      have hSg6 : Kd.S (Kd.slice 3 (Kd.int .i64)) 34 (w6.drewN nd2) w.heap.size (fun k => w3.heap.size ≤ k ∧ k < w4.heap.size) (.slice Ag gs1.length cg) gs1 := Kd.S_lower (Kd.S_move (Kd.S_mono (Kd.S_bound HSg.out) (fun k hk => ⟨hk.2.1, hk.2.2.1⟩)) (fun k hk => (K6.out k (by have := hk.2; omega) (by have := hk.1; omega)).trans (K5.out k hk.2))) B3.out.size
      refine (laws_markIntSS.calls k _ _ gs1 1 q mg2 w (w6.drewN nd2) (pw_below_drewN HB6.out nd2) hSg6 A8.out).mono ?_
      rintro e w7 ⟨rfl, hS7, hB7, hK7⟩
      clear hSg6
      obtain ⟨A', c', e', hc', hR7⟩ := S_reads hS7
      injection e' with ea en ec
      subst ea
      subst ec
      have En := Aside0.mk en
      have Hc := Aside0.mk hc'
      clear en hc'
      have K7 : Aside0 (∀ k, k < w6.heap.size → ¬ (w3.heap.size ≤ k ∧ k < w4.heap.size) → w7.heap[k]? = w6.heap[k]?) := ⟨fun k h1 h2 => hK7.2 k h1 h2⟩
      have S67 : w6.heap.size ≤ w7.heap.size := hK7.1
      have HB7 := Aside0.mk hB7
      have cH : ∀ W : World, (∀ k, k < w7.heap.size → W.heap[k]? = w7.heap[k]?) → Calls Try.prog 26 #[.slice Ag gs1.length cg, .int .i64 1] W (fun e w' => e = .returned (.int .i64 q) ∧ Drawn0 W w') := fun W hW => by
        have c := laws_heldIntSS.calls k Ag cg mg2 1 q W (hR7 W (fun k _ _ h => hW k h)) Hc.out A9.out
        rw [← En.out] at c
        exact c
      clear hS7 hR7 hB7 hK7
      go_wp2_with fail
      refine (cH w7 (fun _ _ => rfl)).mono ?_
      rintro e we ⟨rfl, ⟨ne, rfl⟩⟩
      go_wp2_with fail
      refine (laws_toIntSS.calls k A0 c0 l0 a _ (HR0.out _ (pw_below_drewN HB7.out ne)) hc0 A2.out).mono ?_
      rintro e w8 ⟨vz, rfl, hSz, hB8⟩
      obtain ⟨Az, cz, rfl, hcz, hRz⟩ := S_reads hSz
      have K8 : Aside0 (∀ k, k < w7.heap.size → w8.heap[k]? = w7.heap[k]?) := ⟨fun k h => hB8.block k h⟩
      have S78 : w7.heap.size ≤ w8.heap.size := hB8.size
      have B8 := Aside0.mk (below_step (pw_below_drewN HB7.out ne) hB8)
      have cI2 := impl_ZonoPath.calls k Az cz a gs1 gs2 w8 (hRz w8 (fun _ _ _ _ => rfl)) hcz A4.out
      clear hSz hRz hB8
      go_wp2_with fail
      refine cI2.mono ?_
      rintro e w9 ⟨vh, rfl, hSh, hB9⟩
      clear cI2
      obtain ⟨Ah, ch, rfl, hch, hRh⟩ := S_reads hSh
      have K9 : Aside0 (∀ k, k < w8.heap.size → w9.heap[k]? = w8.heap[k]?) := ⟨fun k h => hB9.block k h⟩
      have B9 := Aside0.mk (below_step B8.out hB9)
      have cE3 := laws_eqIntSS.calls k Ah ch gs1 Aw cw ws1 true w9 (hRh w9 (fun _ _ _ _ => rfl)) hch (HRw.out w9 (fun k h1 h2 => (K9.out k (by omega)).trans ((K8.out k (by omega)).trans ((K7.out k (by omega) (by omega)).trans ((K6.out k (by omega) (by omega)).trans ((K5.out k (by omega)).trans ((HB4.out.block k (by omega)).trans (HB3.out.block k h2)))))))) hcw A5.out
      clear hSh hRh hB9
      go_wp2_with fail
      refine cE3.mono ?_
      rintro e wf ⟨rfl, ⟨nf, rfl⟩⟩
      clear cE3
      go_wp2_with fail
      refine (cH (w9.drewN nf) (fun k h => (K9.out k (by omega)).trans (K8.out k h))).mono ?_
      rintro e wg ⟨rfl, ⟨ng, rfl⟩⟩
      go_wp2
      go_ret
      exact ⟨rfl, by first | exact pw_below_drewN (pw_below_drewN B9.out nf) ng | exact pw_below_drewN B9.out (nf + ng)⟩
    · rw [if_neg hc] at h; cases h

end Go.Proofs.Ytkphiccdgclldaa.PFnExactZonoPath
