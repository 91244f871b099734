-- Made by hprint.py (wip/) out of the translation; not trusted: Lean checks it.
import Derived.Test.YtkphiccdgclldaaPFnExactOrderRunx0
import Derived.Test.YtkphiccdgclldaaPFnExactOrderRunx1
import Derived.Test.YtkphiccdgclldaaPFnExactOrderRunx2
import Derived.Test.YtkphiccdgclldaaPFnExactOrderRunx3
import Derived.Test.YtkphiccdgclldaaPFnExactOrderRunx4
namespace Go.Proofs.Ytkphiccdgclldaa.PFnExactOrderRun
open Go.RowKit Go.Proofs.YtkphiccdgclldaaW.PrintWords Go.Proofs.YtkphiccdgclldaaW.PrintLast Go.Proofs.YtkphiccdgclldaaW.PrintMore
attribute [local go_sem] max2_int min2_int max_two min_two max_three min_three max_four min_four   -- for this text's walks alone
set_option linter.unusedVariables false
set_option linter.unusedSimpArgs false

/-! ### impl_OrderRun: function 38, by hand -/
def impl_OrderRun.j0 : Nat → List (List Int) → Int → Int → Bool → Option (List (List Int) × Bool)
  | 0, _, _, _, _ => none
  | k + 1, x0, x1, x2, x25 => if x25 = true then (some (([] : List (List Int)), false)) else ((impl_run.f x0 x1 x2).bind fun t138 => ((impl_copySteps.f k t138).bind fun t141 => (some (t141, true))))
def impl_OrderRun.f (k : Nat) (l0 : List (List Int)) (a1 : Int) (a2 : Int) : Option (List (List Int) × Bool) := (impl_PathIn.f k l0).bind fun t137 => (if t137 = true then (if a1 < 0 then (impl_OrderRun.j0 k l0 a1 a2 true) else (if a1 > a2 then (impl_OrderRun.j0 k l0 a1 a2 true) else (impl_OrderRun.j0 k l0 a1 a2 (decide (a2 ≥ (l0.length : Int)))))) else (impl_OrderRun.j0 k l0 a1 a2 true))
theorem impl_OrderRun.mono_j : ∀ k y0 y1 y2 y3, LeO (impl_OrderRun.j0 k y0 y1 y2 y3) (impl_OrderRun.j0 (k + 1) y0 y1 y2 y3)
  | 0, _, _, _, _ => LeO.none _
  | k + 1, _, _, _, _ => by
    unfold impl_OrderRun.j0
    exact LeO.ite (LeO.refl _) (LeO.bind (LeO.refl _) (fun _ => LeO.bind (impl_copySteps.mono _ _) (fun _ => LeO.refl _)))
theorem impl_OrderRun.mono : ∀ a0 a1 a2 k, LeO (impl_OrderRun.f k a0 a1 a2) (impl_OrderRun.f (k + 1) a0 a1 a2) := by
  intro a0 a1 a2 k
  unfold impl_OrderRun.f
  exact LeO.bind (impl_PathIn.mono _ _) (fun t => LeO.ite (LeO.ite (impl_OrderRun.mono_j _ _ _ _ _) (LeO.ite (impl_OrderRun.mono_j _ _ _ _ _) (impl_OrderRun.mono_j _ _ _ _ _))) (impl_OrderRun.mono_j _ _ _ _ _))
theorem impl_OrderRun.foot {A0 : Option Addr} {l0 : List (List Int)} {w : World} (hr0 : Kd.C (Kd.slice 3 (Kd.int .i64)) w A0 l0.length l0) : Kd.F (Kd.slice 3 (Kd.int .i64)) w (fun k => k < w.heap.size) A0 l0.length l0 := by
  intro W' hW
  have hsz : w.heap.size ≤ W'.heap.size := by
    rcases Nat.lt_or_ge W'.heap.size w.heap.size with c | c
    · have := hW W'.heap.size c c
      rw [Array.getElem?_eq_none (Nat.le_refl _), Array.getElem?_eq_getElem c] at this
      cases this
    · exact c
  have hb : Below w.heap.size w { W' with os := w.os, tape := w.tape, output := w.output } := ⟨rfl, rfl, rfl, hsz, fun k hk => hW k hk hk⟩
  have h2 : Kd.C (Kd.slice 3 (Kd.int .i64)) { W' with os := w.os, tape := w.tape, output := w.output } A0 l0.length l0 := Kd.C_below hr0 hb
  exact h2
open Go.Proofs.Ytkphiccdgclldaa.HRaw Go.Proofs.Ytkphiccdgclldaa.HSrt Go.Proofs.Ytkphiccdgclldaa.HMrk in
set_option maxHeartbeats 8000000 in
set_option maxRecDepth 100000 in
theorem impl_OrderRun.calls (k : Nat) (A0 : Option Addr) (c0 : Nat) (l0 : List (List Int)) (a1 : Int) (a2 : Int) (r1 : List (List Int)) (r2 : Bool) (w : World) (hr0 : Kd.C (Kd.slice 3 (Kd.int .i64)) w A0 l0.length l0) (hc0 : l0.length ≤ c0) (h : impl_OrderRun.f k l0 a1 a2 = some (r1, r2)) :
    Calls Try.prog 38 #[.slice A0 l0.length c0, .int .i64 a1, .int .i64 a2] w fun e w' => ∃ v0_ : Value, e = .returned (.tuple #[v0_, .bool r2]) ∧ Kd.S (Kd.slice 3 (Kd.int .i64)) 34 w' w.heap.size (fun _ => True) v0_ r1 ∧ Below w.heap.size w w' := by
  unfold impl_OrderRun.f at h
  obtain ⟨t, h1, h⟩ := Option.bind_eq_some_iff.mp h
  have c1 := impl_PathIn.calls k A0 c0 l0 t w hr0 hc0 h1
  have stop : ∀ x, impl_OrderRun.j0 k l0 a1 a2 true = x → x = some (r1, r2) → r1 = [] ∧ r2 = false := by
    intro x hx hy
    cases k with
    | zero => rw [← hx] at hy; cases hy
    | succ k =>
      rw [← hx] at hy
      simp only [impl_OrderRun.j0, if_true] at hy
      injection hy with hy; injection hy with a b; exact ⟨a.symm, b.symm⟩
  by_cases ht : t = true
  · subst ht
    rw [if_pos rfl] at h
    by_cases d1 : a1 < 0
    · rw [if_pos d1] at h
      obtain ⟨rfl, rfl⟩ := stop _ rfl h
      have q1 : (a1 < 0) = True := eq_true d1
      clear h h1 hr0 stop
      go_enter Try.func38, Try.ntmps38
      go_wp2_with (first | (go_at_call 55; refine c1.mono ?_; rintro e w' ⟨rfl, ⟨nd, rfl⟩⟩; clear c1))
      go_ret2
      exact ⟨_, rfl, Kd.S_nil _ _ _ _ _, pw_below_drewN (Below.refl _ _) _⟩
    · rw [if_neg d1] at h
      by_cases d2 : a1 > a2
      · rw [if_pos d2] at h
        obtain ⟨rfl, rfl⟩ := stop _ rfl h
        have q1 : (a1 < 0) = False := eq_false d1
        have q2 : (a1 > a2) = True := eq_true d2
        have q3 : (a2 < a1) = True := eq_true d2
        clear h h1 hr0 stop
        go_enter Try.func38, Try.ntmps38
        go_wp2_with (first | (go_at_call 55; refine c1.mono ?_; rintro e w' ⟨rfl, ⟨nd, rfl⟩⟩; clear c1))
        go_ret2
        exact ⟨_, rfl, Kd.S_nil _ _ _ _ _, pw_below_drewN (Below.refl _ _) _⟩
      · rw [if_neg d2] at h
        by_cases d3 : a2 ≥ (l0.length : Int)
        · rw [decide_eq_true d3] at h
          obtain ⟨rfl, rfl⟩ := stop _ rfl h
          have q1 : (a1 < 0) = False := eq_false d1
          have q2 : (a1 > a2) = False := eq_false d2
          have q3 : (a2 < a1) = False := eq_false (by omega)
          have q4 : (a2 ≥ (l0.length : Int)) = True := eq_true d3
          have q5 : ((l0.length : Int) ≤ a2) = True := eq_true d3
          clear h h1 hr0 stop
          go_enter Try.func38, Try.ntmps38
          go_wp2_with (first | (go_at_call 55; refine c1.mono ?_; rintro e w' ⟨rfl, ⟨nd, rfl⟩⟩; clear c1))
          go_ret2
          exact ⟨_, rfl, Kd.S_nil _ _ _ _ _, pw_below_drewN (Below.refl _ _) _⟩
        · rw [decide_eq_false d3] at h
          cases k with
          | zero => cases h
          | succ k =>
            simp only [impl_OrderRun.j0] at h
            rw [if_neg (by decide)] at h
            obtain ⟨y, h2, h⟩ := Option.bind_eq_some_iff.mp h
            obtain ⟨z, h3, h⟩ := Option.bind_eq_some_iff.mp h
            obtain ⟨rfl, rfl⟩ : z = r1 ∧ r2 = true := by injection h with h; injection h with a b; exact ⟨a, b.symm⟩
            have q1 : (a1 < 0) = False := eq_false d1
            have q2 : (a1 > a2) = False := eq_false d2
            have q3 : (a2 < a1) = False := eq_false (by omega)
            have q4 : (a2 ≥ (l0.length : Int)) = False := eq_false d3
            have q5 : ((l0.length : Int) ≤ a2) = False := eq_false d3
            have HC := Aside0.mk hr0
            clear h h1 hr0 stop
            go_enter Try.func38, Try.ntmps38
            go_wp2_with (first | (go_at_call 55; refine c1.mono ?_; rintro e w' ⟨rfl, ⟨nd, rfl⟩⟩; clear c1))
            have hF := impl_OrderRun.foot (Kd.C_drewN HC.out nd)
            refine (impl_run.calls (fun k_ => k_ < (w.drewN nd).heap.size) A0 c0 l0 a1 a2 y (w.drewN nd) ⟨A0, c0, rfl, hc0, hF⟩ h2).mono ?_
            rintro e w1 ⟨v1, rfl, hN, hB1⟩
            obtain ⟨A1, c1, rfl, hc1, hR1⟩ := N_reads hN
            have c2 := impl_copySteps.calls k A1 c1 y z w1 (hR1 w1 (fun _ _ _ => rfl)) hc1 h3
            have B1 := Aside0.mk (below_step (pw_below_drewN (Below.refl w.heap.size w) nd) hB1)
            clear hN hB1 hR1 hc1 hF
            go_wp2_with fail
            refine c2.mono ?_
            rintro e w2 ⟨v2, rfl, hS, hB2⟩
            clear c2
            go_wp2
            go_ret2
            exact ⟨_, rfl, Kd.S_lower hS B1.out.size, below_step B1.out hB2⟩
  · have hf : t = false := by cases t <;> first | rfl | exact absurd rfl ht
    subst hf
    rw [if_neg (by decide)] at h
    obtain ⟨rfl, rfl⟩ := stop _ rfl h
    clear h h1 hr0 stop
    go_enter Try.func38, Try.ntmps38
    go_wp2_with (first | (go_at_call 55; refine c1.mono ?_; rintro e w' ⟨rfl, ⟨nd, rfl⟩⟩; clear c1))
    go_ret2
    exact ⟨_, rfl, Kd.S_nil _ _ _ _ _, pw_below_drewN (Below.refl _ _) _⟩

/-! ### laws_FnExactOrderRun: function 10, by hand -/
def laws_FnExactOrderRun.f (k : Nat) (l0 : List (List Int)) (a1 a2 : Int) : Option Bool := (laws_szIntSS.f k l0 1048576).bind fun t => if t < 0 then some true else (laws_toIntSS.f k l0).bind fun a => (spec_OrderRun.f k a a1 a2).bind fun ws => (impl_OrderRun.f k a a1 a2).bind fun gs => (laws_eqIntSS.f k gs.1 ws.1).bind fun e1 => (laws_eqIntSS.f k a a).bind fun e2 => (laws_markIntSS.f k a 1).bind fun mx => (laws_markIntSS.f k gs.1 1).bind fun mg => (laws_heldIntSS.f k mg.2 1).bind fun q => if e1 = true ∧ gs.2 = ws.2 ∧ e2 = true ∧ 0 ≤ mx.1 ∧ 0 ≤ q ∧ q = mg.1 then some true else none
theorem laws_FnExactOrderRun.mono : ∀ a0 a1 a2 k, LeO (laws_FnExactOrderRun.f k a0 a1 a2) (laws_FnExactOrderRun.f (k + 1) a0 a1 a2) := by
  intro a0 a1 a2 k
  unfold laws_FnExactOrderRun.f
  exact LeO.bind (laws_szIntSS.mono _ _ _) (fun t => LeO.ite (LeO.refl _) (LeO.bind (laws_toIntSS.mono _ _) (fun a => LeO.bind (spec_OrderRun.mono _ _ _ _) (fun ws => LeO.bind (impl_OrderRun.mono _ _ _ _) (fun gs => LeO.bind (laws_eqIntSS.mono _ _ _) (fun e1 => LeO.bind (laws_eqIntSS.mono _ _ _) (fun e2 => LeO.bind (laws_markIntSS.mono _ _ _) (fun mx => LeO.bind (laws_markIntSS.mono _ _ _) (fun mg => LeO.bind (laws_heldIntSS.mono _ _ _) (fun q => LeO.refl _))))))))))
open Go.Proofs.Ytkphiccdgclldaa.HRaw Go.Proofs.Ytkphiccdgclldaa.HSrt Go.Proofs.Ytkphiccdgclldaa.HMrk in
set_option maxHeartbeats 16000000 in
set_option maxRecDepth 100000 in
theorem laws_FnExactOrderRun.calls (k : Nat) (A0 : Option Addr) (c0 : Nat) (l0 : List (List Int)) (a1 a2 : Int) (r : Bool) (w : World) (hr0 : Kd.C (Kd.slice 3 (Kd.int .i64)) w A0 l0.length l0) (hc0 : l0.length ≤ c0) (h : laws_FnExactOrderRun.f k l0 a1 a2 = some r) :
    Calls Try.prog 10 #[.slice A0 l0.length c0, .int .i64 a1, .int .i64 a2] w fun e w' => e = .returned (.bool r) ∧ Below w.heap.size w w' := by
  unfold laws_FnExactOrderRun.f at h
  obtain ⟨t, h1, h⟩ := Option.bind_eq_some_iff.mp h
  have c14 := laws_szIntSS.calls k A0 c0 l0 1048576 t w hr0 hc0 h1
  by_cases ht : t < 0
  · rw [if_pos ht] at h
    obtain rfl := Option.some.inj h
    have q0 : (t < 0) = True := eq_true ht
    clear h h1
    go_enter Try.func10, Try.ntmps10
    go_wp2_with (first | (go_at_call 14; refine c14.mono ?_; rintro e w' ⟨rfl, ⟨nd, rfl⟩⟩; clear c14))
    go_ret
    exact ⟨rfl, pw_below_drewN (Below.refl _ _) _⟩
  · rw [if_neg ht] at h
    obtain ⟨a, h2, h⟩ := Option.bind_eq_some_iff.mp h
    obtain ⟨⟨ws1, ws2⟩, h3, h⟩ := Option.bind_eq_some_iff.mp h
    obtain ⟨⟨gs1, gs2⟩, h4, h⟩ := Option.bind_eq_some_iff.mp h
    obtain ⟨e1, h5, h⟩ := Option.bind_eq_some_iff.mp h
    obtain ⟨e2, h6, h⟩ := Option.bind_eq_some_iff.mp h
    obtain ⟨⟨mx1, mx2⟩, h7, h⟩ := Option.bind_eq_some_iff.mp h
    obtain ⟨⟨mg1, mg2⟩, h8, h⟩ := Option.bind_eq_some_iff.mp h
    obtain ⟨q, h9, h⟩ := Option.bind_eq_some_iff.mp h
    by_cases hc : e1 = true ∧ gs2 = ws2 ∧ e2 = true ∧ 0 ≤ mx1 ∧ 0 ≤ q ∧ q = mg1
    · rw [if_pos hc] at h
      obtain rfl := Option.some.inj h
      obtain ⟨rfl, rfl, rfl, hm0, hq0, rfl⟩ := hc
      have q0 : (t < 0) = False := eq_false ht
      have q1 : (mx1 < 0) = False := eq_false (by omega)
      have q2 : (q < 0) = False := eq_false (by omega)
      have HR0 : Aside0 (∀ W : World, Below w.heap.size w W → Kd.C (Kd.slice 3 (Kd.int .i64)) W A0 l0.length l0) := ⟨fun W hb => Kd.C_below hr0 hb⟩
      have A2 := Aside0.mk h2
      have A3 := Aside0.mk h3
      have A4 := Aside0.mk h4
      have A5 := Aside0.mk h5
      have A6 := Aside0.mk h6
      have A7 := Aside0.mk h7
      have A8 := Aside0.mk h8
      have A9 := Aside0.mk h9
      clear h h1 h2 h3 h4 h5 h6 h7 h8 h9 hr0 ht hm0 hq0
      go_enter Try.func10, Try.ntmps10
      go_wp2_with (first | (go_at_call 14; refine c14.mono ?_; rintro e w' ⟨rfl, ⟨nd, rfl⟩⟩; clear c14))
      have B0 := Aside0.mk (pw_below_drewN (Below.refl w.heap.size w) nd)
      generalize w.drewN nd = wa at B0 ⊢
      refine (laws_toIntSS.calls k A0 c0 l0 a wa (HR0.out _ B0.out) hc0 A2.out).mono ?_
      rintro e w1 ⟨va, rfl, hSa, hB1⟩
      obtain ⟨Aa, ca, rfl, hca, hRa⟩ := S_reads hSa
      have B1 := Aside0.mk (below_step B0.out hB1)
      have cS := spec_OrderRun.calls k Aa ca a a1 a2 ws1 gs2 w1 (hRa w1 (fun _ _ _ _ => rfl)) hca A3.out
      clear hSa hB1 hRa hca B0
      go_wp2_with fail
      refine cS.mono ?_
      rintro e w2 ⟨vw, rfl, hNw, hB2⟩
      clear cS
      obtain ⟨Aw, cw, rfl, hcw, hRw0⟩ := S_reads hNw
      have hRw : ∀ W : World, (∀ k, w1.heap.size ≤ k → k < w2.heap.size → W.heap[k]? = w2.heap[k]?) → Kd.C (Kd.slice 3 (Kd.int .i64)) W Aw ws1.length ws1 := fun W hW => hRw0 W (fun k _ h1 h2 => hW k h1 h2)
      clear hRw0
      have B2 := Aside0.mk (below_step B1.out hB2)
      have S12 := hB2.size
      clear hNw hB2 B1
      have HRw := Aside0.mk hRw
      clear hRw
      go_wp2_with fail
      refine (laws_toIntSS.calls k A0 c0 l0 a w2 (HR0.out _ B2.out) hc0 A2.out).mono ?_
      rintro e w3 ⟨vx, rfl, hSx, hB3⟩
      obtain ⟨Ax, cx, rfl, hcx, hRx⟩ := S_reads hSx
      have B3 := Aside0.mk (below_step B2.out hB3)
      have HB3 := Aside0.mk hB3
      have HSx := Aside0.mk hSx
      have HRx := Aside0.mk hRx
      have S23 := hB3.size
      clear hB3 hSx hRx
      have cI := impl_OrderRun.calls k Ax cx a a1 a2 gs1 gs2 w3 (HRx.out w3 (fun _ _ _ _ => rfl)) hcx A4.out
      go_wp2_with fail
      refine cI.mono ?_
      rintro e w4 ⟨vg, rfl, hSg, hB4⟩
      clear cI
      obtain ⟨Ag, cg, rfl, hcg, hRg⟩ := S_reads hSg
      have B4 := Aside0.mk (below_step B3.out hB4)
      have HB4 := Aside0.mk hB4
      have HSg := Aside0.mk hSg
      have HRg := Aside0.mk hRg
      have S34 := hB4.size
      clear hB4 hSg hRg
      have cE1 : ∀ W : World, (∀ k, w1.heap.size ≤ k → k < w2.heap.size → W.heap[k]? = w2.heap[k]?) → (∀ k, w3.heap.size ≤ k → k < w4.heap.size → W.heap[k]? = w4.heap[k]?) → Calls Try.prog 18 #[.slice Ag gs1.length cg, .slice Aw ws1.length cw] W (fun e w' => e = .returned (.bool true) ∧ Drawn0 W w') := fun W hw hg => laws_eqIntSS.calls k Ag cg gs1 Aw cw ws1 true W (HRg.out W (fun k _ h1 h2 => hg k h1 h2)) hcg (HRw.out W hw) hcw A5.out
      go_wp2_with fail
      refine (cE1 w4 (fun k _ h2 => (HB4.out.block k (by omega)).trans (HB3.out.block k h2)) (fun _ _ _ => rfl)).mono ?_
      rintro e wb ⟨rfl, ⟨nb, rfl⟩⟩
      have hbn : (gs2 != gs2) = false := by simp
      go_wp2_with fail
      refine (laws_toIntSS.calls k A0 c0 l0 a _ (HR0.out _ (pw_below_drewN B4.out nb)) hc0 A2.out).mono ?_
      rintro e w5 ⟨vy, rfl, hSy, hB5⟩
      obtain ⟨Ay, cy, rfl, hcy, hRy⟩ := S_reads hSy
      have K5 : Aside0 (∀ k, k < w4.heap.size → w5.heap[k]? = w4.heap[k]?) := ⟨fun k h => hB5.block k h⟩
      have S45 : w4.heap.size ≤ w5.heap.size := hB5.size
      have B5 := Aside0.mk (below_step (pw_below_drewN B4.out nb) hB5)
      have cE2 := laws_eqIntSS.calls k Ax cx a Ay cy a true w5 (HRx.out w5 (fun k _ h1 h2 => (K5.out k (by omega)).trans (HB4.out.block k h2))) hcx (hRy w5 (fun _ _ _ _ => rfl)) hcy A6.out
      clear hSy hRy hB5
      go_wp2_with fail
      refine cE2.mono ?_
      rintro e wc ⟨rfl, ⟨nc, rfl⟩⟩
      clear cE2
      go_wp2_with fail
      have hSx5 : Kd.S (Kd.slice 3 (Kd.int .i64)) 34 (w5.drewN nc) w.heap.size (fun k => w2.heap.size ≤ k ∧ k < w3.heap.size) (.slice Ax a.length cx) a := Kd.S_lower (Kd.S_move (Kd.S_mono (Kd.S_bound HSx.out) (fun k hk => ⟨hk.2.1, hk.2.2.1⟩)) (fun k hk => (K5.out k (by have := hk.2; omega)).trans (HB4.out.block k hk.2))) B2.out.size
      refine (laws_markIntSS.calls k _ _ a 1 mx1 mx2 w (w5.drewN nc) (pw_below_drewN B5.out nc) hSx5 A7.out).mono ?_
      rintro e w6 ⟨rfl, _, hB6, hK6⟩
      clear hSx5
      have K6 : Aside0 (∀ k, k < w5.heap.size → ¬ (w2.heap.size ≤ k ∧ k < w3.heap.size) → w6.heap[k]? = w5.heap[k]?) := ⟨fun k h1 h2 => hK6.2 k h1 h2⟩
      have S56 : w5.heap.size ≤ w6.heap.size := hK6.1
      have HB6 := Aside0.mk hB6
      clear hB6 hK6
      go_wp2_with fail
      refine (cE1 w6 (fun k h1 h2 => (K6.out k (by omega) (by omega)).trans ((K5.out k (by omega)).trans ((HB4.out.block k (by omega)).trans (HB3.out.block k h2)))) (fun k h1 h2 => (K6.out k (by omega) (by omega)).trans (K5.out k h2))).mono ?_
      rintro e wd ⟨rfl, ⟨nd2, rfl⟩⟩
      go_wp2_with fail
      have hSg6 : Kd.S (Kd.slice 3 (Kd.int .i64)) 34 (w6.drewN nd2) w.heap.size (fun k => w3.heap.size ≤ k ∧ k < w4.heap.size) (.slice Ag gs1.length cg) gs1 := Kd.S_lower (Kd.S_move (Kd.S_mono (Kd.S_bound HSg.out) (fun k hk => ⟨hk.2.1, hk.2.2.1⟩)) (fun k hk => (K6.out k (by have := hk.2; omega) (by have := hk.1; omega)).trans (K5.out k hk.2))) B3.out.size
      refine (laws_markIntSS.calls k _ _ gs1 1 q mg2 w (w6.drewN nd2) (pw_below_drewN HB6.out nd2) hSg6 A8.out).mono ?_
      rintro e w7 ⟨rfl, hS7, hB7, hK7⟩
      clear hSg6
      obtain ⟨A', c', e', hc', hR7⟩ := S_reads hS7
      injection e' with ea en ec
      subst ea
      subst ec
      have En := Aside0.mk en
      have Hc := Aside0.mk hc'
      clear en hc'
      have K7 : Aside0 (∀ k, k < w6.heap.size → ¬ (w3.heap.size ≤ k ∧ k < w4.heap.size) → w7.heap[k]? = w6.heap[k]?) := ⟨fun k h1 h2 => hK7.2 k h1 h2⟩
      have S67 : w6.heap.size ≤ w7.heap.size := hK7.1
      have HB7 := Aside0.mk hB7
      have cH : ∀ W : World, (∀ k, k < w7.heap.size → W.heap[k]? = w7.heap[k]?) → Calls Try.prog 26 #[.slice Ag gs1.length cg, .int .i64 1] W (fun e w' => e = .returned (.int .i64 q) ∧ Drawn0 W w') := fun W hW => by
        have c := laws_heldIntSS.calls k Ag cg mg2 1 q W (hR7 W (fun k _ _ h => hW k h)) Hc.out A9.out
        rw [← En.out] at c
        exact c
      clear hS7 hR7 hB7 hK7
      go_wp2_with fail
      refine (cH w7 (fun _ _ => rfl)).mono ?_
      rintro e we ⟨rfl, ⟨ne, rfl⟩⟩
      go_wp2_with fail
      refine (laws_toIntSS.calls k A0 c0 l0 a _ (HR0.out _ (pw_below_drewN HB7.out ne)) hc0 A2.out).mono ?_
      rintro e w8 ⟨vz, rfl, hSz, hB8⟩
      obtain ⟨Az, cz, rfl, hcz, hRz⟩ := S_reads hSz
      have K8 : Aside0 (∀ k, k < w7.heap.size → w8.heap[k]? = w7.heap[k]?) := ⟨fun k h => hB8.block k h⟩
      have S78 : w7.heap.size ≤ w8.heap.size := hB8.size
      have B8 := Aside0.mk (below_step (pw_below_drewN HB7.out ne) hB8)
      have cI2 := impl_OrderRun.calls k Az cz a a1 a2 gs1 gs2 w8 (hRz w8 (fun _ _ _ _ => rfl)) hcz A4.out
      clear hSz hRz hB8
      go_wp2_with fail
      refine cI2.mono ?_
      rintro e w9 ⟨vh, rfl, hSh, hB9⟩
      clear cI2
      obtain ⟨Ah, ch, rfl, hch, hRh⟩ := S_reads hSh
      have K9 : Aside0 (∀ k, k < w8.heap.size → w9.heap[k]? = w8.heap[k]?) := ⟨fun k h => hB9.block k h⟩
      have B9 := Aside0.mk (below_step B8.out hB9)
      have cE3 := laws_eqIntSS.calls k Ah ch gs1 Aw cw ws1 true w9 (hRh w9 (fun _ _ _ _ => rfl)) hch (HRw.out w9 (fun k h1 h2 => (K9.out k (by omega)).trans ((K8.out k (by omega)).trans ((K7.out k (by omega) (by omega)).trans ((K6.out k (by omega) (by omega)).trans ((K5.out k (by omega)).trans ((HB4.out.block k (by omega)).trans (HB3.out.block k h2)))))))) hcw A5.out
      clear hSh hRh hB9
      go_wp2_with fail
      refine cE3.mono ?_
      rintro e wf ⟨rfl, ⟨nf, rfl⟩⟩
      clear cE3
      go_wp2_with fail
      refine (cH (w9.drewN nf) (fun k h => (K9.out k (by omega)).trans (K8.out k h))).mono ?_
      rintro e wg ⟨rfl, ⟨ng, rfl⟩⟩
      go_wp2
      go_ret
      exact ⟨rfl, by first | exact pw_below_drewN (pw_below_drewN B9.out nf) ng | exact pw_below_drewN B9.out (nf + ng)⟩
    · rw [if_neg hc] at h; cases h

end Go.Proofs.Ytkphiccdgclldaa.PFnExactOrderRun
