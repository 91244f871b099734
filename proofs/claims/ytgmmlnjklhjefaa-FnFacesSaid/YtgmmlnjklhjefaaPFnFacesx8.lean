-- Made by hprint.py (wip/) out of the translation; not trusted: Lean checks it.
import Derived.Test.YtgmmlnjklhjefaaPFnFacesx0
import Derived.Test.YtgmmlnjklhjefaaPFnFacesx1
import Derived.Test.YtgmmlnjklhjefaaPFnFacesx2
import Derived.Test.YtgmmlnjklhjefaaPFnFacesx4
import Derived.Test.YtgmmlnjklhjefaaPFnFacesx6
import Derived.Test.YtgmmlnjklhjefaaPFnFacesx7
namespace Go.Proofs.Ytgmmlnjklhjefaa.PFnFaces
open Go.RowKit Go.Proofs.YtgmmlnjklhjefaaW.PrintWords Go.Proofs.YtgmmlnjklhjefaaW.PrintLast Go.Proofs.YtgmmlnjklhjefaaW.PrintMore
attribute [local go_sem] max2_int min2_int max_two min_two max_three min_three max_four min_four   -- for this text's walks alone
set_option linter.unusedVariables false
set_option linter.unusedSimpArgs false

/-! ### laws_FnFaces: function 3, by hand -/
/-- A world that stands as W stood below B. -/
structure laws_FnFaces.Ext (B : Nat) (W : World) where
  w : World
  h : Below B W w
instance {B : Nat} {W : World} : Inhabited (laws_FnFaces.Ext B W) := ⟨⟨W, Below.refl B W⟩⟩
theorem laws_FnFaces.quiet {P : Program} {id : Nat} {Q : Exit → Act → World → Prop} {a : Act} {w : World} {l : List Oper} {B : Nat} {W : World} (hm : P.follows .mixedOrders = true) (hB : Region.lexB .any l.toArray = true) (hw : Below B W w)
    (h : ∀ ops : Array Oper, ops = l.toArray → wpQuiet P ops (fun w' => ∃ p : laws_FnFaces.Ext B W, w' = p.w) (fun a' => ∀ w', (∃ p : laws_FnFaces.Ext B W, w' = p.w) → Q .normal a' w') l a) : (Code.region id l.toArray true).wp P Q a w :=
  wp_region_quiet (C := fun w' => ∃ p : laws_FnFaces.Ext B W, w' = p.w) hm hB ⟨⟨_, below_drew1 hw⟩, rfl⟩ (by simpa using h _ rfl)
theorem laws_FnFaces.skip {P : Program} {ops : Array Oper} {C : World → Prop} {Q : Act → Prop} {a : Act} {o : Oper} {rest : List Oper} (hw : Region.wanted o (yielded ops a.tmps) = false) (h : wpQuiet P ops C Q rest (a.put o.dst undef)) : wpQuiet P ops C Q (o :: rest) a := by
  unfold wpQuiet
  rw [hw]
  exact h
theorem laws_FnFaces.want {P : Program} {ops : Array Oper} {C : World → Prop} {Q : Act → Prop} {a : Act} {o : Oper} {rest : List Oper} (hw : Region.wanted o (yielded ops a.tmps) = true) (h : wpQuiet P ops C Q ({ o with guard := none } :: rest) a) : wpQuiet P ops C Q (o :: rest) a := by
  have h1 : Region.wanted { o with guard := none } (yielded ops a.tmps) = true := rfl
  unfold wpQuiet at h ⊢
  rw [if_pos h1] at h
  rw [if_pos hw]
  exact h
theorem laws_FnFaces.mv {P : Program} {ops : Array Oper} {C : World → Prop} {Q : Act → Prop} {a : Act} {o : Oper} {rest : List Oper} {v : Value} (hw : Region.wanted o (yielded ops a.tmps) = true) (hq : ∀ w, C w → o.quietAt P a C w v) (h : wpQuiet P ops C Q rest (a.put o.dst v)) : wpQuiet P ops C Q (o :: rest) a := by
  unfold wpQuiet
  rw [if_pos hw]
  exact ⟨v, hq, h⟩
theorem laws_FnFaces.ext {P : Program} {f : FuncId} {args : Array Value} {v : Value} {W : World} (p : laws_FnFaces.Ext W.heap.size W) (h : Calls P f args p.w fun e w' => e = .returned v ∧ Below p.w.heap.size p.w w') :
    Calls P f args p.w fun e w'' => e = .returned v ∧ ∃ q : laws_FnFaces.Ext W.heap.size W, w'' = q.w := h.mono (fun _ w' ⟨he, hb⟩ => ⟨he, ⟨⟨w', p.h.trans (hb.mono p.h.size)⟩, rfl⟩⟩)
theorem laws_FnFaces.R_reads {w : World} {base : Nat} {ok : Nat → Prop} {v : Value} {xs : List Int} (h : Kd.R (Kd.int .i64) 3 w base ok v xs) : ∃ A c, v = .slice A xs.length c ∧ xs.length ≤ c ∧ Kd.C (Kd.int .i64) w A xs.length xs := by
  have h3 : (Kd.slice 3 (Kd.int .i64)).M w base ok xs [v] := ⟨v, rfl, h⟩
  obtain ⟨A, c, e1, hc, hC⟩ := (Kd.slice 3 (Kd.int .i64)).K_of_M h3
  injection e1 with e1 _
  exact ⟨A, c, e1, hc, hC⟩
def laws_FnFaces.f (k : Nat) (l0 : List Int) : Option Bool := if (l0.length : Int) > 1048576 then some true else (spec_DrawSolidFaces.f k l0).bind fun s => (impl_SolidFaces.f k s).bind fun o => (spec_SolidFaces.f k s).bind fun w => if o.2 = w.2 ∧ o.1 = w.1 then (if o.2 = true then (impl_SolidFirst.f k s).bind fun x => (impl_SolidFaces.f k x.1).bind fun n => (impl_StickThree.f k (rd s 0) (rd s 1) (rd s 3)).bind fun b1 => (impl_StickThree.f k (rd s 0) (rd s 2) (rd s 4)).bind fun b2 => (impl_StickThree.f k (rd s 1) (rd s 2) (rd s 5)).bind fun b3 => (impl_StickThree.f k (rd s 3) (rd s 4) (rd s 5)).bind fun b4 => if 5 < s.length ∧ x.2 = true ∧ n.2 = true ∧ n.1 = o.1 ∧ decide (o.1 = 4) = (b1 && b2 && b3 && b4) ∧ 0 ≤ o.1 ∧ o.1 ≤ 4 then some true else none else some true) else none
open Go.Proofs in
set_option maxHeartbeats 16000000 in
set_option maxRecDepth 100000 in
theorem laws_FnFaces.calls (k : Nat) (A0 : Option Addr) (c0 : Nat) (l0 : List Int) (r : Bool) (w : World) (hr0 : Kd.C (Kd.int .u8) w A0 l0.length l0) (hc0 : l0.length ≤ c0) (h : laws_FnFaces.f k l0 = some r) :
    Calls Try.prog 3 #[.slice A0 l0.length c0] w fun e w' => e = .returned (.bool r) ∧ Below w.heap.size w w' := by
  unfold laws_FnFaces.f at h
  by_cases hl : (l0.length : Int) > 1048576
  · rw [if_pos hl] at h
    obtain rfl := Option.some.inj h
    have q0 : ((l0.length : Int) > 1048576) = True := eq_true hl
    have q0' : ((1048576 : Int) < (l0.length : Int)) = True := eq_true hl
    have q0'' : (1048576 < l0.length) = True := eq_true (by omega)
    clear h
    go_enter Try.func3, Try.ntmps3
    go_wp2
    go_ret
    exact ⟨rfl, Below.refl _ _⟩
  · rw [if_neg hl] at h
    have q0 : ((l0.length : Int) > 1048576) = False := eq_false hl
    have q0' : ((1048576 : Int) < (l0.length : Int)) = False := eq_false hl
    have q0'' : (1048576 < l0.length) = False := eq_false (by omega)
    obtain ⟨s, h1, h⟩ := Option.bind_eq_some_iff.mp h
    obtain ⟨⟨o1, o2⟩, h2, h⟩ := Option.bind_eq_some_iff.mp h
    obtain ⟨⟨w1_, w2_⟩, h3, h⟩ := Option.bind_eq_some_iff.mp h
    by_cases hc : o2 = w2_ ∧ o1 = w1_
    · rw [if_pos hc] at h
      obtain ⟨rfl, rfl⟩ := hc
      have HR0 := Aside0.mk hr0
      have A1 := Aside0.mk h1
      have A2 := Aside0.mk h2
      have A3 := Aside0.mk h3
      cases o2 with
      | false =>
        rw [if_neg (by simp)] at h
        obtain rfl := Option.some.inj h
        clear h h1 h2 h3 hr0
        go_enter Try.func3, Try.ntmps3
        go_wp2_with fail
        refine (spec_DrawSolidFaces.calls k A0 c0 l0 s w HR0.out hc0 A1.out).mono ?_
        rintro e w1 ⟨v1, rfl, hS, hB1⟩
        obtain ⟨As, cs, rfl, hcs, hCs⟩ := laws_FnFaces.R_reads hS
        have B1 := Aside0.mk hB1
        have HC := Aside0.mk hCs
        have cA := impl_SolidFaces.calls k As cs s o1 false w1 hCs hcs A2.out
        clear hS hB1 hCs
        go_wp2_with fail
        refine cA.mono ?_
        rintro e w2 ⟨rfl, hB2⟩
        clear cA
        have B2 := Aside0.mk hB2
        have cB := spec_SolidFaces.calls k As cs s o1 false w2 (Kd.C_below HC.out hB2) hcs A3.out
        clear hB2
        go_wp2_with fail
        refine cB.mono ?_
        rintro e w3 ⟨rfl, hB3⟩
        clear cB
        have B3 := Aside0.mk (below_step B2.out hB3)
        clear hB3 B2
        go_wp2
        go_ret
        exact ⟨rfl, below_step B1.out B3.out⟩
      | true =>
        rw [if_pos rfl] at h
        obtain ⟨⟨x1, x2⟩, h4, h⟩ := Option.bind_eq_some_iff.mp h
        obtain ⟨⟨n1, n2⟩, h5, h⟩ := Option.bind_eq_some_iff.mp h
        obtain ⟨b1, h6, h⟩ := Option.bind_eq_some_iff.mp h
        obtain ⟨b2, h7, h⟩ := Option.bind_eq_some_iff.mp h
        obtain ⟨b3, h8, h⟩ := Option.bind_eq_some_iff.mp h
        obtain ⟨b4, h9, h⟩ := Option.bind_eq_some_iff.mp h
        by_cases hg : 5 < s.length ∧ x2 = true ∧ n2 = true ∧ n1 = o1 ∧ decide (o1 = 4) = (b1 && b2 && b3 && b4) ∧ 0 ≤ o1 ∧ o1 ≤ 4
        · rw [if_pos hg] at h
          obtain rfl := Option.some.inj h
          obtain ⟨hs5, rfl, rfl, rfl, hd, ho0, ho4⟩ := hg
          have A4 := Aside0.mk h4
          have A5 := Aside0.mk h5
          have A6 := Aside0.mk h6
          have A7 := Aside0.mk h7
          have A8 := Aside0.mk h8
          have A9 := Aside0.mk h9
          have qo0 : (0 ≤ n1) = True := eq_true ho0
          have qo4 : (n1 ≤ 4) = True := eq_true ho4
          clear h h1 h2 h3 h4 h5 h6 h7 h8 h9 hr0
          cases b1 with
          | false =>
            have hn4 : (n1 = 4) = False := eq_false (by simpa using hd)
            clear hd
            go_enter Try.func3, Try.ntmps3
            go_wp2_with fail
            refine (spec_DrawSolidFaces.calls k A0 c0 l0 s w HR0.out hc0 A1.out).mono ?_
            rintro e w1 ⟨v1, rfl, hS, hB1⟩
            obtain ⟨As, cs, rfl, hcs, hCs⟩ := laws_FnFaces.R_reads hS
            have B1 := Aside0.mk hB1
            have HC := Aside0.mk hCs
            have cA := impl_SolidFaces.calls k As cs s n1 true w1 hCs hcs A2.out
            clear hS hB1 hCs
            go_wp2_with fail
            refine cA.mono ?_
            rintro e w2 ⟨rfl, hB2⟩
            clear cA
            have B2 := Aside0.mk hB2
            have cB := spec_SolidFaces.calls k As cs s n1 true w2 (Kd.C_below HC.out hB2) hcs A3.out
            clear hB2
            go_wp2_with fail
            refine cB.mono ?_
            rintro e w3 ⟨rfl, hB3⟩
            clear cB
            have B3 := Aside0.mk (below_step B2.out hB3)
            clear hB3 B2
            have cC := impl_SolidFirst.calls k As cs s x1 true w3 (Kd.C_below HC.out B3.out) hcs A4.out
            go_wp2_with fail
            refine cC.mono ?_
            rintro e w4 ⟨v4, rfl, hX, hB4⟩
            clear cC
            obtain ⟨Ax, cx, rfl, hcx, hCx⟩ := laws_FnFaces.R_reads hX
            have B4 := Aside0.mk (below_step B3.out hB4)
            have cD := impl_SolidFaces.calls k Ax cx x1 n1 true w4 hCx hcx A5.out
            clear hX hB4 hCx B3
            go_wp2_with fail
            refine cD.mono ?_
            rintro e w5 ⟨rfl, hB5⟩
            clear cD
            have B5 := Aside0.mk (below_step B4.out hB5)
            clear hB5 B4
            obtain ⟨ad0, ea0, hw0⟩ := Kd.at_int HC.out 0 (by omega) (by omega)
            subst ea0
            obtain ⟨ad1, ea1, hw1⟩ := Kd.at_int HC.out 1 (by omega) (by omega)
            obtain rfl : ad0 = ad1 := by injection ea1
            obtain ⟨ad2, ea2, hw2⟩ := Kd.at_int HC.out 2 (by omega) (by omega)
            obtain rfl : ad0 = ad2 := by injection ea2
            obtain ⟨ad3, ea3, hw3⟩ := Kd.at_int HC.out 3 (by omega) (by omega)
            obtain rfl : ad0 = ad3 := by injection ea3
            obtain ⟨ad4, ea4, hw4⟩ := Kd.at_int HC.out 4 (by omega) (by omega)
            obtain rfl : ad0 = ad4 := by injection ea4
            obtain ⟨ad5, ea5, hw5⟩ := Kd.at_int HC.out 5 (by omega) (by omega)
            obtain rfl : ad0 = ad5 := by injection ea5
            have hl0 : ∀ p : laws_FnFaces.Ext w1.heap.size w1, p.w.cell? ad0 = some (.int .i64 (rd s 0)) := fun p => by
              have h := (p.h.cell (World.block_lt_of_cell? w1 _ hw0)).trans hw0
              simpa [Go.Addr.add] using h
            have qa0 : (0 < (s.length : Int)) = True := eq_true (by omega)
            have qb0 : (0 < s.length) = True := eq_true (by omega)
            have hl1 : ∀ p : laws_FnFaces.Ext w1.heap.size w1, p.w.cell? ⟨ad0.block, ad0.off + 1, none⟩ = some (.int .i64 (rd s 1)) := fun p => by
              have h := (p.h.cell (World.block_lt_of_cell? w1 _ hw1)).trans hw1
              simpa [Go.Addr.add] using h
            have qa1 : (1 < (s.length : Int)) = True := eq_true (by omega)
            have qb1 : (1 < s.length) = True := eq_true (by omega)
            have hl2 : ∀ p : laws_FnFaces.Ext w1.heap.size w1, p.w.cell? ⟨ad0.block, ad0.off + 2, none⟩ = some (.int .i64 (rd s 2)) := fun p => by
              have h := (p.h.cell (World.block_lt_of_cell? w1 _ hw2)).trans hw2
              simpa [Go.Addr.add] using h
            have qa2 : (2 < (s.length : Int)) = True := eq_true (by omega)
            have qb2 : (2 < s.length) = True := eq_true (by omega)
            have hl3 : ∀ p : laws_FnFaces.Ext w1.heap.size w1, p.w.cell? ⟨ad0.block, ad0.off + 3, none⟩ = some (.int .i64 (rd s 3)) := fun p => by
              have h := (p.h.cell (World.block_lt_of_cell? w1 _ hw3)).trans hw3
              simpa [Go.Addr.add] using h
            have qa3 : (3 < (s.length : Int)) = True := eq_true (by omega)
            have qb3 : (3 < s.length) = True := eq_true (by omega)
            have hl4 : ∀ p : laws_FnFaces.Ext w1.heap.size w1, p.w.cell? ⟨ad0.block, ad0.off + 4, none⟩ = some (.int .i64 (rd s 4)) := fun p => by
              have h := (p.h.cell (World.block_lt_of_cell? w1 _ hw4)).trans hw4
              simpa [Go.Addr.add] using h
            have qa4 : (4 < (s.length : Int)) = True := eq_true (by omega)
            have qb4 : (4 < s.length) = True := eq_true (by omega)
            have hl5 : ∀ p : laws_FnFaces.Ext w1.heap.size w1, p.w.cell? ⟨ad0.block, ad0.off + 5, none⟩ = some (.int .i64 (rd s 5)) := fun p => by
              have h := (p.h.cell (World.block_lt_of_cell? w1 _ hw5)).trans hw5
              simpa [Go.Addr.add] using h
            have qa5 : (5 < (s.length : Int)) = True := eq_true (by omega)
            have qb5 : (5 < s.length) = True := eq_true (by omega)
            clear hw0 hw1 hw2 hw3 hw4 hw5
            go_wp2_with fail
            refine laws_FnFaces.quiet (W := w1) (B := w1.heap.size) (by kernel_rfl) (by kernel_rfl) B5.out (fun ops hops_ => ?_)
            have hops := Aside0.mk hops_
            clear hops_
            (quiet_step (first | with_reducible exact laws_FnFaces.ext _ (impl_StickThree.calls k _ _ _ _ _ A6.out)))
            (quiet_step (first | with_reducible exact laws_FnFaces.ext _ (impl_StickThree.calls k _ _ _ _ _ A6.out)))
            (quiet_step (first | with_reducible exact laws_FnFaces.ext _ (impl_StickThree.calls k _ _ _ _ _ A6.out)))
            (quiet_step (first | with_reducible exact laws_FnFaces.ext _ (impl_StickThree.calls k _ _ _ _ _ A6.out)))
            (quiet_step (first | with_reducible exact laws_FnFaces.ext _ (impl_StickThree.calls k _ _ _ _ _ A6.out)))
            (quiet_step (first | with_reducible exact laws_FnFaces.ext _ (impl_StickThree.calls k _ _ _ _ _ A6.out)))
            (quiet_step (first | with_reducible exact laws_FnFaces.ext _ (impl_StickThree.calls k _ _ _ _ _ A6.out)))
            (quiet_step (first | with_reducible exact laws_FnFaces.ext _ (impl_StickThree.calls k _ _ _ _ _ A6.out)))
            (quiet_step (first | with_reducible exact laws_FnFaces.ext _ (impl_StickThree.calls k _ _ _ _ _ A6.out)))
            (quiet_step (first | with_reducible exact laws_FnFaces.ext _ (impl_StickThree.calls k _ _ _ _ _ A6.out)))
            (refine laws_FnFaces.mv (v := .bool false) (by rfl) (fun _ _ => ⟨rfl, rfl⟩) ?_; simp only [Act.put, List.setIfInBounds_toArray, List.set_cons_zero, List.set_cons_succ])
            (with_reducible refine laws_FnFaces.skip (by rw [hops.out]; first | rfl | kernel_rfl | go_simp) ?_; simp only [Act.put, List.setIfInBounds_toArray, List.set_cons_zero, List.set_cons_succ])
            (with_reducible refine laws_FnFaces.skip (by rw [hops.out]; first | rfl | kernel_rfl | go_simp) ?_; simp only [Act.put, List.setIfInBounds_toArray, List.set_cons_zero, List.set_cons_succ])
            (with_reducible refine laws_FnFaces.skip (by rw [hops.out]; first | rfl | kernel_rfl | go_simp) ?_; simp only [Act.put, List.setIfInBounds_toArray, List.set_cons_zero, List.set_cons_succ])
            (with_reducible refine laws_FnFaces.skip (by rw [hops.out]; first | rfl | kernel_rfl | go_simp) ?_; simp only [Act.put, List.setIfInBounds_toArray, List.set_cons_zero, List.set_cons_succ])
            (with_reducible refine laws_FnFaces.skip (by rw [hops.out]; first | rfl | kernel_rfl | go_simp) ?_; simp only [Act.put, List.setIfInBounds_toArray, List.set_cons_zero, List.set_cons_succ])
            (with_reducible refine laws_FnFaces.skip (by rw [hops.out]; first | rfl | kernel_rfl | go_simp) ?_; simp only [Act.put, List.setIfInBounds_toArray, List.set_cons_zero, List.set_cons_succ])
            (with_reducible refine laws_FnFaces.skip (by rw [hops.out]; first | rfl | kernel_rfl | go_simp) ?_; simp only [Act.put, List.setIfInBounds_toArray, List.set_cons_zero, List.set_cons_succ])
            (with_reducible refine laws_FnFaces.skip (by rw [hops.out]; first | rfl | kernel_rfl | go_simp) ?_; simp only [Act.put, List.setIfInBounds_toArray, List.set_cons_zero, List.set_cons_succ])
            (with_reducible refine laws_FnFaces.skip (by rw [hops.out]; first | rfl | kernel_rfl | go_simp) ?_; simp only [Act.put, List.setIfInBounds_toArray, List.set_cons_zero, List.set_cons_succ])
            (with_reducible refine laws_FnFaces.skip (by rw [hops.out]; first | rfl | kernel_rfl | go_simp) ?_; simp only [Act.put, List.setIfInBounds_toArray, List.set_cons_zero, List.set_cons_succ])
            (refine laws_FnFaces.mv (v := .bool false) (by rfl) (fun _ _ => ⟨rfl, rfl⟩) ?_; simp only [Act.put, List.setIfInBounds_toArray, List.set_cons_zero, List.set_cons_succ])
            (refine laws_FnFaces.mv (v := .bool false) (by rfl) (fun _ _ => ⟨rfl, rfl⟩) ?_; simp only [Act.put, List.setIfInBounds_toArray, List.set_cons_zero, List.set_cons_succ])
            (with_reducible refine laws_FnFaces.skip (by rw [hops.out]; first | rfl | kernel_rfl | go_simp) ?_; simp only [Act.put, List.setIfInBounds_toArray, List.set_cons_zero, List.set_cons_succ])
            (with_reducible refine laws_FnFaces.skip (by rw [hops.out]; first | rfl | kernel_rfl | go_simp) ?_; simp only [Act.put, List.setIfInBounds_toArray, List.set_cons_zero, List.set_cons_succ])
            (with_reducible refine laws_FnFaces.skip (by rw [hops.out]; first | rfl | kernel_rfl | go_simp) ?_; simp only [Act.put, List.setIfInBounds_toArray, List.set_cons_zero, List.set_cons_succ])
            (with_reducible refine laws_FnFaces.skip (by rw [hops.out]; first | rfl | kernel_rfl | go_simp) ?_; simp only [Act.put, List.setIfInBounds_toArray, List.set_cons_zero, List.set_cons_succ])
            (with_reducible refine laws_FnFaces.skip (by rw [hops.out]; first | rfl | kernel_rfl | go_simp) ?_; simp only [Act.put, List.setIfInBounds_toArray, List.set_cons_zero, List.set_cons_succ])
            (with_reducible refine laws_FnFaces.skip (by rw [hops.out]; first | rfl | kernel_rfl | go_simp) ?_; simp only [Act.put, List.setIfInBounds_toArray, List.set_cons_zero, List.set_cons_succ])
            (with_reducible refine laws_FnFaces.skip (by rw [hops.out]; first | rfl | kernel_rfl | go_simp) ?_; simp only [Act.put, List.setIfInBounds_toArray, List.set_cons_zero, List.set_cons_succ])
            (with_reducible refine laws_FnFaces.skip (by rw [hops.out]; first | rfl | kernel_rfl | go_simp) ?_; simp only [Act.put, List.setIfInBounds_toArray, List.set_cons_zero, List.set_cons_succ])
            (with_reducible refine laws_FnFaces.skip (by rw [hops.out]; first | rfl | kernel_rfl | go_simp) ?_; simp only [Act.put, List.setIfInBounds_toArray, List.set_cons_zero, List.set_cons_succ])
            (with_reducible refine laws_FnFaces.skip (by rw [hops.out]; first | rfl | kernel_rfl | go_simp) ?_; simp only [Act.put, List.setIfInBounds_toArray, List.set_cons_zero, List.set_cons_succ])
            (refine laws_FnFaces.mv (v := .bool false) (by rfl) (fun _ _ => ⟨rfl, rfl⟩) ?_; simp only [Act.put, List.setIfInBounds_toArray, List.set_cons_zero, List.set_cons_succ])
            (refine laws_FnFaces.mv (v := .bool false) (by rfl) (fun _ _ => ⟨rfl, rfl⟩) ?_; simp only [Act.put, List.setIfInBounds_toArray, List.set_cons_zero, List.set_cons_succ])
            (with_reducible refine laws_FnFaces.skip (by rw [hops.out]; first | rfl | kernel_rfl | go_simp) ?_; simp only [Act.put, List.setIfInBounds_toArray, List.set_cons_zero, List.set_cons_succ])
            (with_reducible refine laws_FnFaces.skip (by rw [hops.out]; first | rfl | kernel_rfl | go_simp) ?_; simp only [Act.put, List.setIfInBounds_toArray, List.set_cons_zero, List.set_cons_succ])
            (with_reducible refine laws_FnFaces.skip (by rw [hops.out]; first | rfl | kernel_rfl | go_simp) ?_; simp only [Act.put, List.setIfInBounds_toArray, List.set_cons_zero, List.set_cons_succ])
            (with_reducible refine laws_FnFaces.skip (by rw [hops.out]; first | rfl | kernel_rfl | go_simp) ?_; simp only [Act.put, List.setIfInBounds_toArray, List.set_cons_zero, List.set_cons_succ])
            (with_reducible refine laws_FnFaces.skip (by rw [hops.out]; first | rfl | kernel_rfl | go_simp) ?_; simp only [Act.put, List.setIfInBounds_toArray, List.set_cons_zero, List.set_cons_succ])
            (with_reducible refine laws_FnFaces.skip (by rw [hops.out]; first | rfl | kernel_rfl | go_simp) ?_; simp only [Act.put, List.setIfInBounds_toArray, List.set_cons_zero, List.set_cons_succ])
            (with_reducible refine laws_FnFaces.skip (by rw [hops.out]; first | rfl | kernel_rfl | go_simp) ?_; simp only [Act.put, List.setIfInBounds_toArray, List.set_cons_zero, List.set_cons_succ])
            (with_reducible refine laws_FnFaces.skip (by rw [hops.out]; first | rfl | kernel_rfl | go_simp) ?_; simp only [Act.put, List.setIfInBounds_toArray, List.set_cons_zero, List.set_cons_succ])
            (with_reducible refine laws_FnFaces.skip (by rw [hops.out]; first | rfl | kernel_rfl | go_simp) ?_; simp only [Act.put, List.setIfInBounds_toArray, List.set_cons_zero, List.set_cons_succ])
            (with_reducible refine laws_FnFaces.skip (by rw [hops.out]; first | rfl | kernel_rfl | go_simp) ?_; simp only [Act.put, List.setIfInBounds_toArray, List.set_cons_zero, List.set_cons_succ])
            (refine laws_FnFaces.mv (v := .bool false) (by rfl) (fun _ _ => ⟨rfl, rfl⟩) ?_; simp only [Act.put, List.setIfInBounds_toArray, List.set_cons_zero, List.set_cons_succ])
            (refine laws_FnFaces.mv (v := .bool false) (by rfl) (fun _ _ => ⟨rfl, rfl⟩) ?_; simp only [Act.put, List.setIfInBounds_toArray, List.set_cons_zero, List.set_cons_succ])
            refine wpQuiet_nil ?_
            intro _ hw'
            obtain ⟨⟨wq, hq⟩, hw''⟩ := hw'
            subst hw''
            go_wp2
            go_ret
            exact ⟨by first | rfl | (show Ending.returned (Value.bool (!(n1 == 4))) = _; rw [beq_eq_false_iff_ne.2 (fun e => by rw [hn4] at e; exact e)]; rfl), B1.out.trans (hq.mono B1.out.size)⟩
          | true =>
            cases b2 with
            | false =>
              have hn4 : (n1 = 4) = False := eq_false (by simpa using hd)
              clear hd
              go_enter Try.func3, Try.ntmps3
              go_wp2_with fail
              refine (spec_DrawSolidFaces.calls k A0 c0 l0 s w HR0.out hc0 A1.out).mono ?_
              rintro e w1 ⟨v1, rfl, hS, hB1⟩
              obtain ⟨As, cs, rfl, hcs, hCs⟩ := laws_FnFaces.R_reads hS
              have B1 := Aside0.mk hB1
              have HC := Aside0.mk hCs
              have cA := impl_SolidFaces.calls k As cs s n1 true w1 hCs hcs A2.out
              clear hS hB1 hCs
              go_wp2_with fail
              refine cA.mono ?_
              rintro e w2 ⟨rfl, hB2⟩
              clear cA
              have B2 := Aside0.mk hB2
              have cB := spec_SolidFaces.calls k As cs s n1 true w2 (Kd.C_below HC.out hB2) hcs A3.out
              clear hB2
              go_wp2_with fail
              refine cB.mono ?_
              rintro e w3 ⟨rfl, hB3⟩
              clear cB
              have B3 := Aside0.mk (below_step B2.out hB3)
              clear hB3 B2
              have cC := impl_SolidFirst.calls k As cs s x1 true w3 (Kd.C_below HC.out B3.out) hcs A4.out
              go_wp2_with fail
              refine cC.mono ?_
              rintro e w4 ⟨v4, rfl, hX, hB4⟩
              clear cC
              obtain ⟨Ax, cx, rfl, hcx, hCx⟩ := laws_FnFaces.R_reads hX
              have B4 := Aside0.mk (below_step B3.out hB4)
              have cD := impl_SolidFaces.calls k Ax cx x1 n1 true w4 hCx hcx A5.out
              clear hX hB4 hCx B3
              go_wp2_with fail
              refine cD.mono ?_
              rintro e w5 ⟨rfl, hB5⟩
              clear cD
              have B5 := Aside0.mk (below_step B4.out hB5)
              clear hB5 B4
              obtain ⟨ad0, ea0, hw0⟩ := Kd.at_int HC.out 0 (by omega) (by omega)
              subst ea0
              obtain ⟨ad1, ea1, hw1⟩ := Kd.at_int HC.out 1 (by omega) (by omega)
              obtain rfl : ad0 = ad1 := by injection ea1
              obtain ⟨ad2, ea2, hw2⟩ := Kd.at_int HC.out 2 (by omega) (by omega)
              obtain rfl : ad0 = ad2 := by injection ea2
              obtain ⟨ad3, ea3, hw3⟩ := Kd.at_int HC.out 3 (by omega) (by omega)
              obtain rfl : ad0 = ad3 := by injection ea3
              obtain ⟨ad4, ea4, hw4⟩ := Kd.at_int HC.out 4 (by omega) (by omega)
              obtain rfl : ad0 = ad4 := by injection ea4
              obtain ⟨ad5, ea5, hw5⟩ := Kd.at_int HC.out 5 (by omega) (by omega)
              obtain rfl : ad0 = ad5 := by injection ea5
              have hl0 : ∀ p : laws_FnFaces.Ext w1.heap.size w1, p.w.cell? ad0 = some (.int .i64 (rd s 0)) := fun p => by
                have h := (p.h.cell (World.block_lt_of_cell? w1 _ hw0)).trans hw0
                simpa [Go.Addr.add] using h
              have qa0 : (0 < (s.length : Int)) = True := eq_true (by omega)
              have qb0 : (0 < s.length) = True := eq_true (by omega)
              have hl1 : ∀ p : laws_FnFaces.Ext w1.heap.size w1, p.w.cell? ⟨ad0.block, ad0.off + 1, none⟩ = some (.int .i64 (rd s 1)) := fun p => by
                have h := (p.h.cell (World.block_lt_of_cell? w1 _ hw1)).trans hw1
                simpa [Go.Addr.add] using h
              have qa1 : (1 < (s.length : Int)) = True := eq_true (by omega)
              have qb1 : (1 < s.length) = True := eq_true (by omega)
              have hl2 : ∀ p : laws_FnFaces.Ext w1.heap.size w1, p.w.cell? ⟨ad0.block, ad0.off + 2, none⟩ = some (.int .i64 (rd s 2)) := fun p => by
                have h := (p.h.cell (World.block_lt_of_cell? w1 _ hw2)).trans hw2
                simpa [Go.Addr.add] using h
              have qa2 : (2 < (s.length : Int)) = True := eq_true (by omega)
              have qb2 : (2 < s.length) = True := eq_true (by omega)
              have hl3 : ∀ p : laws_FnFaces.Ext w1.heap.size w1, p.w.cell? ⟨ad0.block, ad0.off + 3, none⟩ = some (.int .i64 (rd s 3)) := fun p => by
                have h := (p.h.cell (World.block_lt_of_cell? w1 _ hw3)).trans hw3
                simpa [Go.Addr.add] using h
              have qa3 : (3 < (s.length : Int)) = True := eq_true (by omega)
              have qb3 : (3 < s.length) = True := eq_true (by omega)
              have hl4 : ∀ p : laws_FnFaces.Ext w1.heap.size w1, p.w.cell? ⟨ad0.block, ad0.off + 4, none⟩ = some (.int .i64 (rd s 4)) := fun p => by
                have h := (p.h.cell (World.block_lt_of_cell? w1 _ hw4)).trans hw4
                simpa [Go.Addr.add] using h
              have qa4 : (4 < (s.length : Int)) = True := eq_true (by omega)
              have qb4 : (4 < s.length) = True := eq_true (by omega)
              have hl5 : ∀ p : laws_FnFaces.Ext w1.heap.size w1, p.w.cell? ⟨ad0.block, ad0.off + 5, none⟩ = some (.int .i64 (rd s 5)) := fun p => by
                have h := (p.h.cell (World.block_lt_of_cell? w1 _ hw5)).trans hw5
                simpa [Go.Addr.add] using h
              have qa5 : (5 < (s.length : Int)) = True := eq_true (by omega)
              have qb5 : (5 < s.length) = True := eq_true (by omega)
              clear hw0 hw1 hw2 hw3 hw4 hw5
              go_wp2_with fail
              refine laws_FnFaces.quiet (W := w1) (B := w1.heap.size) (by kernel_rfl) (by kernel_rfl) B5.out (fun ops hops_ => ?_)
              have hops := Aside0.mk hops_
              clear hops_
              (quiet_step (first | with_reducible exact laws_FnFaces.ext _ (impl_StickThree.calls k _ _ _ _ _ A6.out) | with_reducible exact laws_FnFaces.ext _ (impl_StickThree.calls k _ _ _ _ _ A7.out)))
              (quiet_step (first | with_reducible exact laws_FnFaces.ext _ (impl_StickThree.calls k _ _ _ _ _ A6.out) | with_reducible exact laws_FnFaces.ext _ (impl_StickThree.calls k _ _ _ _ _ A7.out)))
              (quiet_step (first | with_reducible exact laws_FnFaces.ext _ (impl_StickThree.calls k _ _ _ _ _ A6.out) | with_reducible exact laws_FnFaces.ext _ (impl_StickThree.calls k _ _ _ _ _ A7.out)))
              (quiet_step (first | with_reducible exact laws_FnFaces.ext _ (impl_StickThree.calls k _ _ _ _ _ A6.out) | with_reducible exact laws_FnFaces.ext _ (impl_StickThree.calls k _ _ _ _ _ A7.out)))
              (quiet_step (first | with_reducible exact laws_FnFaces.ext _ (impl_StickThree.calls k _ _ _ _ _ A6.out) | with_reducible exact laws_FnFaces.ext _ (impl_StickThree.calls k _ _ _ _ _ A7.out)))
              (quiet_step (first | with_reducible exact laws_FnFaces.ext _ (impl_StickThree.calls k _ _ _ _ _ A6.out) | with_reducible exact laws_FnFaces.ext _ (impl_StickThree.calls k _ _ _ _ _ A7.out)))
              (quiet_step (first | with_reducible exact laws_FnFaces.ext _ (impl_StickThree.calls k _ _ _ _ _ A6.out) | with_reducible exact laws_FnFaces.ext _ (impl_StickThree.calls k _ _ _ _ _ A7.out)))
              (quiet_step (first | with_reducible exact laws_FnFaces.ext _ (impl_StickThree.calls k _ _ _ _ _ A6.out) | with_reducible exact laws_FnFaces.ext _ (impl_StickThree.calls k _ _ _ _ _ A7.out)))
              (quiet_step (first | with_reducible exact laws_FnFaces.ext _ (impl_StickThree.calls k _ _ _ _ _ A6.out) | with_reducible exact laws_FnFaces.ext _ (impl_StickThree.calls k _ _ _ _ _ A7.out)))
              (quiet_step (first | with_reducible exact laws_FnFaces.ext _ (impl_StickThree.calls k _ _ _ _ _ A6.out) | with_reducible exact laws_FnFaces.ext _ (impl_StickThree.calls k _ _ _ _ _ A7.out)))
              (refine laws_FnFaces.mv (v := .bool true) (by rfl) (fun _ _ => ⟨rfl, rfl⟩) ?_; simp only [Act.put, List.setIfInBounds_toArray, List.set_cons_zero, List.set_cons_succ])
              (with_reducible refine laws_FnFaces.want (by rw [hops.out]; first | rfl | kernel_rfl | go_simp) ?_; dsimp only; quiet_step (first | with_reducible exact laws_FnFaces.ext _ (impl_StickThree.calls k _ _ _ _ _ A6.out) | with_reducible exact laws_FnFaces.ext _ (impl_StickThree.calls k _ _ _ _ _ A7.out)))
              (with_reducible refine laws_FnFaces.want (by rw [hops.out]; first | rfl | kernel_rfl | go_simp) ?_; dsimp only; quiet_step (first | with_reducible exact laws_FnFaces.ext _ (impl_StickThree.calls k _ _ _ _ _ A6.out) | with_reducible exact laws_FnFaces.ext _ (impl_StickThree.calls k _ _ _ _ _ A7.out)))
              (with_reducible refine laws_FnFaces.want (by rw [hops.out]; first | rfl | kernel_rfl | go_simp) ?_; dsimp only; quiet_step (first | with_reducible exact laws_FnFaces.ext _ (impl_StickThree.calls k _ _ _ _ _ A6.out) | with_reducible exact laws_FnFaces.ext _ (impl_StickThree.calls k _ _ _ _ _ A7.out)))
              (with_reducible refine laws_FnFaces.want (by rw [hops.out]; first | rfl | kernel_rfl | go_simp) ?_; dsimp only; quiet_step (first | with_reducible exact laws_FnFaces.ext _ (impl_StickThree.calls k _ _ _ _ _ A6.out) | with_reducible exact laws_FnFaces.ext _ (impl_StickThree.calls k _ _ _ _ _ A7.out)))
              (with_reducible refine laws_FnFaces.want (by rw [hops.out]; first | rfl | kernel_rfl | go_simp) ?_; dsimp only; quiet_step (first | with_reducible exact laws_FnFaces.ext _ (impl_StickThree.calls k _ _ _ _ _ A6.out) | with_reducible exact laws_FnFaces.ext _ (impl_StickThree.calls k _ _ _ _ _ A7.out)))
              (with_reducible refine laws_FnFaces.want (by rw [hops.out]; first | rfl | kernel_rfl | go_simp) ?_; dsimp only; quiet_step (first | with_reducible exact laws_FnFaces.ext _ (impl_StickThree.calls k _ _ _ _ _ A6.out) | with_reducible exact laws_FnFaces.ext _ (impl_StickThree.calls k _ _ _ _ _ A7.out)))
              (with_reducible refine laws_FnFaces.want (by rw [hops.out]; first | rfl | kernel_rfl | go_simp) ?_; dsimp only; quiet_step (first | with_reducible exact laws_FnFaces.ext _ (impl_StickThree.calls k _ _ _ _ _ A6.out) | with_reducible exact laws_FnFaces.ext _ (impl_StickThree.calls k _ _ _ _ _ A7.out)))
              (with_reducible refine laws_FnFaces.want (by rw [hops.out]; first | rfl | kernel_rfl | go_simp) ?_; dsimp only; quiet_step (first | with_reducible exact laws_FnFaces.ext _ (impl_StickThree.calls k _ _ _ _ _ A6.out) | with_reducible exact laws_FnFaces.ext _ (impl_StickThree.calls k _ _ _ _ _ A7.out)))
              (with_reducible refine laws_FnFaces.want (by rw [hops.out]; first | rfl | kernel_rfl | go_simp) ?_; dsimp only; quiet_step (first | with_reducible exact laws_FnFaces.ext _ (impl_StickThree.calls k _ _ _ _ _ A6.out) | with_reducible exact laws_FnFaces.ext _ (impl_StickThree.calls k _ _ _ _ _ A7.out)))
              (with_reducible refine laws_FnFaces.want (by rw [hops.out]; first | rfl | kernel_rfl | go_simp) ?_; dsimp only; quiet_step (first | with_reducible exact laws_FnFaces.ext _ (impl_StickThree.calls k _ _ _ _ _ A6.out) | with_reducible exact laws_FnFaces.ext _ (impl_StickThree.calls k _ _ _ _ _ A7.out)))
              (refine laws_FnFaces.mv (v := .bool false) (by rfl) (fun _ _ => ⟨rfl, rfl⟩) ?_; simp only [Act.put, List.setIfInBounds_toArray, List.set_cons_zero, List.set_cons_succ])
              (refine laws_FnFaces.mv (v := .bool false) (by rfl) (fun _ _ => ⟨rfl, rfl⟩) ?_; simp only [Act.put, List.setIfInBounds_toArray, List.set_cons_zero, List.set_cons_succ])
              (with_reducible refine laws_FnFaces.skip (by rw [hops.out]; first | rfl | kernel_rfl | go_simp) ?_; simp only [Act.put, List.setIfInBounds_toArray, List.set_cons_zero, List.set_cons_succ])
              (with_reducible refine laws_FnFaces.skip (by rw [hops.out]; first | rfl | kernel_rfl | go_simp) ?_; simp only [Act.put, List.setIfInBounds_toArray, List.set_cons_zero, List.set_cons_succ])
              (with_reducible refine laws_FnFaces.skip (by rw [hops.out]; first | rfl | kernel_rfl | go_simp) ?_; simp only [Act.put, List.setIfInBounds_toArray, List.set_cons_zero, List.set_cons_succ])
              (with_reducible refine laws_FnFaces.skip (by rw [hops.out]; first | rfl | kernel_rfl | go_simp) ?_; simp only [Act.put, List.setIfInBounds_toArray, List.set_cons_zero, List.set_cons_succ])
              (with_reducible refine laws_FnFaces.skip (by rw [hops.out]; first | rfl | kernel_rfl | go_simp) ?_; simp only [Act.put, List.setIfInBounds_toArray, List.set_cons_zero, List.set_cons_succ])
              (with_reducible refine laws_FnFaces.skip (by rw [hops.out]; first | rfl | kernel_rfl | go_simp) ?_; simp only [Act.put, List.setIfInBounds_toArray, List.set_cons_zero, List.set_cons_succ])
              (with_reducible refine laws_FnFaces.skip (by rw [hops.out]; first | rfl | kernel_rfl | go_simp) ?_; simp only [Act.put, List.setIfInBounds_toArray, List.set_cons_zero, List.set_cons_succ])
              (with_reducible refine laws_FnFaces.skip (by rw [hops.out]; first | rfl | kernel_rfl | go_simp) ?_; simp only [Act.put, List.setIfInBounds_toArray, List.set_cons_zero, List.set_cons_succ])
              (with_reducible refine laws_FnFaces.skip (by rw [hops.out]; first | rfl | kernel_rfl | go_simp) ?_; simp only [Act.put, List.setIfInBounds_toArray, List.set_cons_zero, List.set_cons_succ])
              (with_reducible refine laws_FnFaces.skip (by rw [hops.out]; first | rfl | kernel_rfl | go_simp) ?_; simp only [Act.put, List.setIfInBounds_toArray, List.set_cons_zero, List.set_cons_succ])
              (refine laws_FnFaces.mv (v := .bool false) (by rfl) (fun _ _ => ⟨rfl, rfl⟩) ?_; simp only [Act.put, List.setIfInBounds_toArray, List.set_cons_zero, List.set_cons_succ])
              (refine laws_FnFaces.mv (v := .bool false) (by rfl) (fun _ _ => ⟨rfl, rfl⟩) ?_; simp only [Act.put, List.setIfInBounds_toArray, List.set_cons_zero, List.set_cons_succ])
              (with_reducible refine laws_FnFaces.skip (by rw [hops.out]; first | rfl | kernel_rfl | go_simp) ?_; simp only [Act.put, List.setIfInBounds_toArray, List.set_cons_zero, List.set_cons_succ])
              (with_reducible refine laws_FnFaces.skip (by rw [hops.out]; first | rfl | kernel_rfl | go_simp) ?_; simp only [Act.put, List.setIfInBounds_toArray, List.set_cons_zero, List.set_cons_succ])
              (with_reducible refine laws_FnFaces.skip (by rw [hops.out]; first | rfl | kernel_rfl | go_simp) ?_; simp only [Act.put, List.setIfInBounds_toArray, List.set_cons_zero, List.set_cons_succ])
              (with_reducible refine laws_FnFaces.skip (by rw [hops.out]; first | rfl | kernel_rfl | go_simp) ?_; simp only [Act.put, List.setIfInBounds_toArray, List.set_cons_zero, List.set_cons_succ])
              (with_reducible refine laws_FnFaces.skip (by rw [hops.out]; first | rfl | kernel_rfl | go_simp) ?_; simp only [Act.put, List.setIfInBounds_toArray, List.set_cons_zero, List.set_cons_succ])
              (with_reducible refine laws_FnFaces.skip (by rw [hops.out]; first | rfl | kernel_rfl | go_simp) ?_; simp only [Act.put, List.setIfInBounds_toArray, List.set_cons_zero, List.set_cons_succ])
              (with_reducible refine laws_FnFaces.skip (by rw [hops.out]; first | rfl | kernel_rfl | go_simp) ?_; simp only [Act.put, List.setIfInBounds_toArray, List.set_cons_zero, List.set_cons_succ])
              (with_reducible refine laws_FnFaces.skip (by rw [hops.out]; first | rfl | kernel_rfl | go_simp) ?_; simp only [Act.put, List.setIfInBounds_toArray, List.set_cons_zero, List.set_cons_succ])
              (with_reducible refine laws_FnFaces.skip (by rw [hops.out]; first | rfl | kernel_rfl | go_simp) ?_; simp only [Act.put, List.setIfInBounds_toArray, List.set_cons_zero, List.set_cons_succ])
              (with_reducible refine laws_FnFaces.skip (by rw [hops.out]; first | rfl | kernel_rfl | go_simp) ?_; simp only [Act.put, List.setIfInBounds_toArray, List.set_cons_zero, List.set_cons_succ])
              (refine laws_FnFaces.mv (v := .bool false) (by rfl) (fun _ _ => ⟨rfl, rfl⟩) ?_; simp only [Act.put, List.setIfInBounds_toArray, List.set_cons_zero, List.set_cons_succ])
              (refine laws_FnFaces.mv (v := .bool false) (by rfl) (fun _ _ => ⟨rfl, rfl⟩) ?_; simp only [Act.put, List.setIfInBounds_toArray, List.set_cons_zero, List.set_cons_succ])
              refine wpQuiet_nil ?_
              intro _ hw'
              obtain ⟨⟨wq, hq⟩, hw''⟩ := hw'
              subst hw''
              go_wp2
              go_ret
              exact ⟨by first | rfl | (show Ending.returned (Value.bool (!(n1 == 4))) = _; rw [beq_eq_false_iff_ne.2 (fun e => by rw [hn4] at e; exact e)]; rfl), B1.out.trans (hq.mono B1.out.size)⟩
            | true =>
              cases b3 with
              | false =>
                have hn4 : (n1 = 4) = False := eq_false (by simpa using hd)
                clear hd
                go_enter Try.func3, Try.ntmps3
                go_wp2_with fail
                refine (spec_DrawSolidFaces.calls k A0 c0 l0 s w HR0.out hc0 A1.out).mono ?_
                rintro e w1 ⟨v1, rfl, hS, hB1⟩
                obtain ⟨As, cs, rfl, hcs, hCs⟩ := laws_FnFaces.R_reads hS
                have B1 := Aside0.mk hB1
                have HC := Aside0.mk hCs
                have cA := impl_SolidFaces.calls k As cs s n1 true w1 hCs hcs A2.out
                clear hS hB1 hCs
                go_wp2_with fail
                refine cA.mono ?_
                rintro e w2 ⟨rfl, hB2⟩
                clear cA
                have B2 := Aside0.mk hB2
                have cB := spec_SolidFaces.calls k As cs s n1 true w2 (Kd.C_below HC.out hB2) hcs A3.out
                clear hB2
                go_wp2_with fail
                refine cB.mono ?_
                rintro e w3 ⟨rfl, hB3⟩
                clear cB
                have B3 := Aside0.mk (below_step B2.out hB3)
                clear hB3 B2
                have cC := impl_SolidFirst.calls k As cs s x1 true w3 (Kd.C_below HC.out B3.out) hcs A4.out
                go_wp2_with fail
                refine cC.mono ?_
                rintro e w4 ⟨v4, rfl, hX, hB4⟩
                clear cC
                obtain ⟨Ax, cx, rfl, hcx, hCx⟩ := laws_FnFaces.R_reads hX
                have B4 := Aside0.mk (below_step B3.out hB4)
                have cD := impl_SolidFaces.calls k Ax cx x1 n1 true w4 hCx hcx A5.out
                clear hX hB4 hCx B3
                go_wp2_with fail
                refine cD.mono ?_
                rintro e w5 ⟨rfl, hB5⟩
                clear cD
                have B5 := Aside0.mk (below_step B4.out hB5)
                clear hB5 B4
                obtain ⟨ad0, ea0, hw0⟩ := Kd.at_int HC.out 0 (by omega) (by omega)
                subst ea0
                obtain ⟨ad1, ea1, hw1⟩ := Kd.at_int HC.out 1 (by omega) (by omega)
                obtain rfl : ad0 = ad1 := by injection ea1
                obtain ⟨ad2, ea2, hw2⟩ := Kd.at_int HC.out 2 (by omega) (by omega)
                obtain rfl : ad0 = ad2 := by injection ea2
                obtain ⟨ad3, ea3, hw3⟩ := Kd.at_int HC.out 3 (by omega) (by omega)
                obtain rfl : ad0 = ad3 := by injection ea3
                obtain ⟨ad4, ea4, hw4⟩ := Kd.at_int HC.out 4 (by omega) (by omega)
                obtain rfl : ad0 = ad4 := by injection ea4
                obtain ⟨ad5, ea5, hw5⟩ := Kd.at_int HC.out 5 (by omega) (by omega)
                obtain rfl : ad0 = ad5 := by injection ea5
                have hl0 : ∀ p : laws_FnFaces.Ext w1.heap.size w1, p.w.cell? ad0 = some (.int .i64 (rd s 0)) := fun p => by
                  have h := (p.h.cell (World.block_lt_of_cell? w1 _ hw0)).trans hw0
                  simpa [Go.Addr.add] using h
                have qa0 : (0 < (s.length : Int)) = True := eq_true (by omega)
                have qb0 : (0 < s.length) = True := eq_true (by omega)
                have hl1 : ∀ p : laws_FnFaces.Ext w1.heap.size w1, p.w.cell? ⟨ad0.block, ad0.off + 1, none⟩ = some (.int .i64 (rd s 1)) := fun p => by
                  have h := (p.h.cell (World.block_lt_of_cell? w1 _ hw1)).trans hw1
                  simpa [Go.Addr.add] using h
                have qa1 : (1 < (s.length : Int)) = True := eq_true (by omega)
                have qb1 : (1 < s.length) = True := eq_true (by omega)
                have hl2 : ∀ p : laws_FnFaces.Ext w1.heap.size w1, p.w.cell? ⟨ad0.block, ad0.off + 2, none⟩ = some (.int .i64 (rd s 2)) := fun p => by
                  have h := (p.h.cell (World.block_lt_of_cell? w1 _ hw2)).trans hw2
                  simpa [Go.Addr.add] using h
                have qa2 : (2 < (s.length : Int)) = True := eq_true (by omega)
                have qb2 : (2 < s.length) = True := eq_true (by omega)
                have hl3 : ∀ p : laws_FnFaces.Ext w1.heap.size w1, p.w.cell? ⟨ad0.block, ad0.off + 3, none⟩ = some (.int .i64 (rd s 3)) := fun p => by
                  have h := (p.h.cell (World.block_lt_of_cell? w1 _ hw3)).trans hw3
                  simpa [Go.Addr.add] using h
                have qa3 : (3 < (s.length : Int)) = True := eq_true (by omega)
                have qb3 : (3 < s.length) = True := eq_true (by omega)
                have hl4 : ∀ p : laws_FnFaces.Ext w1.heap.size w1, p.w.cell? ⟨ad0.block, ad0.off + 4, none⟩ = some (.int .i64 (rd s 4)) := fun p => by
                  have h := (p.h.cell (World.block_lt_of_cell? w1 _ hw4)).trans hw4
                  simpa [Go.Addr.add] using h
                have qa4 : (4 < (s.length : Int)) = True := eq_true (by omega)
                have qb4 : (4 < s.length) = True := eq_true (by omega)
                have hl5 : ∀ p : laws_FnFaces.Ext w1.heap.size w1, p.w.cell? ⟨ad0.block, ad0.off + 5, none⟩ = some (.int .i64 (rd s 5)) := fun p => by
                  have h := (p.h.cell (World.block_lt_of_cell? w1 _ hw5)).trans hw5
                  simpa [Go.Addr.add] using h
                have qa5 : (5 < (s.length : Int)) = True := eq_true (by omega)
                have qb5 : (5 < s.length) = True := eq_true (by omega)
                clear hw0 hw1 hw2 hw3 hw4 hw5
                go_wp2_with fail
                refine laws_FnFaces.quiet (W := w1) (B := w1.heap.size) (by kernel_rfl) (by kernel_rfl) B5.out (fun ops hops_ => ?_)
                have hops := Aside0.mk hops_
                clear hops_
                (quiet_step (first | with_reducible exact laws_FnFaces.ext _ (impl_StickThree.calls k _ _ _ _ _ A6.out) | with_reducible exact laws_FnFaces.ext _ (impl_StickThree.calls k _ _ _ _ _ A7.out) | with_reducible exact laws_FnFaces.ext _ (impl_StickThree.calls k _ _ _ _ _ A8.out)))
                (quiet_step (first | with_reducible exact laws_FnFaces.ext _ (impl_StickThree.calls k _ _ _ _ _ A6.out) | with_reducible exact laws_FnFaces.ext _ (impl_StickThree.calls k _ _ _ _ _ A7.out) | with_reducible exact laws_FnFaces.ext _ (impl_StickThree.calls k _ _ _ _ _ A8.out)))
                (quiet_step (first | with_reducible exact laws_FnFaces.ext _ (impl_StickThree.calls k _ _ _ _ _ A6.out) | with_reducible exact laws_FnFaces.ext _ (impl_StickThree.calls k _ _ _ _ _ A7.out) | with_reducible exact laws_FnFaces.ext _ (impl_StickThree.calls k _ _ _ _ _ A8.out)))
                (quiet_step (first | with_reducible exact laws_FnFaces.ext _ (impl_StickThree.calls k _ _ _ _ _ A6.out) | with_reducible exact laws_FnFaces.ext _ (impl_StickThree.calls k _ _ _ _ _ A7.out) | with_reducible exact laws_FnFaces.ext _ (impl_StickThree.calls k _ _ _ _ _ A8.out)))
                (quiet_step (first | with_reducible exact laws_FnFaces.ext _ (impl_StickThree.calls k _ _ _ _ _ A6.out) | with_reducible exact laws_FnFaces.ext _ (impl_StickThree.calls k _ _ _ _ _ A7.out) | with_reducible exact laws_FnFaces.ext _ (impl_StickThree.calls k _ _ _ _ _ A8.out)))
                (quiet_step (first | with_reducible exact laws_FnFaces.ext _ (impl_StickThree.calls k _ _ _ _ _ A6.out) | with_reducible exact laws_FnFaces.ext _ (impl_StickThree.calls k _ _ _ _ _ A7.out) | with_reducible exact laws_FnFaces.ext _ (impl_StickThree.calls k _ _ _ _ _ A8.out)))
                (quiet_step (first | with_reducible exact laws_FnFaces.ext _ (impl_StickThree.calls k _ _ _ _ _ A6.out) | with_reducible exact laws_FnFaces.ext _ (impl_StickThree.calls k _ _ _ _ _ A7.out) | with_reducible exact laws_FnFaces.ext _ (impl_StickThree.calls k _ _ _ _ _ A8.out)))
                (quiet_step (first | with_reducible exact laws_FnFaces.ext _ (impl_StickThree.calls k _ _ _ _ _ A6.out) | with_reducible exact laws_FnFaces.ext _ (impl_StickThree.calls k _ _ _ _ _ A7.out) | with_reducible exact laws_FnFaces.ext _ (impl_StickThree.calls k _ _ _ _ _ A8.out)))
                (quiet_step (first | with_reducible exact laws_FnFaces.ext _ (impl_StickThree.calls k _ _ _ _ _ A6.out) | with_reducible exact laws_FnFaces.ext _ (impl_StickThree.calls k _ _ _ _ _ A7.out) | with_reducible exact laws_FnFaces.ext _ (impl_StickThree.calls k _ _ _ _ _ A8.out)))
                (quiet_step (first | with_reducible exact laws_FnFaces.ext _ (impl_StickThree.calls k _ _ _ _ _ A6.out) | with_reducible exact laws_FnFaces.ext _ (impl_StickThree.calls k _ _ _ _ _ A7.out) | with_reducible exact laws_FnFaces.ext _ (impl_StickThree.calls k _ _ _ _ _ A8.out)))
                (refine laws_FnFaces.mv (v := .bool true) (by rfl) (fun _ _ => ⟨rfl, rfl⟩) ?_; simp only [Act.put, List.setIfInBounds_toArray, List.set_cons_zero, List.set_cons_succ])
                (with_reducible refine laws_FnFaces.want (by rw [hops.out]; first | rfl | kernel_rfl | go_simp) ?_; dsimp only; quiet_step (first | with_reducible exact laws_FnFaces.ext _ (impl_StickThree.calls k _ _ _ _ _ A6.out) | with_reducible exact laws_FnFaces.ext _ (impl_StickThree.calls k _ _ _ _ _ A7.out) | with_reducible exact laws_FnFaces.ext _ (impl_StickThree.calls k _ _ _ _ _ A8.out)))
                (with_reducible refine laws_FnFaces.want (by rw [hops.out]; first | rfl | kernel_rfl | go_simp) ?_; dsimp only; quiet_step (first | with_reducible exact laws_FnFaces.ext _ (impl_StickThree.calls k _ _ _ _ _ A6.out) | with_reducible exact laws_FnFaces.ext _ (impl_StickThree.calls k _ _ _ _ _ A7.out) | with_reducible exact laws_FnFaces.ext _ (impl_StickThree.calls k _ _ _ _ _ A8.out)))
                (with_reducible refine laws_FnFaces.want (by rw [hops.out]; first | rfl | kernel_rfl | go_simp) ?_; dsimp only; quiet_step (first | with_reducible exact laws_FnFaces.ext _ (impl_StickThree.calls k _ _ _ _ _ A6.out) | with_reducible exact laws_FnFaces.ext _ (impl_StickThree.calls k _ _ _ _ _ A7.out) | with_reducible exact laws_FnFaces.ext _ (impl_StickThree.calls k _ _ _ _ _ A8.out)))
                (with_reducible refine laws_FnFaces.want (by rw [hops.out]; first | rfl | kernel_rfl | go_simp) ?_; dsimp only; quiet_step (first | with_reducible exact laws_FnFaces.ext _ (impl_StickThree.calls k _ _ _ _ _ A6.out) | with_reducible exact laws_FnFaces.ext _ (impl_StickThree.calls k _ _ _ _ _ A7.out) | with_reducible exact laws_FnFaces.ext _ (impl_StickThree.calls k _ _ _ _ _ A8.out)))
                (with_reducible refine laws_FnFaces.want (by rw [hops.out]; first | rfl | kernel_rfl | go_simp) ?_; dsimp only; quiet_step (first | with_reducible exact laws_FnFaces.ext _ (impl_StickThree.calls k _ _ _ _ _ A6.out) | with_reducible exact laws_FnFaces.ext _ (impl_StickThree.calls k _ _ _ _ _ A7.out) | with_reducible exact laws_FnFaces.ext _ (impl_StickThree.calls k _ _ _ _ _ A8.out)))
                (with_reducible refine laws_FnFaces.want (by rw [hops.out]; first | rfl | kernel_rfl | go_simp) ?_; dsimp only; quiet_step (first | with_reducible exact laws_FnFaces.ext _ (impl_StickThree.calls k _ _ _ _ _ A6.out) | with_reducible exact laws_FnFaces.ext _ (impl_StickThree.calls k _ _ _ _ _ A7.out) | with_reducible exact laws_FnFaces.ext _ (impl_StickThree.calls k _ _ _ _ _ A8.out)))
                (with_reducible refine laws_FnFaces.want (by rw [hops.out]; first | rfl | kernel_rfl | go_simp) ?_; dsimp only; quiet_step (first | with_reducible exact laws_FnFaces.ext _ (impl_StickThree.calls k _ _ _ _ _ A6.out) | with_reducible exact laws_FnFaces.ext _ (impl_StickThree.calls k _ _ _ _ _ A7.out) | with_reducible exact laws_FnFaces.ext _ (impl_StickThree.calls k _ _ _ _ _ A8.out)))
                (with_reducible refine laws_FnFaces.want (by rw [hops.out]; first | rfl | kernel_rfl | go_simp) ?_; dsimp only; quiet_step (first | with_reducible exact laws_FnFaces.ext _ (impl_StickThree.calls k _ _ _ _ _ A6.out) | with_reducible exact laws_FnFaces.ext _ (impl_StickThree.calls k _ _ _ _ _ A7.out) | with_reducible exact laws_FnFaces.ext _ (impl_StickThree.calls k _ _ _ _ _ A8.out)))
                (with_reducible refine laws_FnFaces.want (by rw [hops.out]; first | rfl | kernel_rfl | go_simp) ?_; dsimp only; quiet_step (first | with_reducible exact laws_FnFaces.ext _ (impl_StickThree.calls k _ _ _ _ _ A6.out) | with_reducible exact laws_FnFaces.ext _ (impl_StickThree.calls k _ _ _ _ _ A7.out) | with_reducible exact laws_FnFaces.ext _ (impl_StickThree.calls k _ _ _ _ _ A8.out)))
                (with_reducible refine laws_FnFaces.want (by rw [hops.out]; first | rfl | kernel_rfl | go_simp) ?_; dsimp only; quiet_step (first | with_reducible exact laws_FnFaces.ext _ (impl_StickThree.calls k _ _ _ _ _ A6.out) | with_reducible exact laws_FnFaces.ext _ (impl_StickThree.calls k _ _ _ _ _ A7.out) | with_reducible exact laws_FnFaces.ext _ (impl_StickThree.calls k _ _ _ _ _ A8.out)))
                (refine laws_FnFaces.mv (v := .bool true) (by rfl) (fun _ _ => ⟨rfl, rfl⟩) ?_; simp only [Act.put, List.setIfInBounds_toArray, List.set_cons_zero, List.set_cons_succ])
                (refine laws_FnFaces.mv (v := .bool true) (by rfl) (fun _ _ => ⟨rfl, rfl⟩) ?_; simp only [Act.put, List.setIfInBounds_toArray, List.set_cons_zero, List.set_cons_succ])
                (with_reducible refine laws_FnFaces.want (by rw [hops.out]; first | rfl | kernel_rfl | go_simp) ?_; dsimp only; quiet_step (first | with_reducible exact laws_FnFaces.ext _ (impl_StickThree.calls k _ _ _ _ _ A6.out) | with_reducible exact laws_FnFaces.ext _ (impl_StickThree.calls k _ _ _ _ _ A7.out) | with_reducible exact laws_FnFaces.ext _ (impl_StickThree.calls k _ _ _ _ _ A8.out)))
                (with_reducible refine laws_FnFaces.want (by rw [hops.out]; first | rfl | kernel_rfl | go_simp) ?_; dsimp only; quiet_step (first | with_reducible exact laws_FnFaces.ext _ (impl_StickThree.calls k _ _ _ _ _ A6.out) | with_reducible exact laws_FnFaces.ext _ (impl_StickThree.calls k _ _ _ _ _ A7.out) | with_reducible exact laws_FnFaces.ext _ (impl_StickThree.calls k _ _ _ _ _ A8.out)))
                (with_reducible refine laws_FnFaces.want (by rw [hops.out]; first | rfl | kernel_rfl | go_simp) ?_; dsimp only; quiet_step (first | with_reducible exact laws_FnFaces.ext _ (impl_StickThree.calls k _ _ _ _ _ A6.out) | with_reducible exact laws_FnFaces.ext _ (impl_StickThree.calls k _ _ _ _ _ A7.out) | with_reducible exact laws_FnFaces.ext _ (impl_StickThree.calls k _ _ _ _ _ A8.out)))
                (with_reducible refine laws_FnFaces.want (by rw [hops.out]; first | rfl | kernel_rfl | go_simp) ?_; dsimp only; quiet_step (first | with_reducible exact laws_FnFaces.ext _ (impl_StickThree.calls k _ _ _ _ _ A6.out) | with_reducible exact laws_FnFaces.ext _ (impl_StickThree.calls k _ _ _ _ _ A7.out) | with_reducible exact laws_FnFaces.ext _ (impl_StickThree.calls k _ _ _ _ _ A8.out)))
                (with_reducible refine laws_FnFaces.want (by rw [hops.out]; first | rfl | kernel_rfl | go_simp) ?_; dsimp only; quiet_step (first | with_reducible exact laws_FnFaces.ext _ (impl_StickThree.calls k _ _ _ _ _ A6.out) | with_reducible exact laws_FnFaces.ext _ (impl_StickThree.calls k _ _ _ _ _ A7.out) | with_reducible exact laws_FnFaces.ext _ (impl_StickThree.calls k _ _ _ _ _ A8.out)))
                (with_reducible refine laws_FnFaces.want (by rw [hops.out]; first | rfl | kernel_rfl | go_simp) ?_; dsimp only; quiet_step (first | with_reducible exact laws_FnFaces.ext _ (impl_StickThree.calls k _ _ _ _ _ A6.out) | with_reducible exact laws_FnFaces.ext _ (impl_StickThree.calls k _ _ _ _ _ A7.out) | with_reducible exact laws_FnFaces.ext _ (impl_StickThree.calls k _ _ _ _ _ A8.out)))
                (with_reducible refine laws_FnFaces.want (by rw [hops.out]; first | rfl | kernel_rfl | go_simp) ?_; dsimp only; quiet_step (first | with_reducible exact laws_FnFaces.ext _ (impl_StickThree.calls k _ _ _ _ _ A6.out) | with_reducible exact laws_FnFaces.ext _ (impl_StickThree.calls k _ _ _ _ _ A7.out) | with_reducible exact laws_FnFaces.ext _ (impl_StickThree.calls k _ _ _ _ _ A8.out)))
                (with_reducible refine laws_FnFaces.want (by rw [hops.out]; first | rfl | kernel_rfl | go_simp) ?_; dsimp only; quiet_step (first | with_reducible exact laws_FnFaces.ext _ (impl_StickThree.calls k _ _ _ _ _ A6.out) | with_reducible exact laws_FnFaces.ext _ (impl_StickThree.calls k _ _ _ _ _ A7.out) | with_reducible exact laws_FnFaces.ext _ (impl_StickThree.calls k _ _ _ _ _ A8.out)))
                (with_reducible refine laws_FnFaces.want (by rw [hops.out]; first | rfl | kernel_rfl | go_simp) ?_; dsimp only; quiet_step (first | with_reducible exact laws_FnFaces.ext _ (impl_StickThree.calls k _ _ _ _ _ A6.out) | with_reducible exact laws_FnFaces.ext _ (impl_StickThree.calls k _ _ _ _ _ A7.out) | with_reducible exact laws_FnFaces.ext _ (impl_StickThree.calls k _ _ _ _ _ A8.out)))
                (with_reducible refine laws_FnFaces.want (by rw [hops.out]; first | rfl | kernel_rfl | go_simp) ?_; dsimp only; quiet_step (first | with_reducible exact laws_FnFaces.ext _ (impl_StickThree.calls k _ _ _ _ _ A6.out) | with_reducible exact laws_FnFaces.ext _ (impl_StickThree.calls k _ _ _ _ _ A7.out) | with_reducible exact laws_FnFaces.ext _ (impl_StickThree.calls k _ _ _ _ _ A8.out)))
                (refine laws_FnFaces.mv (v := .bool false) (by rfl) (fun _ _ => ⟨rfl, rfl⟩) ?_; simp only [Act.put, List.setIfInBounds_toArray, List.set_cons_zero, List.set_cons_succ])
                (refine laws_FnFaces.mv (v := .bool false) (by rfl) (fun _ _ => ⟨rfl, rfl⟩) ?_; simp only [Act.put, List.setIfInBounds_toArray, List.set_cons_zero, List.set_cons_succ])
                (with_reducible refine laws_FnFaces.skip (by rw [hops.out]; first | rfl | kernel_rfl | go_simp) ?_; simp only [Act.put, List.setIfInBounds_toArray, List.set_cons_zero, List.set_cons_succ])
                (with_reducible refine laws_FnFaces.skip (by rw [hops.out]; first | rfl | kernel_rfl | go_simp) ?_; simp only [Act.put, List.setIfInBounds_toArray, List.set_cons_zero, List.set_cons_succ])
                (with_reducible refine laws_FnFaces.skip (by rw [hops.out]; first | rfl | kernel_rfl | go_simp) ?_; simp only [Act.put, List.setIfInBounds_toArray, List.set_cons_zero, List.set_cons_succ])
                (with_reducible refine laws_FnFaces.skip (by rw [hops.out]; first | rfl | kernel_rfl | go_simp) ?_; simp only [Act.put, List.setIfInBounds_toArray, List.set_cons_zero, List.set_cons_succ])
                (with_reducible refine laws_FnFaces.skip (by rw [hops.out]; first | rfl | kernel_rfl | go_simp) ?_; simp only [Act.put, List.setIfInBounds_toArray, List.set_cons_zero, List.set_cons_succ])
                (with_reducible refine laws_FnFaces.skip (by rw [hops.out]; first | rfl | kernel_rfl | go_simp) ?_; simp only [Act.put, List.setIfInBounds_toArray, List.set_cons_zero, List.set_cons_succ])
                (with_reducible refine laws_FnFaces.skip (by rw [hops.out]; first | rfl | kernel_rfl | go_simp) ?_; simp only [Act.put, List.setIfInBounds_toArray, List.set_cons_zero, List.set_cons_succ])
                (with_reducible refine laws_FnFaces.skip (by rw [hops.out]; first | rfl | kernel_rfl | go_simp) ?_; simp only [Act.put, List.setIfInBounds_toArray, List.set_cons_zero, List.set_cons_succ])
                (with_reducible refine laws_FnFaces.skip (by rw [hops.out]; first | rfl | kernel_rfl | go_simp) ?_; simp only [Act.put, List.setIfInBounds_toArray, List.set_cons_zero, List.set_cons_succ])
                (with_reducible refine laws_FnFaces.skip (by rw [hops.out]; first | rfl | kernel_rfl | go_simp) ?_; simp only [Act.put, List.setIfInBounds_toArray, List.set_cons_zero, List.set_cons_succ])
                (refine laws_FnFaces.mv (v := .bool false) (by rfl) (fun _ _ => ⟨rfl, rfl⟩) ?_; simp only [Act.put, List.setIfInBounds_toArray, List.set_cons_zero, List.set_cons_succ])
                (refine laws_FnFaces.mv (v := .bool false) (by rfl) (fun _ _ => ⟨rfl, rfl⟩) ?_; simp only [Act.put, List.setIfInBounds_toArray, List.set_cons_zero, List.set_cons_succ])
                refine wpQuiet_nil ?_
                intro _ hw'
                obtain ⟨⟨wq, hq⟩, hw''⟩ := hw'
                subst hw''
                go_wp2
                go_ret
                exact ⟨by first | rfl | (show Ending.returned (Value.bool (!(n1 == 4))) = _; rw [beq_eq_false_iff_ne.2 (fun e => by rw [hn4] at e; exact e)]; rfl), B1.out.trans (hq.mono B1.out.size)⟩
              | true =>
                cases b4 with
                | false =>
                  have hn4 : (n1 = 4) = False := eq_false (by simpa using hd)
                  clear hd
                  go_enter Try.func3, Try.ntmps3
                  go_wp2_with fail
                  refine (spec_DrawSolidFaces.calls k A0 c0 l0 s w HR0.out hc0 A1.out).mono ?_
                  rintro e w1 ⟨v1, rfl, hS, hB1⟩
                  obtain ⟨As, cs, rfl, hcs, hCs⟩ := laws_FnFaces.R_reads hS
                  have B1 := Aside0.mk hB1
                  have HC := Aside0.mk hCs
                  have cA := impl_SolidFaces.calls k As cs s n1 true w1 hCs hcs A2.out
                  clear hS hB1 hCs
                  go_wp2_with fail
                  refine cA.mono ?_
                  rintro e w2 ⟨rfl, hB2⟩
                  clear cA
                  have B2 := Aside0.mk hB2
                  have cB := spec_SolidFaces.calls k As cs s n1 true w2 (Kd.C_below HC.out hB2) hcs A3.out
                  clear hB2
                  go_wp2_with fail
                  refine cB.mono ?_
                  rintro e w3 ⟨rfl, hB3⟩
                  clear cB
                  have B3 := Aside0.mk (below_step B2.out hB3)
                  clear hB3 B2
                  have cC := impl_SolidFirst.calls k As cs s x1 true w3 (Kd.C_below HC.out B3.out) hcs A4.out
                  go_wp2_with fail
                  refine cC.mono ?_
                  rintro e w4 ⟨v4, rfl, hX, hB4⟩
                  clear cC
                  obtain ⟨Ax, cx, rfl, hcx, hCx⟩ := laws_FnFaces.R_reads hX
                  have B4 := Aside0.mk (below_step B3.out hB4)
                  have cD := impl_SolidFaces.calls k Ax cx x1 n1 true w4 hCx hcx A5.out
                  clear hX hB4 hCx B3
                  go_wp2_with fail
                  refine cD.mono ?_
                  rintro e w5 ⟨rfl, hB5⟩
                  clear cD
                  have B5 := Aside0.mk (below_step B4.out hB5)
                  clear hB5 B4
                  obtain ⟨ad0, ea0, hw0⟩ := Kd.at_int HC.out 0 (by omega) (by omega)
                  subst ea0
                  obtain ⟨ad1, ea1, hw1⟩ := Kd.at_int HC.out 1 (by omega) (by omega)
                  obtain rfl : ad0 = ad1 := by injection ea1
                  obtain ⟨ad2, ea2, hw2⟩ := Kd.at_int HC.out 2 (by omega) (by omega)
                  obtain rfl : ad0 = ad2 := by injection ea2
                  obtain ⟨ad3, ea3, hw3⟩ := Kd.at_int HC.out 3 (by omega) (by omega)
                  obtain rfl : ad0 = ad3 := by injection ea3
                  obtain ⟨ad4, ea4, hw4⟩ := Kd.at_int HC.out 4 (by omega) (by omega)
                  obtain rfl : ad0 = ad4 := by injection ea4
                  obtain ⟨ad5, ea5, hw5⟩ := Kd.at_int HC.out 5 (by omega) (by omega)
                  obtain rfl : ad0 = ad5 := by injection ea5
                  have hl0 : ∀ p : laws_FnFaces.Ext w1.heap.size w1, p.w.cell? ad0 = some (.int .i64 (rd s 0)) := fun p => by
                    have h := (p.h.cell (World.block_lt_of_cell? w1 _ hw0)).trans hw0
                    simpa [Go.Addr.add] using h
                  have qa0 : (0 < (s.length : Int)) = True := eq_true (by omega)
                  have qb0 : (0 < s.length) = True := eq_true (by omega)
                  have hl1 : ∀ p : laws_FnFaces.Ext w1.heap.size w1, p.w.cell? ⟨ad0.block, ad0.off + 1, none⟩ = some (.int .i64 (rd s 1)) := fun p => by
                    have h := (p.h.cell (World.block_lt_of_cell? w1 _ hw1)).trans hw1
                    simpa [Go.Addr.add] using h
                  have qa1 : (1 < (s.length : Int)) = True := eq_true (by omega)
                  have qb1 : (1 < s.length) = True := eq_true (by omega)
                  have hl2 : ∀ p : laws_FnFaces.Ext w1.heap.size w1, p.w.cell? ⟨ad0.block, ad0.off + 2, none⟩ = some (.int .i64 (rd s 2)) := fun p => by
                    have h := (p.h.cell (World.block_lt_of_cell? w1 _ hw2)).trans hw2
                    simpa [Go.Addr.add] using h
                  have qa2 : (2 < (s.length : Int)) = True := eq_true (by omega)
                  have qb2 : (2 < s.length) = True := eq_true (by omega)
                  have hl3 : ∀ p : laws_FnFaces.Ext w1.heap.size w1, p.w.cell? ⟨ad0.block, ad0.off + 3, none⟩ = some (.int .i64 (rd s 3)) := fun p => by
                    have h := (p.h.cell (World.block_lt_of_cell? w1 _ hw3)).trans hw3
                    simpa [Go.Addr.add] using h
                  have qa3 : (3 < (s.length : Int)) = True := eq_true (by omega)
                  have qb3 : (3 < s.length) = True := eq_true (by omega)
                  have hl4 : ∀ p : laws_FnFaces.Ext w1.heap.size w1, p.w.cell? ⟨ad0.block, ad0.off + 4, none⟩ = some (.int .i64 (rd s 4)) := fun p => by
                    have h := (p.h.cell (World.block_lt_of_cell? w1 _ hw4)).trans hw4
                    simpa [Go.Addr.add] using h
                  have qa4 : (4 < (s.length : Int)) = True := eq_true (by omega)
                  have qb4 : (4 < s.length) = True := eq_true (by omega)
                  have hl5 : ∀ p : laws_FnFaces.Ext w1.heap.size w1, p.w.cell? ⟨ad0.block, ad0.off + 5, none⟩ = some (.int .i64 (rd s 5)) := fun p => by
                    have h := (p.h.cell (World.block_lt_of_cell? w1 _ hw5)).trans hw5
                    simpa [Go.Addr.add] using h
                  have qa5 : (5 < (s.length : Int)) = True := eq_true (by omega)
                  have qb5 : (5 < s.length) = True := eq_true (by omega)
                  clear hw0 hw1 hw2 hw3 hw4 hw5
                  go_wp2_with fail
                  refine laws_FnFaces.quiet (W := w1) (B := w1.heap.size) (by kernel_rfl) (by kernel_rfl) B5.out (fun ops hops_ => ?_)
                  have hops := Aside0.mk hops_
                  clear hops_
                  (quiet_step (first | with_reducible exact laws_FnFaces.ext _ (impl_StickThree.calls k _ _ _ _ _ A6.out) | with_reducible exact laws_FnFaces.ext _ (impl_StickThree.calls k _ _ _ _ _ A7.out) | with_reducible exact laws_FnFaces.ext _ (impl_StickThree.calls k _ _ _ _ _ A8.out) | with_reducible exact laws_FnFaces.ext _ (impl_StickThree.calls k _ _ _ _ _ A9.out)))
                  (quiet_step (first | with_reducible exact laws_FnFaces.ext _ (impl_StickThree.calls k _ _ _ _ _ A6.out) | with_reducible exact laws_FnFaces.ext _ (impl_StickThree.calls k _ _ _ _ _ A7.out) | with_reducible exact laws_FnFaces.ext _ (impl_StickThree.calls k _ _ _ _ _ A8.out) | with_reducible exact laws_FnFaces.ext _ (impl_StickThree.calls k _ _ _ _ _ A9.out)))
                  (quiet_step (first | with_reducible exact laws_FnFaces.ext _ (impl_StickThree.calls k _ _ _ _ _ A6.out) | with_reducible exact laws_FnFaces.ext _ (impl_StickThree.calls k _ _ _ _ _ A7.out) | with_reducible exact laws_FnFaces.ext _ (impl_StickThree.calls k _ _ _ _ _ A8.out) | with_reducible exact laws_FnFaces.ext _ (impl_StickThree.calls k _ _ _ _ _ A9.out)))
                  (quiet_step (first | with_reducible exact laws_FnFaces.ext _ (impl_StickThree.calls k _ _ _ _ _ A6.out) | with_reducible exact laws_FnFaces.ext _ (impl_StickThree.calls k _ _ _ _ _ A7.out) | with_reducible exact laws_FnFaces.ext _ (impl_StickThree.calls k _ _ _ _ _ A8.out) | with_reducible exact laws_FnFaces.ext _ (impl_StickThree.calls k _ _ _ _ _ A9.out)))
                  (quiet_step (first | with_reducible exact laws_FnFaces.ext _ (impl_StickThree.calls k _ _ _ _ _ A6.out) | with_reducible exact laws_FnFaces.ext _ (impl_StickThree.calls k _ _ _ _ _ A7.out) | with_reducible exact laws_FnFaces.ext _ (impl_StickThree.calls k _ _ _ _ _ A8.out) | with_reducible exact laws_FnFaces.ext _ (impl_StickThree.calls k _ _ _ _ _ A9.out)))
                  (quiet_step (first | with_reducible exact laws_FnFaces.ext _ (impl_StickThree.calls k _ _ _ _ _ A6.out) | with_reducible exact laws_FnFaces.ext _ (impl_StickThree.calls k _ _ _ _ _ A7.out) | with_reducible exact laws_FnFaces.ext _ (impl_StickThree.calls k _ _ _ _ _ A8.out) | with_reducible exact laws_FnFaces.ext _ (impl_StickThree.calls k _ _ _ _ _ A9.out)))
                  (quiet_step (first | with_reducible exact laws_FnFaces.ext _ (impl_StickThree.calls k _ _ _ _ _ A6.out) | with_reducible exact laws_FnFaces.ext _ (impl_StickThree.calls k _ _ _ _ _ A7.out) | with_reducible exact laws_FnFaces.ext _ (impl_StickThree.calls k _ _ _ _ _ A8.out) | with_reducible exact laws_FnFaces.ext _ (impl_StickThree.calls k _ _ _ _ _ A9.out)))
                  (quiet_step (first | with_reducible exact laws_FnFaces.ext _ (impl_StickThree.calls k _ _ _ _ _ A6.out) | with_reducible exact laws_FnFaces.ext _ (impl_StickThree.calls k _ _ _ _ _ A7.out) | with_reducible exact laws_FnFaces.ext _ (impl_StickThree.calls k _ _ _ _ _ A8.out) | with_reducible exact laws_FnFaces.ext _ (impl_StickThree.calls k _ _ _ _ _ A9.out)))
                  (quiet_step (first | with_reducible exact laws_FnFaces.ext _ (impl_StickThree.calls k _ _ _ _ _ A6.out) | with_reducible exact laws_FnFaces.ext _ (impl_StickThree.calls k _ _ _ _ _ A7.out) | with_reducible exact laws_FnFaces.ext _ (impl_StickThree.calls k _ _ _ _ _ A8.out) | with_reducible exact laws_FnFaces.ext _ (impl_StickThree.calls k _ _ _ _ _ A9.out)))
                  (quiet_step (first | with_reducible exact laws_FnFaces.ext _ (impl_StickThree.calls k _ _ _ _ _ A6.out) | with_reducible exact laws_FnFaces.ext _ (impl_StickThree.calls k _ _ _ _ _ A7.out) | with_reducible exact laws_FnFaces.ext _ (impl_StickThree.calls k _ _ _ _ _ A8.out) | with_reducible exact laws_FnFaces.ext _ (impl_StickThree.calls k _ _ _ _ _ A9.out)))
                  (refine laws_FnFaces.mv (v := .bool true) (by rfl) (fun _ _ => ⟨rfl, rfl⟩) ?_; simp only [Act.put, List.setIfInBounds_toArray, List.set_cons_zero, List.set_cons_succ])
                  (with_reducible refine laws_FnFaces.want (by rw [hops.out]; first | rfl | kernel_rfl | go_simp) ?_; dsimp only; quiet_step (first | with_reducible exact laws_FnFaces.ext _ (impl_StickThree.calls k _ _ _ _ _ A6.out) | with_reducible exact laws_FnFaces.ext _ (impl_StickThree.calls k _ _ _ _ _ A7.out) | with_reducible exact laws_FnFaces.ext _ (impl_StickThree.calls k _ _ _ _ _ A8.out) | with_reducible exact laws_FnFaces.ext _ (impl_StickThree.calls k _ _ _ _ _ A9.out)))
                  (with_reducible refine laws_FnFaces.want (by rw [hops.out]; first | rfl | kernel_rfl | go_simp) ?_; dsimp only; quiet_step (first | with_reducible exact laws_FnFaces.ext _ (impl_StickThree.calls k _ _ _ _ _ A6.out) | with_reducible exact laws_FnFaces.ext _ (impl_StickThree.calls k _ _ _ _ _ A7.out) | with_reducible exact laws_FnFaces.ext _ (impl_StickThree.calls k _ _ _ _ _ A8.out) | with_reducible exact laws_FnFaces.ext _ (impl_StickThree.calls k _ _ _ _ _ A9.out)))
                  (with_reducible refine laws_FnFaces.want (by rw [hops.out]; first | rfl | kernel_rfl | go_simp) ?_; dsimp only; quiet_step (first | with_reducible exact laws_FnFaces.ext _ (impl_StickThree.calls k _ _ _ _ _ A6.out) | with_reducible exact laws_FnFaces.ext _ (impl_StickThree.calls k _ _ _ _ _ A7.out) | with_reducible exact laws_FnFaces.ext _ (impl_StickThree.calls k _ _ _ _ _ A8.out) | with_reducible exact laws_FnFaces.ext _ (impl_StickThree.calls k _ _ _ _ _ A9.out)))
                  (with_reducible refine laws_FnFaces.want (by rw [hops.out]; first | rfl | kernel_rfl | go_simp) ?_; dsimp only; quiet_step (first | with_reducible exact laws_FnFaces.ext _ (impl_StickThree.calls k _ _ _ _ _ A6.out) | with_reducible exact laws_FnFaces.ext _ (impl_StickThree.calls k _ _ _ _ _ A7.out) | with_reducible exact laws_FnFaces.ext _ (impl_StickThree.calls k _ _ _ _ _ A8.out) | with_reducible exact laws_FnFaces.ext _ (impl_StickThree.calls k _ _ _ _ _ A9.out)))
                  (with_reducible refine laws_FnFaces.want (by rw [hops.out]; first | rfl | kernel_rfl | go_simp) ?_; dsimp only; quiet_step (first | with_reducible exact laws_FnFaces.ext _ (impl_StickThree.calls k _ _ _ _ _ A6.out) | with_reducible exact laws_FnFaces.ext _ (impl_StickThree.calls k _ _ _ _ _ A7.out) | with_reducible exact laws_FnFaces.ext _ (impl_StickThree.calls k _ _ _ _ _ A8.out) | with_reducible exact laws_FnFaces.ext _ (impl_StickThree.calls k _ _ _ _ _ A9.out)))
                  (with_reducible refine laws_FnFaces.want (by rw [hops.out]; first | rfl | kernel_rfl | go_simp) ?_; dsimp only; quiet_step (first | with_reducible exact laws_FnFaces.ext _ (impl_StickThree.calls k _ _ _ _ _ A6.out) | with_reducible exact laws_FnFaces.ext _ (impl_StickThree.calls k _ _ _ _ _ A7.out) | with_reducible exact laws_FnFaces.ext _ (impl_StickThree.calls k _ _ _ _ _ A8.out) | with_reducible exact laws_FnFaces.ext _ (impl_StickThree.calls k _ _ _ _ _ A9.out)))
                  (with_reducible refine laws_FnFaces.want (by rw [hops.out]; first | rfl | kernel_rfl | go_simp) ?_; dsimp only; quiet_step (first | with_reducible exact laws_FnFaces.ext _ (impl_StickThree.calls k _ _ _ _ _ A6.out) | with_reducible exact laws_FnFaces.ext _ (impl_StickThree.calls k _ _ _ _ _ A7.out) | with_reducible exact laws_FnFaces.ext _ (impl_StickThree.calls k _ _ _ _ _ A8.out) | with_reducible exact laws_FnFaces.ext _ (impl_StickThree.calls k _ _ _ _ _ A9.out)))
                  (with_reducible refine laws_FnFaces.want (by rw [hops.out]; first | rfl | kernel_rfl | go_simp) ?_; dsimp only; quiet_step (first | with_reducible exact laws_FnFaces.ext _ (impl_StickThree.calls k _ _ _ _ _ A6.out) | with_reducible exact laws_FnFaces.ext _ (impl_StickThree.calls k _ _ _ _ _ A7.out) | with_reducible exact laws_FnFaces.ext _ (impl_StickThree.calls k _ _ _ _ _ A8.out) | with_reducible exact laws_FnFaces.ext _ (impl_StickThree.calls k _ _ _ _ _ A9.out)))
                  (with_reducible refine laws_FnFaces.want (by rw [hops.out]; first | rfl | kernel_rfl | go_simp) ?_; dsimp only; quiet_step (first | with_reducible exact laws_FnFaces.ext _ (impl_StickThree.calls k _ _ _ _ _ A6.out) | with_reducible exact laws_FnFaces.ext _ (impl_StickThree.calls k _ _ _ _ _ A7.out) | with_reducible exact laws_FnFaces.ext _ (impl_StickThree.calls k _ _ _ _ _ A8.out) | with_reducible exact laws_FnFaces.ext _ (impl_StickThree.calls k _ _ _ _ _ A9.out)))
                  (with_reducible refine laws_FnFaces.want (by rw [hops.out]; first | rfl | kernel_rfl | go_simp) ?_; dsimp only; quiet_step (first | with_reducible exact laws_FnFaces.ext _ (impl_StickThree.calls k _ _ _ _ _ A6.out) | with_reducible exact laws_FnFaces.ext _ (impl_StickThree.calls k _ _ _ _ _ A7.out) | with_reducible exact laws_FnFaces.ext _ (impl_StickThree.calls k _ _ _ _ _ A8.out) | with_reducible exact laws_FnFaces.ext _ (impl_StickThree.calls k _ _ _ _ _ A9.out)))
                  (refine laws_FnFaces.mv (v := .bool true) (by rfl) (fun _ _ => ⟨rfl, rfl⟩) ?_; simp only [Act.put, List.setIfInBounds_toArray, List.set_cons_zero, List.set_cons_succ])
                  (refine laws_FnFaces.mv (v := .bool true) (by rfl) (fun _ _ => ⟨rfl, rfl⟩) ?_; simp only [Act.put, List.setIfInBounds_toArray, List.set_cons_zero, List.set_cons_succ])
                  (with_reducible refine laws_FnFaces.want (by rw [hops.out]; first | rfl | kernel_rfl | go_simp) ?_; dsimp only; quiet_step (first | with_reducible exact laws_FnFaces.ext _ (impl_StickThree.calls k _ _ _ _ _ A6.out) | with_reducible exact laws_FnFaces.ext _ (impl_StickThree.calls k _ _ _ _ _ A7.out) | with_reducible exact laws_FnFaces.ext _ (impl_StickThree.calls k _ _ _ _ _ A8.out) | with_reducible exact laws_FnFaces.ext _ (impl_StickThree.calls k _ _ _ _ _ A9.out)))
                  (with_reducible refine laws_FnFaces.want (by rw [hops.out]; first | rfl | kernel_rfl | go_simp) ?_; dsimp only; quiet_step (first | with_reducible exact laws_FnFaces.ext _ (impl_StickThree.calls k _ _ _ _ _ A6.out) | with_reducible exact laws_FnFaces.ext _ (impl_StickThree.calls k _ _ _ _ _ A7.out) | with_reducible exact laws_FnFaces.ext _ (impl_StickThree.calls k _ _ _ _ _ A8.out) | with_reducible exact laws_FnFaces.ext _ (impl_StickThree.calls k _ _ _ _ _ A9.out)))
                  (with_reducible refine laws_FnFaces.want (by rw [hops.out]; first | rfl | kernel_rfl | go_simp) ?_; dsimp only; quiet_step (first | with_reducible exact laws_FnFaces.ext _ (impl_StickThree.calls k _ _ _ _ _ A6.out) | with_reducible exact laws_FnFaces.ext _ (impl_StickThree.calls k _ _ _ _ _ A7.out) | with_reducible exact laws_FnFaces.ext _ (impl_StickThree.calls k _ _ _ _ _ A8.out) | with_reducible exact laws_FnFaces.ext _ (impl_StickThree.calls k _ _ _ _ _ A9.out)))
                  (with_reducible refine laws_FnFaces.want (by rw [hops.out]; first | rfl | kernel_rfl | go_simp) ?_; dsimp only; quiet_step (first | with_reducible exact laws_FnFaces.ext _ (impl_StickThree.calls k _ _ _ _ _ A6.out) | with_reducible exact laws_FnFaces.ext _ (impl_StickThree.calls k _ _ _ _ _ A7.out) | with_reducible exact laws_FnFaces.ext _ (impl_StickThree.calls k _ _ _ _ _ A8.out) | with_reducible exact laws_FnFaces.ext _ (impl_StickThree.calls k _ _ _ _ _ A9.out)))
                  (with_reducible refine laws_FnFaces.want (by rw [hops.out]; first | rfl | kernel_rfl | go_simp) ?_; dsimp only; quiet_step (first | with_reducible exact laws_FnFaces.ext _ (impl_StickThree.calls k _ _ _ _ _ A6.out) | with_reducible exact laws_FnFaces.ext _ (impl_StickThree.calls k _ _ _ _ _ A7.out) | with_reducible exact laws_FnFaces.ext _ (impl_StickThree.calls k _ _ _ _ _ A8.out) | with_reducible exact laws_FnFaces.ext _ (impl_StickThree.calls k _ _ _ _ _ A9.out)))
                  (with_reducible refine laws_FnFaces.want (by rw [hops.out]; first | rfl | kernel_rfl | go_simp) ?_; dsimp only; quiet_step (first | with_reducible exact laws_FnFaces.ext _ (impl_StickThree.calls k _ _ _ _ _ A6.out) | with_reducible exact laws_FnFaces.ext _ (impl_StickThree.calls k _ _ _ _ _ A7.out) | with_reducible exact laws_FnFaces.ext _ (impl_StickThree.calls k _ _ _ _ _ A8.out) | with_reducible exact laws_FnFaces.ext _ (impl_StickThree.calls k _ _ _ _ _ A9.out)))
                  (with_reducible refine laws_FnFaces.want (by rw [hops.out]; first | rfl | kernel_rfl | go_simp) ?_; dsimp only; quiet_step (first | with_reducible exact laws_FnFaces.ext _ (impl_StickThree.calls k _ _ _ _ _ A6.out) | with_reducible exact laws_FnFaces.ext _ (impl_StickThree.calls k _ _ _ _ _ A7.out) | with_reducible exact laws_FnFaces.ext _ (impl_StickThree.calls k _ _ _ _ _ A8.out) | with_reducible exact laws_FnFaces.ext _ (impl_StickThree.calls k _ _ _ _ _ A9.out)))
                  (with_reducible refine laws_FnFaces.want (by rw [hops.out]; first | rfl | kernel_rfl | go_simp) ?_; dsimp only; quiet_step (first | with_reducible exact laws_FnFaces.ext _ (impl_StickThree.calls k _ _ _ _ _ A6.out) | with_reducible exact laws_FnFaces.ext _ (impl_StickThree.calls k _ _ _ _ _ A7.out) | with_reducible exact laws_FnFaces.ext _ (impl_StickThree.calls k _ _ _ _ _ A8.out) | with_reducible exact laws_FnFaces.ext _ (impl_StickThree.calls k _ _ _ _ _ A9.out)))
                  (with_reducible refine laws_FnFaces.want (by rw [hops.out]; first | rfl | kernel_rfl | go_simp) ?_; dsimp only; quiet_step (first | with_reducible exact laws_FnFaces.ext _ (impl_StickThree.calls k _ _ _ _ _ A6.out) | with_reducible exact laws_FnFaces.ext _ (impl_StickThree.calls k _ _ _ _ _ A7.out) | with_reducible exact laws_FnFaces.ext _ (impl_StickThree.calls k _ _ _ _ _ A8.out) | with_reducible exact laws_FnFaces.ext _ (impl_StickThree.calls k _ _ _ _ _ A9.out)))
                  (with_reducible refine laws_FnFaces.want (by rw [hops.out]; first | rfl | kernel_rfl | go_simp) ?_; dsimp only; quiet_step (first | with_reducible exact laws_FnFaces.ext _ (impl_StickThree.calls k _ _ _ _ _ A6.out) | with_reducible exact laws_FnFaces.ext _ (impl_StickThree.calls k _ _ _ _ _ A7.out) | with_reducible exact laws_FnFaces.ext _ (impl_StickThree.calls k _ _ _ _ _ A8.out) | with_reducible exact laws_FnFaces.ext _ (impl_StickThree.calls k _ _ _ _ _ A9.out)))
                  (refine laws_FnFaces.mv (v := .bool true) (by rfl) (fun _ _ => ⟨rfl, rfl⟩) ?_; simp only [Act.put, List.setIfInBounds_toArray, List.set_cons_zero, List.set_cons_succ])
                  (refine laws_FnFaces.mv (v := .bool true) (by rfl) (fun _ _ => ⟨rfl, rfl⟩) ?_; simp only [Act.put, List.setIfInBounds_toArray, List.set_cons_zero, List.set_cons_succ])
                  (with_reducible refine laws_FnFaces.want (by rw [hops.out]; first | rfl | kernel_rfl | go_simp) ?_; dsimp only; quiet_step (first | with_reducible exact laws_FnFaces.ext _ (impl_StickThree.calls k _ _ _ _ _ A6.out) | with_reducible exact laws_FnFaces.ext _ (impl_StickThree.calls k _ _ _ _ _ A7.out) | with_reducible exact laws_FnFaces.ext _ (impl_StickThree.calls k _ _ _ _ _ A8.out) | with_reducible exact laws_FnFaces.ext _ (impl_StickThree.calls k _ _ _ _ _ A9.out)))
                  (with_reducible refine laws_FnFaces.want (by rw [hops.out]; first | rfl | kernel_rfl | go_simp) ?_; dsimp only; quiet_step (first | with_reducible exact laws_FnFaces.ext _ (impl_StickThree.calls k _ _ _ _ _ A6.out) | with_reducible exact laws_FnFaces.ext _ (impl_StickThree.calls k _ _ _ _ _ A7.out) | with_reducible exact laws_FnFaces.ext _ (impl_StickThree.calls k _ _ _ _ _ A8.out) | with_reducible exact laws_FnFaces.ext _ (impl_StickThree.calls k _ _ _ _ _ A9.out)))
                  (with_reducible refine laws_FnFaces.want (by rw [hops.out]; first | rfl | kernel_rfl | go_simp) ?_; dsimp only; quiet_step (first | with_reducible exact laws_FnFaces.ext _ (impl_StickThree.calls k _ _ _ _ _ A6.out) | with_reducible exact laws_FnFaces.ext _ (impl_StickThree.calls k _ _ _ _ _ A7.out) | with_reducible exact laws_FnFaces.ext _ (impl_StickThree.calls k _ _ _ _ _ A8.out) | with_reducible exact laws_FnFaces.ext _ (impl_StickThree.calls k _ _ _ _ _ A9.out)))
                  (with_reducible refine laws_FnFaces.want (by rw [hops.out]; first | rfl | kernel_rfl | go_simp) ?_; dsimp only; quiet_step (first | with_reducible exact laws_FnFaces.ext _ (impl_StickThree.calls k _ _ _ _ _ A6.out) | with_reducible exact laws_FnFaces.ext _ (impl_StickThree.calls k _ _ _ _ _ A7.out) | with_reducible exact laws_FnFaces.ext _ (impl_StickThree.calls k _ _ _ _ _ A8.out) | with_reducible exact laws_FnFaces.ext _ (impl_StickThree.calls k _ _ _ _ _ A9.out)))
                  (with_reducible refine laws_FnFaces.want (by rw [hops.out]; first | rfl | kernel_rfl | go_simp) ?_; dsimp only; quiet_step (first | with_reducible exact laws_FnFaces.ext _ (impl_StickThree.calls k _ _ _ _ _ A6.out) | with_reducible exact laws_FnFaces.ext _ (impl_StickThree.calls k _ _ _ _ _ A7.out) | with_reducible exact laws_FnFaces.ext _ (impl_StickThree.calls k _ _ _ _ _ A8.out) | with_reducible exact laws_FnFaces.ext _ (impl_StickThree.calls k _ _ _ _ _ A9.out)))
                  (with_reducible refine laws_FnFaces.want (by rw [hops.out]; first | rfl | kernel_rfl | go_simp) ?_; dsimp only; quiet_step (first | with_reducible exact laws_FnFaces.ext _ (impl_StickThree.calls k _ _ _ _ _ A6.out) | with_reducible exact laws_FnFaces.ext _ (impl_StickThree.calls k _ _ _ _ _ A7.out) | with_reducible exact laws_FnFaces.ext _ (impl_StickThree.calls k _ _ _ _ _ A8.out) | with_reducible exact laws_FnFaces.ext _ (impl_StickThree.calls k _ _ _ _ _ A9.out)))
                  (with_reducible refine laws_FnFaces.want (by rw [hops.out]; first | rfl | kernel_rfl | go_simp) ?_; dsimp only; quiet_step (first | with_reducible exact laws_FnFaces.ext _ (impl_StickThree.calls k _ _ _ _ _ A6.out) | with_reducible exact laws_FnFaces.ext _ (impl_StickThree.calls k _ _ _ _ _ A7.out) | with_reducible exact laws_FnFaces.ext _ (impl_StickThree.calls k _ _ _ _ _ A8.out) | with_reducible exact laws_FnFaces.ext _ (impl_StickThree.calls k _ _ _ _ _ A9.out)))
                  (with_reducible refine laws_FnFaces.want (by rw [hops.out]; first | rfl | kernel_rfl | go_simp) ?_; dsimp only; quiet_step (first | with_reducible exact laws_FnFaces.ext _ (impl_StickThree.calls k _ _ _ _ _ A6.out) | with_reducible exact laws_FnFaces.ext _ (impl_StickThree.calls k _ _ _ _ _ A7.out) | with_reducible exact laws_FnFaces.ext _ (impl_StickThree.calls k _ _ _ _ _ A8.out) | with_reducible exact laws_FnFaces.ext _ (impl_StickThree.calls k _ _ _ _ _ A9.out)))
                  (with_reducible refine laws_FnFaces.want (by rw [hops.out]; first | rfl | kernel_rfl | go_simp) ?_; dsimp only; quiet_step (first | with_reducible exact laws_FnFaces.ext _ (impl_StickThree.calls k _ _ _ _ _ A6.out) | with_reducible exact laws_FnFaces.ext _ (impl_StickThree.calls k _ _ _ _ _ A7.out) | with_reducible exact laws_FnFaces.ext _ (impl_StickThree.calls k _ _ _ _ _ A8.out) | with_reducible exact laws_FnFaces.ext _ (impl_StickThree.calls k _ _ _ _ _ A9.out)))
                  (with_reducible refine laws_FnFaces.want (by rw [hops.out]; first | rfl | kernel_rfl | go_simp) ?_; dsimp only; quiet_step (first | with_reducible exact laws_FnFaces.ext _ (impl_StickThree.calls k _ _ _ _ _ A6.out) | with_reducible exact laws_FnFaces.ext _ (impl_StickThree.calls k _ _ _ _ _ A7.out) | with_reducible exact laws_FnFaces.ext _ (impl_StickThree.calls k _ _ _ _ _ A8.out) | with_reducible exact laws_FnFaces.ext _ (impl_StickThree.calls k _ _ _ _ _ A9.out)))
                  (refine laws_FnFaces.mv (v := .bool false) (by rfl) (fun _ _ => ⟨rfl, rfl⟩) ?_; simp only [Act.put, List.setIfInBounds_toArray, List.set_cons_zero, List.set_cons_succ])
                  (refine laws_FnFaces.mv (v := .bool false) (by rfl) (fun _ _ => ⟨rfl, rfl⟩) ?_; simp only [Act.put, List.setIfInBounds_toArray, List.set_cons_zero, List.set_cons_succ])
                  refine wpQuiet_nil ?_
                  intro _ hw'
                  obtain ⟨⟨wq, hq⟩, hw''⟩ := hw'
                  subst hw''
                  go_wp2
                  go_ret
                  exact ⟨by first | rfl | (show Ending.returned (Value.bool (!(n1 == 4))) = _; rw [beq_eq_false_iff_ne.2 (fun e => by rw [hn4] at e; exact e)]; rfl), B1.out.trans (hq.mono B1.out.size)⟩
                | true =>
                  have hn4 : n1 = 4 := by simpa using hd
                  subst hn4
                  clear hd
                  go_enter Try.func3, Try.ntmps3
                  go_wp2_with fail
                  refine (spec_DrawSolidFaces.calls k A0 c0 l0 s w HR0.out hc0 A1.out).mono ?_
                  rintro e w1 ⟨v1, rfl, hS, hB1⟩
                  obtain ⟨As, cs, rfl, hcs, hCs⟩ := laws_FnFaces.R_reads hS
                  have B1 := Aside0.mk hB1
                  have HC := Aside0.mk hCs
                  have cA := impl_SolidFaces.calls k As cs s 4 true w1 hCs hcs A2.out
                  clear hS hB1 hCs
                  go_wp2_with fail
                  refine cA.mono ?_
                  rintro e w2 ⟨rfl, hB2⟩
                  clear cA
                  have B2 := Aside0.mk hB2
                  have cB := spec_SolidFaces.calls k As cs s 4 true w2 (Kd.C_below HC.out hB2) hcs A3.out
                  clear hB2
                  go_wp2_with fail
                  refine cB.mono ?_
                  rintro e w3 ⟨rfl, hB3⟩
                  clear cB
                  have B3 := Aside0.mk (below_step B2.out hB3)
                  clear hB3 B2
                  have cC := impl_SolidFirst.calls k As cs s x1 true w3 (Kd.C_below HC.out B3.out) hcs A4.out
                  go_wp2_with fail
                  refine cC.mono ?_
                  rintro e w4 ⟨v4, rfl, hX, hB4⟩
                  clear cC
                  obtain ⟨Ax, cx, rfl, hcx, hCx⟩ := laws_FnFaces.R_reads hX
                  have B4 := Aside0.mk (below_step B3.out hB4)
                  have cD := impl_SolidFaces.calls k Ax cx x1 4 true w4 hCx hcx A5.out
                  clear hX hB4 hCx B3
                  go_wp2_with fail
                  refine cD.mono ?_
                  rintro e w5 ⟨rfl, hB5⟩
                  clear cD
                  have B5 := Aside0.mk (below_step B4.out hB5)
                  clear hB5 B4
                  obtain ⟨ad0, ea0, hw0⟩ := Kd.at_int HC.out 0 (by omega) (by omega)
                  subst ea0
                  obtain ⟨ad1, ea1, hw1⟩ := Kd.at_int HC.out 1 (by omega) (by omega)
                  obtain rfl : ad0 = ad1 := by injection ea1
                  obtain ⟨ad2, ea2, hw2⟩ := Kd.at_int HC.out 2 (by omega) (by omega)
                  obtain rfl : ad0 = ad2 := by injection ea2
                  obtain ⟨ad3, ea3, hw3⟩ := Kd.at_int HC.out 3 (by omega) (by omega)
                  obtain rfl : ad0 = ad3 := by injection ea3
                  obtain ⟨ad4, ea4, hw4⟩ := Kd.at_int HC.out 4 (by omega) (by omega)
                  obtain rfl : ad0 = ad4 := by injection ea4
                  obtain ⟨ad5, ea5, hw5⟩ := Kd.at_int HC.out 5 (by omega) (by omega)
                  obtain rfl : ad0 = ad5 := by injection ea5
                  have hl0 : ∀ p : laws_FnFaces.Ext w1.heap.size w1, p.w.cell? ad0 = some (.int .i64 (rd s 0)) := fun p => by
                    have h := (p.h.cell (World.block_lt_of_cell? w1 _ hw0)).trans hw0
                    simpa [Go.Addr.add] using h
                  have qa0 : (0 < (s.length : Int)) = True := eq_true (by omega)
                  have qb0 : (0 < s.length) = True := eq_true (by omega)
                  have hl1 : ∀ p : laws_FnFaces.Ext w1.heap.size w1, p.w.cell? ⟨ad0.block, ad0.off + 1, none⟩ = some (.int .i64 (rd s 1)) := fun p => by
                    have h := (p.h.cell (World.block_lt_of_cell? w1 _ hw1)).trans hw1
                    simpa [Go.Addr.add] using h
                  have qa1 : (1 < (s.length : Int)) = True := eq_true (by omega)
                  have qb1 : (1 < s.length) = True := eq_true (by omega)
                  have hl2 : ∀ p : laws_FnFaces.Ext w1.heap.size w1, p.w.cell? ⟨ad0.block, ad0.off + 2, none⟩ = some (.int .i64 (rd s 2)) := fun p => by
                    have h := (p.h.cell (World.block_lt_of_cell? w1 _ hw2)).trans hw2
                    simpa [Go.Addr.add] using h
                  have qa2 : (2 < (s.length : Int)) = True := eq_true (by omega)
                  have qb2 : (2 < s.length) = True := eq_true (by omega)
                  have hl3 : ∀ p : laws_FnFaces.Ext w1.heap.size w1, p.w.cell? ⟨ad0.block, ad0.off + 3, none⟩ = some (.int .i64 (rd s 3)) := fun p => by
                    have h := (p.h.cell (World.block_lt_of_cell? w1 _ hw3)).trans hw3
                    simpa [Go.Addr.add] using h
                  have qa3 : (3 < (s.length : Int)) = True := eq_true (by omega)
                  have qb3 : (3 < s.length) = True := eq_true (by omega)
                  have hl4 : ∀ p : laws_FnFaces.Ext w1.heap.size w1, p.w.cell? ⟨ad0.block, ad0.off + 4, none⟩ = some (.int .i64 (rd s 4)) := fun p => by
                    have h := (p.h.cell (World.block_lt_of_cell? w1 _ hw4)).trans hw4
                    simpa [Go.Addr.add] using h
                  have qa4 : (4 < (s.length : Int)) = True := eq_true (by omega)
                  have qb4 : (4 < s.length) = True := eq_true (by omega)
                  have hl5 : ∀ p : laws_FnFaces.Ext w1.heap.size w1, p.w.cell? ⟨ad0.block, ad0.off + 5, none⟩ = some (.int .i64 (rd s 5)) := fun p => by
                    have h := (p.h.cell (World.block_lt_of_cell? w1 _ hw5)).trans hw5
                    simpa [Go.Addr.add] using h
                  have qa5 : (5 < (s.length : Int)) = True := eq_true (by omega)
                  have qb5 : (5 < s.length) = True := eq_true (by omega)
                  clear hw0 hw1 hw2 hw3 hw4 hw5
                  go_wp2_with fail
                  refine laws_FnFaces.quiet (W := w1) (B := w1.heap.size) (by kernel_rfl) (by kernel_rfl) B5.out (fun ops hops_ => ?_)
                  have hops := Aside0.mk hops_
                  clear hops_
                  (quiet_step (first | with_reducible exact laws_FnFaces.ext _ (impl_StickThree.calls k _ _ _ _ _ A6.out) | with_reducible exact laws_FnFaces.ext _ (impl_StickThree.calls k _ _ _ _ _ A7.out) | with_reducible exact laws_FnFaces.ext _ (impl_StickThree.calls k _ _ _ _ _ A8.out) | with_reducible exact laws_FnFaces.ext _ (impl_StickThree.calls k _ _ _ _ _ A9.out)))
                  (quiet_step (first | with_reducible exact laws_FnFaces.ext _ (impl_StickThree.calls k _ _ _ _ _ A6.out) | with_reducible exact laws_FnFaces.ext _ (impl_StickThree.calls k _ _ _ _ _ A7.out) | with_reducible exact laws_FnFaces.ext _ (impl_StickThree.calls k _ _ _ _ _ A8.out) | with_reducible exact laws_FnFaces.ext _ (impl_StickThree.calls k _ _ _ _ _ A9.out)))
                  (quiet_step (first | with_reducible exact laws_FnFaces.ext _ (impl_StickThree.calls k _ _ _ _ _ A6.out) | with_reducible exact laws_FnFaces.ext _ (impl_StickThree.calls k _ _ _ _ _ A7.out) | with_reducible exact laws_FnFaces.ext _ (impl_StickThree.calls k _ _ _ _ _ A8.out) | with_reducible exact laws_FnFaces.ext _ (impl_StickThree.calls k _ _ _ _ _ A9.out)))
                  (quiet_step (first | with_reducible exact laws_FnFaces.ext _ (impl_StickThree.calls k _ _ _ _ _ A6.out) | with_reducible exact laws_FnFaces.ext _ (impl_StickThree.calls k _ _ _ _ _ A7.out) | with_reducible exact laws_FnFaces.ext _ (impl_StickThree.calls k _ _ _ _ _ A8.out) | with_reducible exact laws_FnFaces.ext _ (impl_StickThree.calls k _ _ _ _ _ A9.out)))
                  (quiet_step (first | with_reducible exact laws_FnFaces.ext _ (impl_StickThree.calls k _ _ _ _ _ A6.out) | with_reducible exact laws_FnFaces.ext _ (impl_StickThree.calls k _ _ _ _ _ A7.out) | with_reducible exact laws_FnFaces.ext _ (impl_StickThree.calls k _ _ _ _ _ A8.out) | with_reducible exact laws_FnFaces.ext _ (impl_StickThree.calls k _ _ _ _ _ A9.out)))
                  (quiet_step (first | with_reducible exact laws_FnFaces.ext _ (impl_StickThree.calls k _ _ _ _ _ A6.out) | with_reducible exact laws_FnFaces.ext _ (impl_StickThree.calls k _ _ _ _ _ A7.out) | with_reducible exact laws_FnFaces.ext _ (impl_StickThree.calls k _ _ _ _ _ A8.out) | with_reducible exact laws_FnFaces.ext _ (impl_StickThree.calls k _ _ _ _ _ A9.out)))
                  (quiet_step (first | with_reducible exact laws_FnFaces.ext _ (impl_StickThree.calls k _ _ _ _ _ A6.out) | with_reducible exact laws_FnFaces.ext _ (impl_StickThree.calls k _ _ _ _ _ A7.out) | with_reducible exact laws_FnFaces.ext _ (impl_StickThree.calls k _ _ _ _ _ A8.out) | with_reducible exact laws_FnFaces.ext _ (impl_StickThree.calls k _ _ _ _ _ A9.out)))
                  (quiet_step (first | with_reducible exact laws_FnFaces.ext _ (impl_StickThree.calls k _ _ _ _ _ A6.out) | with_reducible exact laws_FnFaces.ext _ (impl_StickThree.calls k _ _ _ _ _ A7.out) | with_reducible exact laws_FnFaces.ext _ (impl_StickThree.calls k _ _ _ _ _ A8.out) | with_reducible exact laws_FnFaces.ext _ (impl_StickThree.calls k _ _ _ _ _ A9.out)))
                  (quiet_step (first | with_reducible exact laws_FnFaces.ext _ (impl_StickThree.calls k _ _ _ _ _ A6.out) | with_reducible exact laws_FnFaces.ext _ (impl_StickThree.calls k _ _ _ _ _ A7.out) | with_reducible exact laws_FnFaces.ext _ (impl_StickThree.calls k _ _ _ _ _ A8.out) | with_reducible exact laws_FnFaces.ext _ (impl_StickThree.calls k _ _ _ _ _ A9.out)))
                  (quiet_step (first | with_reducible exact laws_FnFaces.ext _ (impl_StickThree.calls k _ _ _ _ _ A6.out) | with_reducible exact laws_FnFaces.ext _ (impl_StickThree.calls k _ _ _ _ _ A7.out) | with_reducible exact laws_FnFaces.ext _ (impl_StickThree.calls k _ _ _ _ _ A8.out) | with_reducible exact laws_FnFaces.ext _ (impl_StickThree.calls k _ _ _ _ _ A9.out)))
                  (refine laws_FnFaces.mv (v := .bool true) (by rfl) (fun _ _ => ⟨rfl, rfl⟩) ?_; simp only [Act.put, List.setIfInBounds_toArray, List.set_cons_zero, List.set_cons_succ])
                  (with_reducible refine laws_FnFaces.want (by rw [hops.out]; first | rfl | kernel_rfl | go_simp) ?_; dsimp only; quiet_step (first | with_reducible exact laws_FnFaces.ext _ (impl_StickThree.calls k _ _ _ _ _ A6.out) | with_reducible exact laws_FnFaces.ext _ (impl_StickThree.calls k _ _ _ _ _ A7.out) | with_reducible exact laws_FnFaces.ext _ (impl_StickThree.calls k _ _ _ _ _ A8.out) | with_reducible exact laws_FnFaces.ext _ (impl_StickThree.calls k _ _ _ _ _ A9.out)))
                  (with_reducible refine laws_FnFaces.want (by rw [hops.out]; first | rfl | kernel_rfl | go_simp) ?_; dsimp only; quiet_step (first | with_reducible exact laws_FnFaces.ext _ (impl_StickThree.calls k _ _ _ _ _ A6.out) | with_reducible exact laws_FnFaces.ext _ (impl_StickThree.calls k _ _ _ _ _ A7.out) | with_reducible exact laws_FnFaces.ext _ (impl_StickThree.calls k _ _ _ _ _ A8.out) | with_reducible exact laws_FnFaces.ext _ (impl_StickThree.calls k _ _ _ _ _ A9.out)))
                  (with_reducible refine laws_FnFaces.want (by rw [hops.out]; first | rfl | kernel_rfl | go_simp) ?_; dsimp only; quiet_step (first | with_reducible exact laws_FnFaces.ext _ (impl_StickThree.calls k _ _ _ _ _ A6.out) | with_reducible exact laws_FnFaces.ext _ (impl_StickThree.calls k _ _ _ _ _ A7.out) | with_reducible exact laws_FnFaces.ext _ (impl_StickThree.calls k _ _ _ _ _ A8.out) | with_reducible exact laws_FnFaces.ext _ (impl_StickThree.calls k _ _ _ _ _ A9.out)))
                  (with_reducible refine laws_FnFaces.want (by rw [hops.out]; first | rfl | kernel_rfl | go_simp) ?_; dsimp only; quiet_step (first | with_reducible exact laws_FnFaces.ext _ (impl_StickThree.calls k _ _ _ _ _ A6.out) | with_reducible exact laws_FnFaces.ext _ (impl_StickThree.calls k _ _ _ _ _ A7.out) | with_reducible exact laws_FnFaces.ext _ (impl_StickThree.calls k _ _ _ _ _ A8.out) | with_reducible exact laws_FnFaces.ext _ (impl_StickThree.calls k _ _ _ _ _ A9.out)))
                  (with_reducible refine laws_FnFaces.want (by rw [hops.out]; first | rfl | kernel_rfl | go_simp) ?_; dsimp only; quiet_step (first | with_reducible exact laws_FnFaces.ext _ (impl_StickThree.calls k _ _ _ _ _ A6.out) | with_reducible exact laws_FnFaces.ext _ (impl_StickThree.calls k _ _ _ _ _ A7.out) | with_reducible exact laws_FnFaces.ext _ (impl_StickThree.calls k _ _ _ _ _ A8.out) | with_reducible exact laws_FnFaces.ext _ (impl_StickThree.calls k _ _ _ _ _ A9.out)))
                  (with_reducible refine laws_FnFaces.want (by rw [hops.out]; first | rfl | kernel_rfl | go_simp) ?_; dsimp only; quiet_step (first | with_reducible exact laws_FnFaces.ext _ (impl_StickThree.calls k _ _ _ _ _ A6.out) | with_reducible exact laws_FnFaces.ext _ (impl_StickThree.calls k _ _ _ _ _ A7.out) | with_reducible exact laws_FnFaces.ext _ (impl_StickThree.calls k _ _ _ _ _ A8.out) | with_reducible exact laws_FnFaces.ext _ (impl_StickThree.calls k _ _ _ _ _ A9.out)))
                  (with_reducible refine laws_FnFaces.want (by rw [hops.out]; first | rfl | kernel_rfl | go_simp) ?_; dsimp only; quiet_step (first | with_reducible exact laws_FnFaces.ext _ (impl_StickThree.calls k _ _ _ _ _ A6.out) | with_reducible exact laws_FnFaces.ext _ (impl_StickThree.calls k _ _ _ _ _ A7.out) | with_reducible exact laws_FnFaces.ext _ (impl_StickThree.calls k _ _ _ _ _ A8.out) | with_reducible exact laws_FnFaces.ext _ (impl_StickThree.calls k _ _ _ _ _ A9.out)))
                  (with_reducible refine laws_FnFaces.want (by rw [hops.out]; first | rfl | kernel_rfl | go_simp) ?_; dsimp only; quiet_step (first | with_reducible exact laws_FnFaces.ext _ (impl_StickThree.calls k _ _ _ _ _ A6.out) | with_reducible exact laws_FnFaces.ext _ (impl_StickThree.calls k _ _ _ _ _ A7.out) | with_reducible exact laws_FnFaces.ext _ (impl_StickThree.calls k _ _ _ _ _ A8.out) | with_reducible exact laws_FnFaces.ext _ (impl_StickThree.calls k _ _ _ _ _ A9.out)))
                  (with_reducible refine laws_FnFaces.want (by rw [hops.out]; first | rfl | kernel_rfl | go_simp) ?_; dsimp only; quiet_step (first | with_reducible exact laws_FnFaces.ext _ (impl_StickThree.calls k _ _ _ _ _ A6.out) | with_reducible exact laws_FnFaces.ext _ (impl_StickThree.calls k _ _ _ _ _ A7.out) | with_reducible exact laws_FnFaces.ext _ (impl_StickThree.calls k _ _ _ _ _ A8.out) | with_reducible exact laws_FnFaces.ext _ (impl_StickThree.calls k _ _ _ _ _ A9.out)))
                  (with_reducible refine laws_FnFaces.want (by rw [hops.out]; first | rfl | kernel_rfl | go_simp) ?_; dsimp only; quiet_step (first | with_reducible exact laws_FnFaces.ext _ (impl_StickThree.calls k _ _ _ _ _ A6.out) | with_reducible exact laws_FnFaces.ext _ (impl_StickThree.calls k _ _ _ _ _ A7.out) | with_reducible exact laws_FnFaces.ext _ (impl_StickThree.calls k _ _ _ _ _ A8.out) | with_reducible exact laws_FnFaces.ext _ (impl_StickThree.calls k _ _ _ _ _ A9.out)))
                  (refine laws_FnFaces.mv (v := .bool true) (by rfl) (fun _ _ => ⟨rfl, rfl⟩) ?_; simp only [Act.put, List.setIfInBounds_toArray, List.set_cons_zero, List.set_cons_succ])
                  (refine laws_FnFaces.mv (v := .bool true) (by rfl) (fun _ _ => ⟨rfl, rfl⟩) ?_; simp only [Act.put, List.setIfInBounds_toArray, List.set_cons_zero, List.set_cons_succ])
                  (with_reducible refine laws_FnFaces.want (by rw [hops.out]; first | rfl | kernel_rfl | go_simp) ?_; dsimp only; quiet_step (first | with_reducible exact laws_FnFaces.ext _ (impl_StickThree.calls k _ _ _ _ _ A6.out) | with_reducible exact laws_FnFaces.ext _ (impl_StickThree.calls k _ _ _ _ _ A7.out) | with_reducible exact laws_FnFaces.ext _ (impl_StickThree.calls k _ _ _ _ _ A8.out) | with_reducible exact laws_FnFaces.ext _ (impl_StickThree.calls k _ _ _ _ _ A9.out)))
                  (with_reducible refine laws_FnFaces.want (by rw [hops.out]; first | rfl | kernel_rfl | go_simp) ?_; dsimp only; quiet_step (first | with_reducible exact laws_FnFaces.ext _ (impl_StickThree.calls k _ _ _ _ _ A6.out) | with_reducible exact laws_FnFaces.ext _ (impl_StickThree.calls k _ _ _ _ _ A7.out) | with_reducible exact laws_FnFaces.ext _ (impl_StickThree.calls k _ _ _ _ _ A8.out) | with_reducible exact laws_FnFaces.ext _ (impl_StickThree.calls k _ _ _ _ _ A9.out)))
                  (with_reducible refine laws_FnFaces.want (by rw [hops.out]; first | rfl | kernel_rfl | go_simp) ?_; dsimp only; quiet_step (first | with_reducible exact laws_FnFaces.ext _ (impl_StickThree.calls k _ _ _ _ _ A6.out) | with_reducible exact laws_FnFaces.ext _ (impl_StickThree.calls k _ _ _ _ _ A7.out) | with_reducible exact laws_FnFaces.ext _ (impl_StickThree.calls k _ _ _ _ _ A8.out) | with_reducible exact laws_FnFaces.ext _ (impl_StickThree.calls k _ _ _ _ _ A9.out)))
                  (with_reducible refine laws_FnFaces.want (by rw [hops.out]; first | rfl | kernel_rfl | go_simp) ?_; dsimp only; quiet_step (first | with_reducible exact laws_FnFaces.ext _ (impl_StickThree.calls k _ _ _ _ _ A6.out) | with_reducible exact laws_FnFaces.ext _ (impl_StickThree.calls k _ _ _ _ _ A7.out) | with_reducible exact laws_FnFaces.ext _ (impl_StickThree.calls k _ _ _ _ _ A8.out) | with_reducible exact laws_FnFaces.ext _ (impl_StickThree.calls k _ _ _ _ _ A9.out)))
                  (with_reducible refine laws_FnFaces.want (by rw [hops.out]; first | rfl | kernel_rfl | go_simp) ?_; dsimp only; quiet_step (first | with_reducible exact laws_FnFaces.ext _ (impl_StickThree.calls k _ _ _ _ _ A6.out) | with_reducible exact laws_FnFaces.ext _ (impl_StickThree.calls k _ _ _ _ _ A7.out) | with_reducible exact laws_FnFaces.ext _ (impl_StickThree.calls k _ _ _ _ _ A8.out) | with_reducible exact laws_FnFaces.ext _ (impl_StickThree.calls k _ _ _ _ _ A9.out)))
                  (with_reducible refine laws_FnFaces.want (by rw [hops.out]; first | rfl | kernel_rfl | go_simp) ?_; dsimp only; quiet_step (first | with_reducible exact laws_FnFaces.ext _ (impl_StickThree.calls k _ _ _ _ _ A6.out) | with_reducible exact laws_FnFaces.ext _ (impl_StickThree.calls k _ _ _ _ _ A7.out) | with_reducible exact laws_FnFaces.ext _ (impl_StickThree.calls k _ _ _ _ _ A8.out) | with_reducible exact laws_FnFaces.ext _ (impl_StickThree.calls k _ _ _ _ _ A9.out)))
                  (with_reducible refine laws_FnFaces.want (by rw [hops.out]; first | rfl | kernel_rfl | go_simp) ?_; dsimp only; quiet_step (first | with_reducible exact laws_FnFaces.ext _ (impl_StickThree.calls k _ _ _ _ _ A6.out) | with_reducible exact laws_FnFaces.ext _ (impl_StickThree.calls k _ _ _ _ _ A7.out) | with_reducible exact laws_FnFaces.ext _ (impl_StickThree.calls k _ _ _ _ _ A8.out) | with_reducible exact laws_FnFaces.ext _ (impl_StickThree.calls k _ _ _ _ _ A9.out)))
                  (with_reducible refine laws_FnFaces.want (by rw [hops.out]; first | rfl | kernel_rfl | go_simp) ?_; dsimp only; quiet_step (first | with_reducible exact laws_FnFaces.ext _ (impl_StickThree.calls k _ _ _ _ _ A6.out) | with_reducible exact laws_FnFaces.ext _ (impl_StickThree.calls k _ _ _ _ _ A7.out) | with_reducible exact laws_FnFaces.ext _ (impl_StickThree.calls k _ _ _ _ _ A8.out) | with_reducible exact laws_FnFaces.ext _ (impl_StickThree.calls k _ _ _ _ _ A9.out)))
                  (with_reducible refine laws_FnFaces.want (by rw [hops.out]; first | rfl | kernel_rfl | go_simp) ?_; dsimp only; quiet_step (first | with_reducible exact laws_FnFaces.ext _ (impl_StickThree.calls k _ _ _ _ _ A6.out) | with_reducible exact laws_FnFaces.ext _ (impl_StickThree.calls k _ _ _ _ _ A7.out) | with_reducible exact laws_FnFaces.ext _ (impl_StickThree.calls k _ _ _ _ _ A8.out) | with_reducible exact laws_FnFaces.ext _ (impl_StickThree.calls k _ _ _ _ _ A9.out)))
                  (with_reducible refine laws_FnFaces.want (by rw [hops.out]; first | rfl | kernel_rfl | go_simp) ?_; dsimp only; quiet_step (first | with_reducible exact laws_FnFaces.ext _ (impl_StickThree.calls k _ _ _ _ _ A6.out) | with_reducible exact laws_FnFaces.ext _ (impl_StickThree.calls k _ _ _ _ _ A7.out) | with_reducible exact laws_FnFaces.ext _ (impl_StickThree.calls k _ _ _ _ _ A8.out) | with_reducible exact laws_FnFaces.ext _ (impl_StickThree.calls k _ _ _ _ _ A9.out)))
                  (refine laws_FnFaces.mv (v := .bool true) (by rfl) (fun _ _ => ⟨rfl, rfl⟩) ?_; simp only [Act.put, List.setIfInBounds_toArray, List.set_cons_zero, List.set_cons_succ])
                  (refine laws_FnFaces.mv (v := .bool true) (by rfl) (fun _ _ => ⟨rfl, rfl⟩) ?_; simp only [Act.put, List.setIfInBounds_toArray, List.set_cons_zero, List.set_cons_succ])
                  (with_reducible refine laws_FnFaces.want (by rw [hops.out]; first | rfl | kernel_rfl | go_simp) ?_; dsimp only; quiet_step (first | with_reducible exact laws_FnFaces.ext _ (impl_StickThree.calls k _ _ _ _ _ A6.out) | with_reducible exact laws_FnFaces.ext _ (impl_StickThree.calls k _ _ _ _ _ A7.out) | with_reducible exact laws_FnFaces.ext _ (impl_StickThree.calls k _ _ _ _ _ A8.out) | with_reducible exact laws_FnFaces.ext _ (impl_StickThree.calls k _ _ _ _ _ A9.out)))
                  (with_reducible refine laws_FnFaces.want (by rw [hops.out]; first | rfl | kernel_rfl | go_simp) ?_; dsimp only; quiet_step (first | with_reducible exact laws_FnFaces.ext _ (impl_StickThree.calls k _ _ _ _ _ A6.out) | with_reducible exact laws_FnFaces.ext _ (impl_StickThree.calls k _ _ _ _ _ A7.out) | with_reducible exact laws_FnFaces.ext _ (impl_StickThree.calls k _ _ _ _ _ A8.out) | with_reducible exact laws_FnFaces.ext _ (impl_StickThree.calls k _ _ _ _ _ A9.out)))
                  (with_reducible refine laws_FnFaces.want (by rw [hops.out]; first | rfl | kernel_rfl | go_simp) ?_; dsimp only; quiet_step (first | with_reducible exact laws_FnFaces.ext _ (impl_StickThree.calls k _ _ _ _ _ A6.out) | with_reducible exact laws_FnFaces.ext _ (impl_StickThree.calls k _ _ _ _ _ A7.out) | with_reducible exact laws_FnFaces.ext _ (impl_StickThree.calls k _ _ _ _ _ A8.out) | with_reducible exact laws_FnFaces.ext _ (impl_StickThree.calls k _ _ _ _ _ A9.out)))
                  (with_reducible refine laws_FnFaces.want (by rw [hops.out]; first | rfl | kernel_rfl | go_simp) ?_; dsimp only; quiet_step (first | with_reducible exact laws_FnFaces.ext _ (impl_StickThree.calls k _ _ _ _ _ A6.out) | with_reducible exact laws_FnFaces.ext _ (impl_StickThree.calls k _ _ _ _ _ A7.out) | with_reducible exact laws_FnFaces.ext _ (impl_StickThree.calls k _ _ _ _ _ A8.out) | with_reducible exact laws_FnFaces.ext _ (impl_StickThree.calls k _ _ _ _ _ A9.out)))
                  (with_reducible refine laws_FnFaces.want (by rw [hops.out]; first | rfl | kernel_rfl | go_simp) ?_; dsimp only; quiet_step (first | with_reducible exact laws_FnFaces.ext _ (impl_StickThree.calls k _ _ _ _ _ A6.out) | with_reducible exact laws_FnFaces.ext _ (impl_StickThree.calls k _ _ _ _ _ A7.out) | with_reducible exact laws_FnFaces.ext _ (impl_StickThree.calls k _ _ _ _ _ A8.out) | with_reducible exact laws_FnFaces.ext _ (impl_StickThree.calls k _ _ _ _ _ A9.out)))
                  (with_reducible refine laws_FnFaces.want (by rw [hops.out]; first | rfl | kernel_rfl | go_simp) ?_; dsimp only; quiet_step (first | with_reducible exact laws_FnFaces.ext _ (impl_StickThree.calls k _ _ _ _ _ A6.out) | with_reducible exact laws_FnFaces.ext _ (impl_StickThree.calls k _ _ _ _ _ A7.out) | with_reducible exact laws_FnFaces.ext _ (impl_StickThree.calls k _ _ _ _ _ A8.out) | with_reducible exact laws_FnFaces.ext _ (impl_StickThree.calls k _ _ _ _ _ A9.out)))
                  (with_reducible refine laws_FnFaces.want (by rw [hops.out]; first | rfl | kernel_rfl | go_simp) ?_; dsimp only; quiet_step (first | with_reducible exact laws_FnFaces.ext _ (impl_StickThree.calls k _ _ _ _ _ A6.out) | with_reducible exact laws_FnFaces.ext _ (impl_StickThree.calls k _ _ _ _ _ A7.out) | with_reducible exact laws_FnFaces.ext _ (impl_StickThree.calls k _ _ _ _ _ A8.out) | with_reducible exact laws_FnFaces.ext _ (impl_StickThree.calls k _ _ _ _ _ A9.out)))
                  (with_reducible refine laws_FnFaces.want (by rw [hops.out]; first | rfl | kernel_rfl | go_simp) ?_; dsimp only; quiet_step (first | with_reducible exact laws_FnFaces.ext _ (impl_StickThree.calls k _ _ _ _ _ A6.out) | with_reducible exact laws_FnFaces.ext _ (impl_StickThree.calls k _ _ _ _ _ A7.out) | with_reducible exact laws_FnFaces.ext _ (impl_StickThree.calls k _ _ _ _ _ A8.out) | with_reducible exact laws_FnFaces.ext _ (impl_StickThree.calls k _ _ _ _ _ A9.out)))
                  (with_reducible refine laws_FnFaces.want (by rw [hops.out]; first | rfl | kernel_rfl | go_simp) ?_; dsimp only; quiet_step (first | with_reducible exact laws_FnFaces.ext _ (impl_StickThree.calls k _ _ _ _ _ A6.out) | with_reducible exact laws_FnFaces.ext _ (impl_StickThree.calls k _ _ _ _ _ A7.out) | with_reducible exact laws_FnFaces.ext _ (impl_StickThree.calls k _ _ _ _ _ A8.out) | with_reducible exact laws_FnFaces.ext _ (impl_StickThree.calls k _ _ _ _ _ A9.out)))
                  (with_reducible refine laws_FnFaces.want (by rw [hops.out]; first | rfl | kernel_rfl | go_simp) ?_; dsimp only; quiet_step (first | with_reducible exact laws_FnFaces.ext _ (impl_StickThree.calls k _ _ _ _ _ A6.out) | with_reducible exact laws_FnFaces.ext _ (impl_StickThree.calls k _ _ _ _ _ A7.out) | with_reducible exact laws_FnFaces.ext _ (impl_StickThree.calls k _ _ _ _ _ A8.out) | with_reducible exact laws_FnFaces.ext _ (impl_StickThree.calls k _ _ _ _ _ A9.out)))
                  (refine laws_FnFaces.mv (v := .bool true) (by rfl) (fun _ _ => ⟨rfl, rfl⟩) ?_; simp only [Act.put, List.setIfInBounds_toArray, List.set_cons_zero, List.set_cons_succ])
                  (refine laws_FnFaces.mv (v := .bool true) (by rfl) (fun _ _ => ⟨rfl, rfl⟩) ?_; simp only [Act.put, List.setIfInBounds_toArray, List.set_cons_zero, List.set_cons_succ])
                  refine wpQuiet_nil ?_
                  intro _ hw'
                  obtain ⟨⟨wq, hq⟩, hw''⟩ := hw'
                  subst hw''
                  go_wp2
                  go_ret
                  exact ⟨by first | rfl | (show Ending.returned (Value.bool (!(n1 == 4))) = _; rw [beq_eq_false_iff_ne.2 (fun e => by rw [hn4] at e; exact e)]; rfl), B1.out.trans (hq.mono B1.out.size)⟩
        · rw [if_neg hg] at h; cases h
    · rw [if_neg hc] at h; cases h
def laws_FnFaces.Pure : Prop := ∀ (l0 : List Int), l0.length ≤ maxLen → l0.length * 1 ≤ 140737488351232 → (∀ x ∈ l0, (Lit.int .u8 x).wf = true) → ∃ k, laws_FnFaces.f k l0 = some true
theorem laws_FnFaces.walk (P : laws_FnFaces.Pure) (a0 : Option Addr) (len0 cap0 : Nat) (z0 : List Int) (w : World) (w0 : (a0 = none ∧ len0 = 0 ∧ cap0 = 0 ∧ z0 = []) ∨ ∃ x, a0 = some x ∧ len0 ≤ cap0 ∧ cap0 ≤ maxLen ∧ z0.length = cap0 ∧ (∀ i, i < z0.length → w.cell? (x.add i) = some (.int .u8 (z0.getD i 0))) ∧ ∀ n ∈ z0, (Lit.int .u8 n).wf = true) (y0 : len0 * 1 ≤ 140737488351232) :
    Calls Try.prog 3 #[.slice a0 len0 cap0] w fun e w' => e = .returned (.bool true) ∧ Below w.heap.size w w' := by
  obtain ⟨l0, rfl, hr0, hm0, hw0, hc0⟩ := ReadsInt.ofRowC w0
  obtain ⟨k, h⟩ := P l0 hm0 y0 hw0
  refine (laws_FnFaces.calls k _ _ l0 true w (Kd.C_of_reads (d := (0 : Int)) (h1 := fun _ => rfl) hr0) hc0 h).mono ?_
  rintro e w' ⟨rfl, hd⟩
  exact ⟨rfl, hd⟩

end Go.Proofs.Ytgmmlnjklhjefaa.PFnFaces
