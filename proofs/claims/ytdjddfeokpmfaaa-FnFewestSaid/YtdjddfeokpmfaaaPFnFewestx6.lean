-- Made by hprint.py (wip/) out of the translation; not trusted: Lean checks it.
import Derived.Test.YtdjddfeokpmfaaaPFnFewestx0
import Derived.Test.YtdjddfeokpmfaaaPFnFewestx4
import Derived.Test.YtdjddfeokpmfaaaPFnFewestx5
namespace Go.Proofs.Ytdjddfeokpmfaaa.PFnFewest
open Go.RowKit Go.Proofs.YtdjddfeokpmfaaaW.PrintWords Go.Proofs.YtdjddfeokpmfaaaW.PrintLast Go.Proofs.YtdjddfeokpmfaaaW.PrintMore
attribute [local go_sem] max2_int min2_int max_two min_two max_three min_three max_four min_four   -- for this text's walks alone
set_option linter.unusedVariables false
set_option linter.unusedSimpArgs false

/-! ### impl_OrderFewest: function 6, by hand -/
def impl_OrderFewest.ren : Go.Shelf.Ren := ⟨fun | 6 => 40 | 8 => 20 | n => n, fun | 22 => 38 | 23 => 23 | 25 => 29 | 3 => 3 | 4 => 4 | 0 => 0 | n => n, fun n => n⟩
theorem impl_OrderFewest.lay : SlLaysH.n8 Try.prog impl_OrderFewest.ren :=
 { mixed := rfl, f6 := ⟨Try.f40.name, by decide, Try.func40.trans (congrArg some rfl)⟩, f8 := ⟨Try.f20.name, by decide, Try.func20.trans (congrArg some rfl)⟩, t0 := Try.underlying0, a0 := Try.isAgg0, z0 := Try.sizeOf0, v0 := Try.zeroValue0, t3 := Try.underlying3, a3 := Try.isAgg3, z3 := Try.sizeOf3, v3 := Try.zeroValue3, t4 := Try.underlying4, a4 := Try.isAgg4, z4 := Try.sizeOf4, v4 := Try.zeroValue4, t22 := Try.underlying38, a22 := Try.isAgg38, z22 := Try.sizeOf38, v22 := Try.zeroValue38, a23 := Try.isAgg23, z23 := Try.sizeOf23, t25 := Try.underlying29, a25 := Try.isAgg29, z25 := Try.sizeOf29, v25 := Try.zeroValue29 }
open Go.Proofs.Ytdjddfeokpmfaaa.Base in
theorem impl_OrderFewest.eq_ev (x y : List Int) (hx : x.length < 4611686018427387904) : Ev (fun k => slices_Equal_int_int.f k x y) (decide (x = y)) := by
 unfold slices_Equal_int_int.f
 by_cases hl : x.length = y.length
 ·refine ev_pos (by omega) ?_
  have key := down (fun i => (x.take i = y.take i) → Ev (fun k => slices_Equal_int_int.l0 k x y (x.length : Int) (i : Int)) (decide (x = y))) x.length ?_ ?_ 0 (by omega)
  ·exact key rfl
  ·intro ht
   rw [List.take_length, hl, List.take_length] at ht
   rw [decide_eq_true ht]
   refine ev_step ?_
   simp only [slices_Equal_int_int.l0]
   exact ev_neg (by omega) (ev_some _)
  ·intro i hi ih ht
   refine ev_step ?_
   simp only [slices_Equal_int_int.l0]
   rw [rd_get hi, rd_get (show i < y.length by omega), w64_succ (by omega)]
   refine ev_pos (by omega) (ev_pos (by omega) (ev_pos (by omega) (ev_pos (by omega) ?_)))
   by_cases c : x[i] = y[i]'(by omega)
   ·exact ev_pos c (ih (by rw [List.take_succ_eq_append_getElem hi, List.take_succ_eq_append_getElem (show i < y.length by omega), ht, c]))
   ·rw [decide_eq_false (fun e => c (by subst e; rfl))]
    exact ev_neg c (ev_some _)
 ·rw [decide_eq_false (fun e => hl (by rw [e]))]
  exact ev_neg (by omega) (ev_some _)
open Go.Proofs.Ytdjddfeokpmfaaa.Base in
theorem impl_OrderFewest.same_ev : ∀ (x y : List (List Int)), (∀ s ∈ x, s.length < 4611686018427387904) → Ev (fun k => impl_sameSteps.f k x y) (decide (x = y)) := by
 have go : ∀ (x y : List (List Int)), x.length = y.length → (∀ s ∈ x, s.length < 4611686018427387904) → Ev (fun k => slices_EqualFunc_int_int_int_int.go k x y) (decide (x = y)) := by
  intro x
  induction x with
  | nil =>
   intro y hl _
   cases y with
   | nil => exact ev_some _
   | cons b y => simp at hl
  | cons a x ih =>
   intro y hl hs
   cases y with
   | nil => simp at hl
   | cons b y =>
    refine Ev.bind (impl_OrderFewest.eq_ev a b (hs a (by simp))) ?_
    by_cases c : a = b
    ·subst c
     refine ev_pos (by simp) ?_
     have := ih y (by simpa using hl) (fun s h => hs s (by simp [h]))
     simpa using this
    ·rw [decide_eq_false (show ¬ (a :: x = b :: y) from fun e => c (by injection e))]
     exact ev_neg (by simpa using c) (ev_some _)
 intro x y hs
 unfold impl_sameSteps.f slices_EqualFunc_int_int_int_int.f
 by_cases hl : x.length = y.length
 ·exact ev_pos hl (go x y hl hs)
 ·rw [decide_eq_false (fun e => hl (by rw [e]))]
  exact ev_neg hl (ev_some _)
open Go.Proofs.Ytdjddfeokpmfaaa.HFew in
set_option maxHeartbeats 8000000 in
set_option maxRecDepth 100000 in
/-- The closure: is this path the one in the box b? -/
theorem impl_OrderFewest.asks {b : Nat} {A1 : Option Addr} {c1 : Nat} {r x : List (List Int)} {A : Option Addr} {c : Nat} (W : World) (hb : W.heap[b]? = some (.cells #[.slice A1 r.length c1] 23 (0, 0))) (hr : Kd.C kp W A1 r.length r) (hrc : r.length ≤ c1) (hx : Kd.C kp W A x.length x) (hxc : x.length ≤ c) (hs : ∀ s ∈ x, s.length < 4611686018427387904) :
 Calls Try.prog 21 #[.slice A x.length c, .pointer (some ⟨b, 0, none⟩)] W fun e w' => e = .returned (.bool (decide (x = r))) ∧ ∃ q, w' = W.drewN q := by
 obtain ⟨k, hk⟩ := Ev.rounds (impl_OrderFewest.same_ev x r hs)
 have kS : ∀ nd, Calls Try.prog 22 #[.slice A x.length c, .slice A1 r.length c1] (W.drewN nd) _ := fun nd => impl_sameSteps.calls k A c x A1 c1 r _ (W.drewN nd) (Kd.C_drewN hx nd) hxc (Kd.C_drewN hr nd) hrc hk
 have kS0 := impl_sameSteps.calls k A c x A1 c1 r _ W hx hxc hr hrc hk
 have cb := cell_of_one hb
 clear hx hr hk hb hs
 go_enter Try.func21, Try.ntmps21
 go_wp2_with (go_at_call 22; refine kS0.mono ?_; rintro e w1 ⟨rfl, ⟨nd2, rfl⟩⟩; clear kS kS0)
 go_ret
 exact ⟨rfl, ⟨_, rfl⟩⟩
open Go.Proofs.Ytdjddfeokpmfaaa.HFew in
set_option maxRecDepth 100000 in
/-- Is the path in the box among these? -/
theorem impl_OrderFewest.has {B b c1 : Nat} {A1 : Option Addr} {D : Nat → Prop} {W : World} {v : Value} {vs : List Value} {xs : List (List (List Int))} {r : List (List Int)} (h : Lst B 23 D W v vs xs) (hb : W.heap[b]? = some (.cells #[.slice A1 r.length c1] 23 (0, 0))) (hr : Kd.C kp W A1 r.length r) (hrc : r.length ≤ c1) (hs : ∀ x ∈ xs, ∀ s ∈ x, s.length < 4611686018427387904) :
 Calls Try.prog 20 #[v, .func (.func 21) #[] #[.pointer (some ⟨b, 0, none⟩)]] W fun e w' => e = .returned (.bool (decide (r ∈ xs))) ∧ ∃ q, w' = W.drewN q := by
 have hl := h.len
 rcases Nat.eq_zero_or_pos xs.length with h0 | h0
 ·have hx : xs = [] := List.eq_nil_of_length_eq_zero h0
  subst hx
  obtain ⟨A, c, rfl⟩ : ∃ A c, v = .slice A 0 c := by
   rcases h.own.2 with ⟨hv, _⟩ | ⟨g, cap, cur, hv, _⟩
   ·exact ⟨_, _, hv⟩
   ·exact ⟨_, _, hv⟩
  refine (AnyE.slices_ContainsFunc_empty impl_OrderFewest.lay A c _ W).mono ?_
  rintro e w' ⟨rfl, rfl⟩
  exact ⟨by simp, 0, rfl⟩
 ·have good : ∀ (j : Nat) (hj : j < xs.length), ∃ A c, vs[j]'(by omega) = .slice A xs[j].length c ∧ xs[j].length ≤ c ∧ Kd.C kp W A xs[j].length xs[j] ∧ ∀ s ∈ xs[j], s.length < 4611686018427387904 := fun j hj => by
   obtain ⟨A, c, e1, hc, hF⟩ := h.el j _ _ (List.getElem?_eq_getElem (by omega)) (List.getElem?_eq_getElem hj)
   exact ⟨A, c, e1, hc, Kd.F_now hF, hs _ (List.getElem_mem hj)⟩
  let α := {z : Value × List (List Int) // ∃ A c, z.1 = .slice A z.2.length c ∧ z.2.length ≤ c ∧ Kd.C kp W A z.2.length z.2 ∧ ∀ s ∈ z.2, s.length < 4611686018427387904}
  let zs : List α := List.ofFn (fun i : Fin xs.length => (⟨(vs[i.1]'(by have := i.2; omega), xs[i.1]), good i.1 i.2⟩ : α))
  haveI : Inhabited α := ⟨⟨(vs[0]'(by omega), xs[0]), good 0 h0⟩⟩
  obtain ⟨g, cap, u0, hv, _⟩ := h.cell h0
  have hzl : zs.length = xs.length := by simp [zs]
  have hzs : ∀ j (hj : j < xs.length), zs[j]! = (⟨(vs[j]'(by omega), xs[j]), good j hj⟩ : α) := fun j hj => by
   rw [getElem!_pos zs j (by omega)]
   simp [zs]
  have hp : PredAt Try.prog 21 #[.pointer (some ⟨b, 0, none⟩)] (fun z : α => z.1.1) (fun z => decide (z.1.2 = r)) W := fun W' x hbel => by
   obtain ⟨⟨xv, x⟩, A, c, e1, hc, hC, hsx⟩ := x
   have e2 : xv = .slice A x.length c := e1
   subst e2
   have hbl : b < W.heap.size := lt_of_block hb
   exact impl_OrderFewest.asks W' ((hbel.block b hbl).trans hb) (Kd.C_below hr hbel) hrc (Kd.C_below hC hbel) hc hsx
  have hm : xs.length ≤ 9223372036854775807 := by
   rcases h.own.2 with ⟨_, h1⟩ | ⟨g', cap', cur, hv', _, _, hn, hm, _⟩
   ·omega
   ·have : cap' ≤ 9223372036854775807 := by unfold maxLen at hm; exact hm
    omega
  have hc := AnyE.slices_ContainsFunc impl_OrderFewest.lay (fun z : α => z.1.1) (fun z => decide (z.1.2 = r)) 21 #[.pointer (some ⟨b, 0, none⟩)] (enters_of Try.func21 (by kernel_rfl) rfl) g 0 xs.length cap zs W hp (by omega) hm (fun j hj => by
   obtain ⟨g', cap', u, hv', hcell, hu, _⟩ := h.cell (j := j) (by omega)
   rw [hv] at hv'
   injection hv' with e1 e2 e3
   injection e1 with e1
   injection e1 with e1
   subst e1
   rw [hzs j (by omega), Nat.zero_add, hcell]
   rw [List.getElem?_eq_getElem (show j < vs.length by omega)] at hu
   exact congrArg some (Option.some.inj hu).symm)
  rw [hv]
  refine hc.mono ?_
  rintro e w' ⟨rfl, q, rfl⟩
  refine ⟨?_, q, rfl⟩
  congr 2
  rw [Bool.eq_iff_iff, List.any_eq_true, decide_eq_true_eq, List.take_of_length_le (by omega)]
  constructor
  ·rintro ⟨z, hz, hzr⟩
   obtain ⟨i, rfl⟩ := (List.mem_ofFn).1 hz
   have := of_decide_eq_true hzr
   rw [← this]
   exact List.getElem_mem i.2
  ·intro hx
   obtain ⟨j, hj, rfl⟩ := List.getElem_of_mem hx
   exact ⟨_, List.mem_ofFn.2 ⟨⟨j, hj⟩, rfl⟩, by simp⟩
abbrev impl_OrderFewest.Two := List (List (List Int)) × List (List (List Int))
/-- One run put in opposite order: seen already, or new. -/
def impl_OrderFewest.one (q : List (List Int)) (fr tt_ : Int) (s : impl_OrderFewest.Two) : Option impl_OrderFewest.Two := (impl_run.f q fr tt_).bind fun r => if s.1.length < 1000 ∧ s.2.length < 1000 ∧ ∀ x ∈ s.1, ∀ y ∈ x, y.length < 4611686018427387904 then some (if r ∈ s.1 then s else (s.1 ++ [r], s.2 ++ [r])) else none
def impl_OrderFewest.toL (q : List (List Int)) (fr : Int) : Nat → Int → impl_OrderFewest.Two → Option impl_OrderFewest.Two
 | 0, _, s => some s
 | r + 1, tt_, s => (impl_OrderFewest.one q fr tt_ s).bind fun s' => impl_OrderFewest.toL q fr r (tt_ + 1) s'
def impl_OrderFewest.frL (q : List (List Int)) : Nat → Int → impl_OrderFewest.Two → Option impl_OrderFewest.Two
 | 0, _, s => some s
 | r + 1, fr, s => (impl_OrderFewest.toL q fr r (fr + 1) s).bind fun s' => impl_OrderFewest.frL q r (fr + 1) s'
def impl_OrderFewest.nowL (k : Nat) : List (List (List Int)) → impl_OrderFewest.Two → Option (Option impl_OrderFewest.Two)
 | [], s => some (some s)
 | q :: qs, s => (impl_convex.f k q).bind fun t => if t = true then some none else (impl_OrderFewest.frL q q.length 0 s).bind fun s' => impl_OrderFewest.nowL k qs s'
def impl_OrderFewest.lev (k : Nat) : Nat → List (List (List Int)) → List (List (List Int)) → Int → Option (Int × Bool)
 | 0, _, _, _ => none
 | d + 1, now, seen, n => if now.length = 0 then some (0, false) else if n < 1000 then ((impl_OrderFewest.nowL k now (seen, [])).bind fun o => match o with | none => some (n, true) | some s => impl_OrderFewest.lev k d s.2 s.1 (n + 1)) else none
def impl_OrderFewest.f (k : Nat) (l0 : List (List Int)) : Option (Int × Bool) := (impl_PathIn.f k l0).bind fun t => if t = true then (if (l0.length : Int) > 5 then some (0, false) else impl_OrderFewest.lev k k [l0] [l0] 0) else some (0, false)
theorem impl_OrderFewest.mono_nowL (k : Nat) : ∀ qs s, LeO (impl_OrderFewest.nowL k qs s) (impl_OrderFewest.nowL (k + 1) qs s)
 | [], _ => LeO.refl _
 | q :: qs, s => LeO.bind (impl_convex.mono _ _) (fun t => LeO.ite (LeO.refl _) (LeO.bind (LeO.refl _) (fun s' => impl_OrderFewest.mono_nowL k qs s')))
theorem impl_OrderFewest.mono_lev (k : Nat) : ∀ d now seen n, LeO (impl_OrderFewest.lev k d now seen n) (impl_OrderFewest.lev (k + 1) (d + 1) now seen n)
 | 0, _, _, _ => fun r h => by simp [impl_OrderFewest.lev] at h
 | d + 1, now, seen, n => by
  unfold impl_OrderFewest.lev
  refine LeO.ite (LeO.refl _) (LeO.ite (LeO.bind (impl_OrderFewest.mono_nowL k now _) (fun o => ?_)) (LeO.refl _))
  cases o with
  | none => exact LeO.refl _
  | some s => exact impl_OrderFewest.mono_lev k d s.2 s.1 (n + 1)
theorem impl_OrderFewest.mono : ∀ a0 k, LeO (impl_OrderFewest.f k a0) (impl_OrderFewest.f (k + 1) a0) := fun a0 k => LeO.bind (impl_PathIn.mono _ _) (fun t => LeO.ite (LeO.ite (LeO.refl _) (impl_OrderFewest.mono_lev k k _ _ _)) (LeO.refl _))
open Go.Proofs.Ytdjddfeokpmfaaa.HFew in
set_option maxHeartbeats 8000000 in
set_option maxRecDepth 100000 in
theorem impl_OrderFewest.calls (k : Nat) (A0 : Option Addr) (c0 : Nat) (l0 : List (List Int)) (r1 : Int) (r2 : Bool) (w : World) (hr0 : Kd.C (Kd.slice 3 (Kd.int .i64)) w A0 l0.length l0) (hc0 : l0.length ≤ c0) (h : impl_OrderFewest.f k l0 = some (r1, r2)) :
 Calls Try.prog 6 #[.slice A0 l0.length c0] w fun e w' => e = .returned (.tuple #[.int .i64 r1, .bool r2]) ∧ Below w.heap.size w w' := by
 have hmf : ∀ (fn : Fn) (first cap : Array Value) (w : World), (Instr.makeFunc fn first cap).run Try.prog w = .ok (.func fn first cap) w := fun _ _ _ _ => rfl
 unfold impl_OrderFewest.f at h
 obtain ⟨t, h1, h⟩ := Option.bind_eq_some_iff.mp h
 have k1 := impl_PathIn.calls k A0 c0 l0 t w hr0 hc0 h1
 clear h1
 cases t with
 | false =>
  rw [if_neg (by decide)] at h
  injection h with h
  injection h with h2 h3
  subst h2 h3
  go_enter Try.func6, Try.ntmps6
  go_wp2_with (go_at_call 17; refine k1.mono ?_; rintro e w1 ⟨rfl, ⟨nd, rfl⟩⟩; clear k1)
  go_ret2
  exact ⟨rfl, pw_below_drewN (Below.refl _ _) _⟩
 | true =>
  rw [if_pos rfl] at h
  by_cases c6 : (l0.length : Int) > 5
  ·rw [if_pos c6] at h
   injection h with h
   injection h with h2 h3
   subst h2 h3
   have q6 : decide ((5 : Int) < (l0.length : Int)) = true := decide_eq_true c6
   have q7 : decide (5 < l0.length) = true := decide_eq_true (by omega)
   go_enter Try.func6, Try.ntmps6
   go_wp2_with (go_at_call 17; refine k1.mono ?_; rintro e w1 ⟨rfl, ⟨nd, rfl⟩⟩; clear k1)
   go_ret2
   exact ⟨rfl, pw_below_drewN (Below.refl _ _) _⟩
  ·rw [if_neg c6] at h
   have q6 : decide ((5 : Int) < (l0.length : Int)) = false := decide_eq_false c6
   have q7 : decide (5 < l0.length) = false := decide_eq_false (by omega)
   have hV : ∀ nd, Kd.V kp 0 (w.drewN nd) 0 (fun k => k < w.heap.size) (.slice A0 l0.length c0) l0 := fun nd => Kd.V_drewN (Kd.V_mk hc0 (Kd.C_F (Kd.heap_slice 3 (Kd.heap_int .i64)) hr0)) nd
   have HST := fun nd => Aside0.mk (Sit.start (e := 23) (w := w.drewN nd) (w0 := w) (u := .slice A0 l0.length c0) (x := l0) (pw_below_drewN (Below.refl _ _) nd) rfl (hV nd))
   have H := Aside0.mk h
   clear h hV hr0
   go_enter Try.func6, Try.ntmps6
   go_wp2_with (go_at_call 17; refine k1.mono ?_; rintro e w1 ⟨rfl, ⟨nd, rfl⟩⟩; clear k1)
   go_loopg [4, 5, 6] k (fun kq v4 v5 v6 w' => ∃ (D : Nat → Prop) (vn vs : List Value) (now seen : List Pt) (n : Int), v6 = .int .i64 n ∧ Aside0 (0 ≤ n) ∧ Aside0 (impl_OrderFewest.lev k kq now seen n = some (r1, r2)) ∧ Aside0 (Sit w.heap.size 23 w w' D v4 v5 (.slice none 0 0) vn vs [] now seen []))
   case atStart => exact ⟨_, _, _, _, _, 0, rfl, ⟨by omega⟩, H, HST nd⟩
   case round =>
    clear H HST
    obtain ⟨D, vn, vs, now, seen, n, rfl, HN, H, HS⟩ := hrel
    cases gk with
    | zero => exact absurd H.out (by simp [impl_OrderFewest.lev])
    | succ g1 =>
     have h2 := H.out
     unfold impl_OrderFewest.lev at h2
     obtain ⟨An, cn, rfl⟩ := HS.out.now.val
     by_cases c0_ : now.length = 0
     ·rw [if_pos c0_] at h2
      injection h2 with h2
      injection h2 with h3 h4
      subst h3 h4
      have q8 : decide ((0 : Int) < (now.length : Int)) = false := decide_eq_false (by omega)
      have q9 : decide (0 < now.length) = false := decide_eq_false (by omega)
      clear H c0_
      go_wp2
      go_ret2
      exact ⟨rfl, HS.out.below⟩
     ·rw [if_neg c0_] at h2
      have q8 : decide ((0 : Int) < (now.length : Int)) = true := decide_eq_true (by omega)
      have q9 : decide (0 < now.length) = true := decide_eq_true (by omega)
      by_cases c9 : n < 1000
      ·rw [if_pos c9] at h2
       have H2 := Aside0.mk h2
       have HS2 := Aside0.mk HS.out.renew
       clear h2 H
       go_wp2
       go_loopg [5, 7, 33] now.length (fun kq v5 v7 v33 w' => ∃ (D : Nat → Prop) (vs vx : List Value) (s : impl_OrderFewest.Two) (i : Nat), v33 = .int .i64 (i : Int) ∧ Aside0 (i + kq = now.length) ∧ Aside0 (((impl_OrderFewest.nowL k (now.drop i) s).bind fun o => match o with | none => some (n, true) | some s => impl_OrderFewest.lev k g1 s.2 s.1 (n + 1)) = some (r1, r2)) ∧ Aside0 (Sit w.heap.size 23 w w' D (.slice An now.length cn) v5 v7 vn vs vx now s.1 s.2))
       case atStart => exact ⟨_, _, _, (seen, []), 0, rfl, ⟨by omega⟩, H2, HS2⟩
       case round =>
        clear H2 HS2 HS D
        obtain ⟨D, vs2, vx, s, i, rfl, HI, H, HS⟩ := hrel
        have hi1 := HI.out
        cases gk with
        | zero =>
         have h3 := H.out
         rw [List.drop_eq_nil_of_le (show now.length ≤ i by omega)] at h3
         have H3 := Aside0.mk (show impl_OrderFewest.lev k g1 s.2 s.1 (n + 1) = some (r1, r2) from h3)
         have HS3 := Aside0.mk HS.out.turn
         have qi : ((i : Int) < (now.length : Int)) = False := eq_false (by omega)
         have qj : decide ((i : Int) < (now.length : Int)) = false := decide_eq_false (by omega)
         clear H h3 HS
         go_wp2
         go_roundg g1
         case measure => omega
         case rel => exact ⟨D, vx, vs2, s.2, s.1, n + 1, by have := HN.out; first | go_num | exact congrArg _ (show wrap64 (n + 1) = n + 1 from by unfold wrap64; omega), ⟨by have := HN.out; omega⟩, H3, HS3⟩
        | succ g2 =>
         have hil : i < now.length := by omega
         have qi : ((i : Int) < (now.length : Int)) = True := eq_true (by omega)
         have qj : decide ((i : Int) < (now.length : Int)) = true := decide_eq_true (by omega)
         have q0 : ((0 : Int) ≤ (i : Int)) = True := eq_true (by omega)
         obtain ⟨g, cap, u, hv, hcell, _, Aq, cq, rfl, hqc, hqF⟩ := HS.out.now.cell hil
         injection hv with e1 e2 e3
         subst e1 e3
         have h3 := H.out
         rw [List.drop_eq_getElem_cons hil] at h3
         unfold impl_OrderFewest.nowL at h3
         rw [Option.bind_assoc] at h3
         obtain ⟨t, ht, h3⟩ := Option.bind_eq_some_iff.mp h3
         have kc := impl_convex.calls k Aq cq now[i] t _ (Kd.F_now hqF) hqc ht
         have HM := Aside0.mk HS.out.now.le63
         have HQ := Aside0.mk (Kd.F_now hqF).2.1
         have hvn := HS.out.now.len
         have hui : vn[i]? = some (.slice Aq now[i].length cq) := by assumption
         have hxi : now[i]? = some now[i] := List.getElem?_eq_getElem hil
         have H3 := Aside0.mk h3
         clear H h3 ht hqF hvn
         have HU := Aside0.mk hui
         have HX := Aside0.mk hxi
         clear hui hxi
         generalize now[i] = q at *
         cases t with
         | true =>
          have h4 := H3.out
          rw [if_pos rfl] at h4
          have h5 : some (n, true) = some (r1, r2) := h4
          injection h5 with h5
          injection h5 with h6 h7
          subst h6 h7
          clear H3 h4
          go_wp2_with (go_at_call 18; refine kc.mono ?_; rintro e w1 ⟨rfl, ⟨nd, rfl⟩⟩; clear kc)
          go_ret2
          exact ⟨rfl, pw_below_drewN HS.out.below _⟩
         | false =>
          go_wp2_with (go_at_call 18; refine kc.mono ?_; rintro e w1 ⟨rfl, ⟨nd, rfl⟩⟩; clear kc)
          have h4 := H3.out
          rw [if_neg (by decide)] at h4
          rw [Option.bind_assoc] at h4
          have H4 := Aside0.mk h4
          have HS4 := Aside0.mk (HS.out.on (pw_below_drewN (Below.refl _ _) nd))
          clear H3 h4 HS hcell
          go_loopg [5, 7, 42] q.length (fun kq v5 v7 v42 w' => ∃ (D : Nat → Prop) (vs vx : List Value) (s : impl_OrderFewest.Two) (fr : Nat), v42 = .int .i64 (fr : Int) ∧ Aside0 (fr + kq = q.length) ∧ Aside0 (((impl_OrderFewest.frL q kq (fr : Int) s).bind fun s' => (impl_OrderFewest.nowL k (now.drop (i + 1)) s').bind fun o => match o with | none => some (n, true) | some s => impl_OrderFewest.lev k g1 s.2 s.1 (n + 1)) = some (r1, r2)) ∧ Aside0 (Sit w.heap.size 23 w w' D (.slice (some ⟨g, 0, none⟩) now.length cn) v5 v7 vn vs vx now s.1 s.2))
          case atStart => exact ⟨_, _, _, s, 0, rfl, ⟨by omega⟩, H4, HS4⟩
          case round =>
           clear H4 HS4 D
           obtain ⟨D, vs3, vx3, s3, fr, rfl, HF, H, HS⟩ := hrel
           have hf1 := HF.out
           cases gk with
           | zero =>
            have H5 := Aside0.mk (show ((impl_OrderFewest.nowL k (now.drop (i + 1)) s3).bind fun o => match o with | none => some (n, true) | some s => impl_OrderFewest.lev k g1 s.2 s.1 (n + 1)) = some (r1, r2) from H.out)
            have qf : ((fr : Int) < (q.length : Int)) = False := eq_false (by omega)
            have qg : decide ((fr : Int) < (q.length : Int)) = false := decide_eq_false (by omega)
            clear H
            go_wp2
            go_roundg g2
            case measure => omega
            case rel => exact ⟨D, vs3, vx3, s3, i + 1, by have h8 := HM.out; have h9 := HI.out; exact congrArg _ (show wrap64 ((i : Int) + 1) = ((i + 1 : Nat) : Int) from by unfold wrap64; omega), ⟨by have := HI.out; omega⟩, H5, HS⟩
           | succ g3 =>
            have qf : ((fr : Int) < (q.length : Int)) = True := eq_true (by omega)
            have qg : decide ((fr : Int) < (q.length : Int)) = true := decide_eq_true (by omega)
            have h6 := H.out
            unfold impl_OrderFewest.frL at h6
            rw [Option.bind_assoc] at h6
            have H6 := Aside0.mk h6
            clear H h6
            go_wp2
            go_loopg [5, 7, 11] g3 (fun kq v5 v7 v11 w' => ∃ (D : Nat → Prop) (vs vx : List Value) (s : impl_OrderFewest.Two) (tt : Nat), v11 = .int .i64 (tt : Int) ∧ Aside0 (tt + kq = q.length) ∧ Aside0 (((impl_OrderFewest.toL q (fr : Int) kq (tt : Int) s).bind fun s' => (impl_OrderFewest.frL q g3 ((fr : Int) + 1) s').bind fun s' => (impl_OrderFewest.nowL k (now.drop (i + 1)) s').bind fun o => match o with | none => some (n, true) | some s => impl_OrderFewest.lev k g1 s.2 s.1 (n + 1)) = some (r1, r2)) ∧ Aside0 (Sit w.heap.size 23 w w' D (.slice (some ⟨g, 0, none⟩) now.length cn) v5 v7 vn vs vx now s.1 s.2))
            case atStart => exact ⟨_, _, _, s3, fr + 1, by have h8 := HQ.out; have h9 := HF.out; exact congrArg _ (show wrap64 ((fr : Int) + 1) = ((fr + 1 : Nat) : Int) from by unfold wrap64; omega), ⟨by have := HF.out; omega⟩, H6, HS⟩
            case round =>
             clear H6 HS D
             obtain ⟨D, vs4, vx4, s4, tt, rfl, HT, H, HS⟩ := hrel
             have ht1 := HT.out
             cases gk with
             | zero =>
              have H5 := Aside0.mk (show ((impl_OrderFewest.frL q g3 (((fr + 1 : Nat) : Int)) s4).bind fun s' => (impl_OrderFewest.nowL k (now.drop (i + 1)) s').bind fun o => match o with | none => some (n, true) | some s => impl_OrderFewest.lev k g1 s.2 s.1 (n + 1)) = some (r1, r2) from H.out)
              have qt : ((tt : Int) < (q.length : Int)) = False := eq_false (by omega)
              have qu : decide ((tt : Int) < (q.length : Int)) = false := decide_eq_false (by omega)
              clear H
              go_wp2
              go_roundg g3
              case measure => omega
              case rel => exact ⟨D, vs4, vx4, s4, fr + 1, by have h8 := HQ.out; have h9 := HF.out; exact congrArg _ (show wrap64 ((fr : Int) + 1) = ((fr + 1 : Nat) : Int) from by unfold wrap64; omega), ⟨by have := HF.out; omega⟩, H5, HS⟩
             | succ g4 =>
              have qt : ((tt : Int) < (q.length : Int)) = True := eq_true (by omega)
              have qu : decide ((tt : Int) < (q.length : Int)) = true := decide_eq_true (by omega)
              have h6 := H.out
              unfold impl_OrderFewest.toL impl_OrderFewest.one at h6
              rw [Option.bind_assoc, Option.bind_assoc] at h6
              obtain ⟨r, hr, h6⟩ := Option.bind_eq_some_iff.mp h6
              obtain ⟨i0, hi0, hz0, hsz0, hby0⟩ := info_parts (show (Try.prog.info? 23).map (fun i => (i.zero, i.size, i.bytes)) = some (some (.slice none 0 0), 1, 24) by kernel_rfl)
              have H6 := Aside0.mk h6
              have hq := HS.out.now.el i _ _ HU.out HX.out
              have kr := impl_run.calls D Aq cq q (fr : Int) (tt : Int) r wr hq hr
              clear H h6 hr hq
              by_cases hc : s4.1.length < 1000 ∧ s4.2.length < 1000 ∧ ∀ x ∈ s4.1, ∀ y ∈ x, y.length < 4611686018427387904
              ·have h7 := H6.out
               rw [if_pos hc] at h7
               have HC := Aside0.mk hc
               have H7 := Aside0.mk h7
               clear H6 h7 hc
               by_cases hin : r ∈ s4.1
               ·have qin : decide (r ∈ s4.1) = true := decide_eq_true hin
                go_wp2_with (first | (go_at_call 19; refine kr.mono ?_; rintro e w1 ⟨v0, rfl, hN, hB⟩; obtain ⟨A1, c1, rfl, hl1, hF1⟩ := Kd.N_V (base' := 0) hN; have HB1 := Aside0.mk hB; have HF1 := Aside0.mk hF1; have HS1 := Aside0.mk (HS.out.wider hB); clear kr hN hB hF1) | (go_at_call 20; have HS2 := Aside0.mk (HS1.out.on ((Below.refl _ w1).alloc (Nat.le_refl _) (.cells #[.slice A1 r.length c1] 23))); refine (impl_OrderFewest.has (b := w1.heap.size) HS2.out.seen (Go.Proofs.Ytdjddfeokpmfaaa.HClo.alloc_new _ _ _ rfl) (Kd.C_alloc (Kd.F_now HF1.out) _) hl1 HC.out.2.2).mono ?_; rintro e w2 ⟨rfl, ⟨nd2, rfl⟩⟩))
                have h8 := H7.out
                rw [if_pos hin] at h8
                have H8 := Aside0.mk h8
                have HS3 := Aside0.mk (HS2.out.on (pw_below_drewN (Below.refl _ _) nd2))
                go_roundg g4
                case measure => omega
                case rel => exact ⟨_, vs4, vx4, s4, tt + 1, by have h8 := HQ.out; have h9 := HT.out; exact congrArg _ (show wrap64 ((tt : Int) + 1) = ((tt + 1 : Nat) : Int) from by unfold wrap64; omega), ⟨by have := HT.out; omega⟩, H8, HS3⟩
               ·have qin : decide (r ∈ s4.1) = false := decide_eq_false hin
                have h8 := H7.out
                rw [if_neg hin] at h8
                have H8 := Aside0.mk h8
                clear H7 h8 hin
                go_wp2_with (first | (go_at_call 19; refine kr.mono ?_; rintro e w1 ⟨v0, rfl, hN, hB⟩; obtain ⟨A1, c1, rfl, hl1, hF1⟩ := Kd.N_V (base' := 0) hN; have HB1 := Aside0.mk hB; have HF1 := Aside0.mk hF1; have HS1 := Aside0.mk (HS.out.wider hB); clear kr hN hB hF1) | (go_at_call 20; have HS2 := Aside0.mk (HS1.out.on ((Below.refl _ w1).alloc (Nat.le_refl _) (.cells #[.slice A1 r.length c1] 23))); refine (impl_OrderFewest.has (b := w1.heap.size) HS2.out.seen (Go.Proofs.Ytdjddfeokpmfaaa.HClo.alloc_new _ _ _ rfl) (Kd.C_alloc (Kd.F_now HF1.out) _) hl1 HC.out.2.2).mono ?_; rintro e w2 ⟨rfl, ⟨nd2, rfl⟩⟩) | (at_builtin; have HS4 := Aside0.mk (HS2.out.on (W' := ((w1.alloc (.cells #[.slice A1 r.length c1] 23)).drewN nd2).alloc (.cells #[.slice A1 r.length c1] 23)) ((pw_below_drewN (Below.refl _ _) nd2).alloc (by simp) _)); refine wpList_append_own_at _ rfl (.tmp 61) (.tmp 63) 38 rfl w.heap.size 23 i0 (.slice none 0 0) 1 24 Try.underlying38 hi0 hz0 hsz0 hby0 rfl (by omega) _ s4.1.length vs4 rfl HS4.out.seen.own _ 1 1 [.slice A1 r.length c1] rfl rfl (fun j u hj => by have h0 := cell_one_new ((w1.alloc (.cells #[.slice A1 r.length c1] 23)).drewN nd2) _ 23 j u hj; rw [show ((w1.alloc (.cells #[.slice A1 r.length c1] 23)).drewN nd2).heap.size = w1.heap.size + 1 by simp] at h0; exact h0) (fun u hu => by rw [List.mem_singleton.1 hu]; rfl) (by have := HC.out.1; unfold maxLen; omega) (by have := HC.out.1; omega) (Nat.le_trans HS4.out.be HS4.out.below.size) ?_; intro v5 w5 hown hg _ hat; have HP := Aside0.mk (HS4.out.pushS (x := r) (Kd.V_mk hl1 (Kd.F_mono (Kd.F_alloc (Kd.F_drewN (Kd.F_alloc (Kd.F_bound HF1.out) _) _) _) (fun k hk => by rcases hk with ⟨h | h, h2⟩; exact .inl h; exact .inr ⟨h, h2⟩))) hown hg hat); have e5 : w5.heap[w1.heap.size]? = some (.cells #[.slice A1 r.length c1] 23 (0, 0)) := (hg.block w1.heap.size (by simp; omega) (fun e => by have h5 := (own_lt HS1.out.seen.own e.symm).2; omega)).trans (Go.Proofs.Ytdjddfeokpmfaaa.HClo.alloc_old (by simp) (Go.Proofs.Ytdjddfeokpmfaaa.HClo.alloc_new w1 _ _ rfl)); have cb5 := cell_of_one e5) | (at_builtin; (have HS6 := Aside0.mk (HP.out.1.on (W' := w5.alloc (.cells #[.slice A1 r.length c1] 23)) ((Below.refl _ _).alloc (Nat.le_refl _) _)); refine wpList_append_own_at _ rfl (.tmp 65) (.tmp 67) 38 rfl w.heap.size 23 i0 (.slice none 0 0) 1 24 Try.underlying38 hi0 hz0 hsz0 hby0 rfl (by omega) _ s4.2.length vx4 rfl HS6.out.next.own _ 1 1 [.slice A1 r.length c1] rfl rfl (cell_one_new w5 _ 23) (fun u hu => by rw [List.mem_singleton.1 hu]; rfl) (by have := HC.out.2.1; unfold maxLen; omega) (by have := HC.out.2.1; omega) (Nat.le_trans HS6.out.be HS6.out.below.size) ?_); intro v7 w7 hown hg _ hat; have HP2 := Aside0.mk (HS6.out.pushX (x := r) (Kd.V_alloc HP.out.2 _) hown hg hat)))
                go_roundg g4
                case measure => omega
                case rel => exact ⟨_, _, _, (s4.1 ++ [r], s4.2 ++ [r]), tt + 1, by have h8 := HQ.out; have h9 := HT.out; exact congrArg _ (show wrap64 ((tt : Int) + 1) = ((tt + 1 : Nat) : Int) from by unfold wrap64; omega), ⟨by have := HT.out; omega⟩, H8, HP2⟩
              ·have h7 := H6.out; rw [if_neg hc] at h7; cases h7
      ·rw [if_neg c9] at h2; cases h2

/-! ### spec_l6In: function 45 -/
def spec_l6In.f (a0 : Int) (a1 : Int) (a2 : Int) : Option (Bool) := if a0 ≥ a1 then (some (decide (a0 ≤ a2))) else (some false)
set_option maxHeartbeats 8000000 in
set_option maxRecDepth 100000 in
theorem spec_l6In.calls (a0 : Int) (a1 : Int) (a2 : Int) (r : Bool) (w : World) (h : spec_l6In.f a0 a1 a2 = some r) :
 Calls Try.prog 45 #[.int .i64 a0, .int .i64 a1, .int .i64 a2] w fun e w' => e = .returned (.bool r) ∧ Drawn0 w w' := by
 have H : (if a0 ≥ a1 then (some (decide (a0 ≤ a2))) else (some false)) = some r := h
 clear h
 by_cases c4 : a0 ≥ a1
 ·rw [if_pos c4] at H
  have c4b0 : decide (a1 ≤ a0) = true := decide_eq_true c4
  clear c4
  obtain rfl := Option.some.inj H
  go_enter Try.func45, Try.ntmps45
  go_wp2
  go_ret
  exact ⟨by first | rfl | (simp; done) | (simp [*]; done), by repeat (first | exact Drawn0.refl _ | apply Drawn0.step)⟩
 ·rw [if_neg c4] at H
  have c4b0 : decide (a1 ≤ a0) = false := decide_eq_false c4
  clear c4
  obtain rfl := Option.some.inj H
  go_enter Try.func45, Try.ntmps45
  go_wp2
  go_ret
  exact ⟨by first | rfl | (simp; done) | (simp [*]; done), by repeat (first | exact Drawn0.refl _ | apply Drawn0.step)⟩

/-! ### spec_l6sStep: function 43 -/
def spec_l6sStep.f (l0 : List Int) : Option (Bool) := if (l0.length : Int) = 2 then (if 0 < (l0.length : Int) then ((spec_l6In.f (rd l0 0) (-9) 9).bind fun t298 => (if t298 = true then (if 1 < (l0.length : Int) then ((spec_l6In.f (rd l0 1) (-9) 9).bind fun t300 => (if t300 = true then (if (rd l0 0) = 0 then (some ((rd l0 1) != 0)) else (some true)) else (some false))) else (none)) else (some false))) else (none)) else (some false)
set_option maxHeartbeats 8000000 in
set_option maxRecDepth 100000 in
theorem spec_l6sStep.calls (A0 : Option Addr) (c0 : Nat) (l0 : List Int) (r : Bool) (w : World) (hr0 : Kd.C (Kd.int .i64) w A0 l0.length l0) (hc0 : l0.length ≤ c0) (h : spec_l6sStep.f l0 = some r) :
 Calls Try.prog 43 #[.slice A0 l0.length c0] w fun e w' => e = .returned (.bool r) ∧ Drawn0 w w' := by
 have HR0 := Aside0.mk hr0
 have HC0 := Aside0.mk hc0
 clear hr0 hc0
 have H : (if (l0.length : Int) = 2 then (if 0 < (l0.length : Int) then ((spec_l6In.f (rd l0 0) (-9) 9).bind fun t298 => (if t298 = true then (if 1 < (l0.length : Int) then ((spec_l6In.f (rd l0 1) (-9) 9).bind fun t300 => (if t300 = true then (if (rd l0 0) = 0 then (some ((rd l0 1) != 0)) else (some true)) else (some false))) else (none)) else (some false))) else (none)) else (some false)) = some r := h
 clear h
 by_cases c2 : (l0.length : Int) = 2
 ·rw [if_pos c2] at H
  have c2b0 : ((l0.length : Int) == 2) = true := beq_iff_eq.mpr c2
  have c2b1 : ((l0.length : Int) != 2) = false := bne_eq_false_iff_eq.mpr c2
  clear c2
  by_cases c3 : 0 < (l0.length : Int)
  ·rw [if_pos c3] at H
   have c3b0 : decide (0 < (l0.length : Int)) = true := decide_eq_true c3
   have c3b1 : decide (0 < l0.length) = true := decide_eq_true (by omega)
   clear c3
   replace H := Option.bind_eq_some_iff.mp H
   obtain ⟨t298, A40, H⟩ := H
   replace H : (if t298 = true then (if 1 < (l0.length : Int) then ((spec_l6In.f (rd l0 1) (-9) 9).bind fun t300 => (if t300 = true then (if (rd l0 0) = 0 then (some ((rd l0 1) != 0)) else (some true)) else (some false))) else (none)) else (some false)) = some r := H
   have A4 := Aside0.mk A40
   clear A40
   by_cases c5 : t298 = true
   ·subst c5
    have H1 : (if 1 < (l0.length : Int) then ((spec_l6In.f (rd l0 1) (-9) 9).bind fun t300 => (if t300 = true then (if (rd l0 0) = 0 then (some ((rd l0 1) != 0)) else (some true)) else (some false))) else (none)) = some r := by rw [if_pos rfl] at H; exact H
    clear H
    have H := H1
    clear H1
    by_cases c6 : 1 < (l0.length : Int)
    ·rw [if_pos c6] at H
     have c6b0 : decide (1 < (l0.length : Int)) = true := decide_eq_true c6
     have c6b1 : decide (1 < l0.length) = true := decide_eq_true (by omega)
     clear c6
     replace H := Option.bind_eq_some_iff.mp H
     obtain ⟨t300, A70, H⟩ := H
     replace H : (if t300 = true then (if (rd l0 0) = 0 then (some ((rd l0 1) != 0)) else (some true)) else (some false)) = some r := H
     have A7 := Aside0.mk A70
     clear A70
     by_cases c8 : t300 = true
     ·subst c8
      have H1 : (if (rd l0 0) = 0 then (some ((rd l0 1) != 0)) else (some true)) = some r := by rw [if_pos rfl] at H; exact H
      clear H
      have H := H1
      clear H1
      by_cases c9 : (rd l0 0) = 0
      ·rw [if_pos c9] at H
       have c9b0 : ((rd l0 0) == 0) = true := beq_iff_eq.mpr c9
       have c9b1 : ((rd l0 0) != 0) = false := bne_eq_false_iff_eq.mpr c9
       clear c9
       obtain rfl := Option.some.inj H
       have p297 : 0 ≤ (0 : Int) := (by omega)
       have q297 : 0 < (l0.length : Int) := of_decide_eq_true (by first | (with_reducible assumption) | assumption)
       obtain ⟨ad297, e297, hx297_0⟩ := Kd.at_int HR0.out 0 p297 q297
       cases e297
       have qi297 : (0 < l0.length) = True := eq_true (by omega)
       (try rw [show ((0 : Int)).toNat = 0 from rfl] at hx297_0)
       (try rw [Addr.add_zero'] at hx297_0)
       replace p297 := eq_true p297
       replace q297 := eq_true q297
       go_enter Try.func43, Try.ntmps43
       go_wp2_with (first | (go_at_call 45; (with_reducible refine (spec_l6In.calls (rd l0 0) (-9) 9 true _ A4.out).mono ?_); rintro e w' ⟨rfl, ⟨nd, rfl⟩⟩; have p299 : 0 ≤ (1 : Int) := (by omega); have q299 : 1 < (l0.length : Int) := of_decide_eq_true (by first | (with_reducible assumption) | assumption); obtain ⟨ad299, e299, hx299_0⟩ := Kd.at_int HR0.out 1 p299 q299; obtain rfl : ad297 = ad299 := (by injection e299); (try simp only [show (1 : Int).toNat = 1 from rfl, Nat.reduceMul, Nat.reduceEqDiff, Go.Addr.add, ↓reduceIte] at hx299_0); have qi299 : (1 < l0.length) = True := eq_true (by omega); (try rw [show ((1 : Int)).toNat = 1 from rfl] at hx299_0); replace p299 := eq_true p299; replace q299 := eq_true q299) | (go_at_call 45; (with_reducible refine (spec_l6In.calls (rd l0 1) (-9) 9 true _ A7.out).mono ?_); rintro e w' ⟨rfl, ⟨nd, rfl⟩⟩; have p301 : 0 ≤ (0 : Int) := (by omega); have q301 : 0 < (l0.length : Int) := of_decide_eq_true (by first | (with_reducible assumption) | assumption); obtain ⟨ad301, e301, hx301_0⟩ := Kd.at_int HR0.out 0 p301 q301; obtain rfl : ad297 = ad301 := (by injection e301); have qi301 : (0 < l0.length) = True := eq_true (by omega); (try rw [show ((0 : Int)).toNat = 0 from rfl] at hx301_0); (try rw [Addr.add_zero'] at hx301_0); replace p301 := eq_true p301; replace q301 := eq_true q301; have p302 : 0 ≤ (1 : Int) := (by omega); have q302 : 1 < (l0.length : Int) := of_decide_eq_true (by first | (with_reducible assumption) | assumption); obtain ⟨ad302, e302, hx302_0⟩ := Kd.at_int HR0.out 1 p302 q302; obtain rfl : ad297 = ad302 := (by injection e302); (try simp only [show (1 : Int).toNat = 1 from rfl, Nat.reduceMul, Nat.reduceEqDiff, Go.Addr.add, ↓reduceIte] at hx302_0); have qi302 : (1 < l0.length) = True := eq_true (by omega); (try rw [show ((1 : Int)).toNat = 1 from rfl] at hx302_0); replace p302 := eq_true p302; replace q302 := eq_true q302))
       go_ret
       exact ⟨by first | rfl | (simp; done) | (simp [*]; done), by repeat (first | exact Drawn0.refl _ | apply Drawn0.step)⟩
      ·rw [if_neg c9] at H
       have c9b0 : ((rd l0 0) == 0) = false := beq_eq_false_iff_ne.mpr c9
       have c9b1 : ((rd l0 0) != 0) = true := bne_iff_ne.mpr c9
       obtain rfl := Option.some.inj H
       have p297 : 0 ≤ (0 : Int) := (by omega)
       have q297 : 0 < (l0.length : Int) := of_decide_eq_true (by first | (with_reducible assumption) | assumption)
       obtain ⟨ad297, e297, hx297_0⟩ := Kd.at_int HR0.out 0 p297 q297
       cases e297
       have qi297 : (0 < l0.length) = True := eq_true (by omega)
       (try rw [show ((0 : Int)).toNat = 0 from rfl] at hx297_0)
       (try rw [Addr.add_zero'] at hx297_0)
       replace p297 := eq_true p297
       replace q297 := eq_true q297
       go_enter Try.func43, Try.ntmps43
       go_wp2_with (first | (go_at_call 45; (with_reducible refine (spec_l6In.calls (rd l0 0) (-9) 9 true _ A4.out).mono ?_); rintro e w' ⟨rfl, ⟨nd, rfl⟩⟩; have p299 : 0 ≤ (1 : Int) := (by omega); have q299 : 1 < (l0.length : Int) := of_decide_eq_true (by first | (with_reducible assumption) | assumption); obtain ⟨ad299, e299, hx299_0⟩ := Kd.at_int HR0.out 1 p299 q299; obtain rfl : ad297 = ad299 := (by injection e299); (try simp only [show (1 : Int).toNat = 1 from rfl, Nat.reduceMul, Nat.reduceEqDiff, Go.Addr.add, ↓reduceIte] at hx299_0); have qi299 : (1 < l0.length) = True := eq_true (by omega); (try rw [show ((1 : Int)).toNat = 1 from rfl] at hx299_0); replace p299 := eq_true p299; replace q299 := eq_true q299) | (go_at_call 45; (with_reducible refine (spec_l6In.calls (rd l0 1) (-9) 9 true _ A7.out).mono ?_); rintro e w' ⟨rfl, ⟨nd, rfl⟩⟩; have p301 : 0 ≤ (0 : Int) := (by omega); have q301 : 0 < (l0.length : Int) := of_decide_eq_true (by first | (with_reducible assumption) | assumption); obtain ⟨ad301, e301, hx301_0⟩ := Kd.at_int HR0.out 0 p301 q301; obtain rfl : ad297 = ad301 := (by injection e301); have qi301 : (0 < l0.length) = True := eq_true (by omega); (try rw [show ((0 : Int)).toNat = 0 from rfl] at hx301_0); (try rw [Addr.add_zero'] at hx301_0); replace p301 := eq_true p301; replace q301 := eq_true q301))
       go_ret
       exact ⟨by first | rfl | (simp; done) | (simp [*]; done), by repeat (first | exact Drawn0.refl _ | apply Drawn0.step)⟩
     ·replace c8 := Bool.eq_false_iff.mpr c8
      subst c8
      have H1 : (some false) = some r := by rw [if_neg (show ¬ (false = true) by decide)] at H; exact H
      clear H
      have H := H1
      clear H1
      obtain rfl := Option.some.inj H
      have p297 : 0 ≤ (0 : Int) := (by omega)
      have q297 : 0 < (l0.length : Int) := of_decide_eq_true (by first | (with_reducible assumption) | assumption)
      obtain ⟨ad297, e297, hx297_0⟩ := Kd.at_int HR0.out 0 p297 q297
      cases e297
      have qi297 : (0 < l0.length) = True := eq_true (by omega)
      (try rw [show ((0 : Int)).toNat = 0 from rfl] at hx297_0)
      (try rw [Addr.add_zero'] at hx297_0)
      replace p297 := eq_true p297
      replace q297 := eq_true q297
      go_enter Try.func43, Try.ntmps43
      go_wp2_with (first | (go_at_call 45; (with_reducible refine (spec_l6In.calls (rd l0 0) (-9) 9 true _ A4.out).mono ?_); rintro e w' ⟨rfl, ⟨nd, rfl⟩⟩; have p299 : 0 ≤ (1 : Int) := (by omega); have q299 : 1 < (l0.length : Int) := of_decide_eq_true (by first | (with_reducible assumption) | assumption); obtain ⟨ad299, e299, hx299_0⟩ := Kd.at_int HR0.out 1 p299 q299; obtain rfl : ad297 = ad299 := (by injection e299); (try simp only [show (1 : Int).toNat = 1 from rfl, Nat.reduceMul, Nat.reduceEqDiff, Go.Addr.add, ↓reduceIte] at hx299_0); have qi299 : (1 < l0.length) = True := eq_true (by omega); (try rw [show ((1 : Int)).toNat = 1 from rfl] at hx299_0); replace p299 := eq_true p299; replace q299 := eq_true q299) | (go_at_call 45; (with_reducible refine (spec_l6In.calls (rd l0 1) (-9) 9 false _ A7.out).mono ?_); rintro e w' ⟨rfl, ⟨nd, rfl⟩⟩))
      go_ret
      exact ⟨by first | rfl | (simp; done) | (simp [*]; done), by repeat (first | exact Drawn0.refl _ | apply Drawn0.step)⟩
    ·rw [if_neg c6] at H
     exact absurd H (by simp)
   ·replace c5 := Bool.eq_false_iff.mpr c5
    subst c5
    have H1 : (some false) = some r := by rw [if_neg (show ¬ (false = true) by decide)] at H; exact H
    clear H
    have H := H1
    clear H1
    obtain rfl := Option.some.inj H
    have p297 : 0 ≤ (0 : Int) := (by omega)
    have q297 : 0 < (l0.length : Int) := of_decide_eq_true (by first | (with_reducible assumption) | assumption)
    obtain ⟨ad297, e297, hx297_0⟩ := Kd.at_int HR0.out 0 p297 q297
    cases e297
    have qi297 : (0 < l0.length) = True := eq_true (by omega)
    (try rw [show ((0 : Int)).toNat = 0 from rfl] at hx297_0)
    (try rw [Addr.add_zero'] at hx297_0)
    replace p297 := eq_true p297
    replace q297 := eq_true q297
    go_enter Try.func43, Try.ntmps43
    go_wp2_with (first | (go_at_call 45; (with_reducible refine (spec_l6In.calls (rd l0 0) (-9) 9 false _ A4.out).mono ?_); rintro e w' ⟨rfl, ⟨nd, rfl⟩⟩))
    go_ret
    exact ⟨by first | rfl | (simp; done) | (simp [*]; done), by repeat (first | exact Drawn0.refl _ | apply Drawn0.step)⟩
  ·rw [if_neg c3] at H
   exact absurd H (by simp)
 ·rw [if_neg c2] at H
  have c2b0 : ((l0.length : Int) == 2) = false := beq_eq_false_iff_ne.mpr c2
  have c2b1 : ((l0.length : Int) != 2) = true := bne_iff_ne.mpr c2
  obtain rfl := Option.some.inj H
  go_enter Try.func43, Try.ntmps43
  go_wp2
  go_ret
  exact ⟨by first | rfl | (simp; done) | (simp [*]; done), by repeat (first | exact Drawn0.refl _ | apply Drawn0.step)⟩

/-! ### spec_l6sSum: function 44 -/
def spec_l6sSum.l0 : Nat → List (List Int) → Int → Int → Int → Option (Int × Int)
 | 0, _, _, _, _ => none
 | k + 1, x0, x4, x5, x6 => if x6 < (x0.length : Int) then (if 0 ≤ x6 then (if 0 < ((rd_L2 x0 x6).length : Int) then (if 1 < ((rd_L2 x0 x6).length : Int) then (spec_l6sSum.l0 k x0 (wrap64 (x4 + (rd (rd_L2 x0 x6) 0))) (wrap64 (x5 + (rd (rd_L2 x0 x6) 1))) (wrap64 (x6 + 1))) else (none)) else (none)) else (none)) else (some (x4, x5))
def spec_l6sSum.f (k : Nat) (l0 : List (List Int)) : Option (Int × Int) := spec_l6sSum.l0 k l0 0 0 0
theorem spec_l6sSum.mono_l : ∀ k, (∀ y0 y1 y2 y3, LeO (spec_l6sSum.l0 k y0 y1 y2 y3) (spec_l6sSum.l0 (k + 1) y0 y1 y2 y3))
 | 0 => fun _ _ _ _ r h => by simp [spec_l6sSum.l0] at h
 | k + 1 => by
  have ih0 := spec_l6sSum.mono_l k
  ·intro y0 y1 y2 y3
   unfold spec_l6sSum.l0
   repeat' first
   | (with_reducible exact ih0 _ _ _ _)
   | (with_reducible exact LeO.refl _)
   | (with_reducible exact LeO.none _)
   | (with_reducible refine LeO.ite ?_ ?_)
   | (with_reducible refine LeO.bind ?_ (fun _ => ?_))
   | exact ih0 _ _ _ _
   | exact LeO.none _
   | refine LeO.ite ?_ ?_
   | refine LeO.bind ?_ (fun _ => ?_)
theorem spec_l6sSum.mono : ∀ a0 k, LeO (spec_l6sSum.f k a0) (spec_l6sSum.f (k + 1) a0) := by
 intro a0 k
 have ih0 := spec_l6sSum.mono_l k
 unfold spec_l6sSum.f
 repeat' first
  | (with_reducible exact ih0 _ _ _ _)
  | (with_reducible exact LeO.refl _)
  | (with_reducible exact LeO.none _)
  | (with_reducible refine LeO.ite ?_ ?_)
  | (with_reducible refine LeO.bind ?_ (fun _ => ?_))
  | exact ih0 _ _ _ _
  | exact LeO.none _
  | refine LeO.ite ?_ ?_
  | refine LeO.bind ?_ (fun _ => ?_)
set_option maxHeartbeats 8000000 in
set_option maxRecDepth 100000 in
theorem spec_l6sSum.calls (k : Nat) (A0 : Option Addr) (c0 : Nat) (l0 : List (List Int)) (r1 : Int) (r2 : Int) (w : World) (hr0 : Kd.C (Kd.slice 3 (Kd.int .i64)) w A0 l0.length l0) (hc0 : l0.length ≤ c0) (h : spec_l6sSum.f k l0 = some (r1, r2)) :
 Calls Try.prog 44 #[.slice A0 l0.length c0] w fun e w' => e = .returned (.tuple #[.int .i64 r1, .int .i64 r2]) ∧ Drawn0 w w' := by
 have HR0 := Aside0.mk hr0
 have HC0 := Aside0.mk hc0
 clear hr0 hc0
 have H : (spec_l6sSum.l0 k l0 0 0 0) = some (r1, r2) := h
 clear h
 have H' := Aside0.mk H
 clear H
 go_enter Try.func44, Try.ntmps44
 go_wp2
 go_loopg [4, 5, 6] k (fun kq v4 v5 v6 w' => ∃ (x4_1 : Int) (x5_1 : Int) (x6_1 : Int), v4 = .int .i64 x4_1 ∧ v5 = .int .i64 x5_1 ∧ v6 = .int .i64 x6_1 ∧ Aside0 (spec_l6sSum.l0 kq l0 x4_1 x5_1 x6_1 = some (r1, r2)) ∧ Aside0 (kq ≤ k) ∧ Drawn0 w w')
 case atStart => exact ⟨(0), (0), (0), (by first | rfl | (simp; done) | (simp [*]; done)), (by first | rfl | (simp; done) | (simp [*]; done)), (by first | rfl | (simp; done) | (simp [*]; done)), H', ⟨Nat.le_refl _⟩, by repeat (first | exact Drawn0.refl _ | apply Drawn0.step)⟩
 case round =>
  clear H'
  obtain ⟨x4_1, x5_1, x6_1, rfl, rfl, rfl, HA, HK1, ⟨m1, rfl⟩⟩ := hrel
  cases gk with
  | zero => exact absurd HA.out (by simp [spec_l6sSum.l0])
  | succ k1 =>
   have H := HA.out
   clear HA
   simp only [spec_l6sSum.l0] at H
   by_cases c2 : x6_1 < (l0.length : Int)
   ·rw [if_pos c2] at H
    have c2b0 : decide (x6_1 < (l0.length : Int)) = true := decide_eq_true c2
    clear c2
    by_cases c3 : 0 ≤ x6_1
    ·rw [if_pos c3] at H
     have c3b0 : decide (0 ≤ x6_1) = true := decide_eq_true c3
     clear c3
     by_cases c4 : 0 < ((rd_L2 l0 x6_1).length : Int)
     ·rw [if_pos c4] at H
      have c4b0 : decide (0 < ((rd_L2 l0 x6_1).length : Int)) = true := decide_eq_true c4
      have c4b1 : decide (0 < (rd_L2 l0 x6_1).length) = true := decide_eq_true (by omega)
      clear c4
      by_cases c5 : 1 < ((rd_L2 l0 x6_1).length : Int)
      ·rw [if_pos c5] at H
       have c5b0 : decide (1 < ((rd_L2 l0 x6_1).length : Int)) = true := decide_eq_true c5
       have c5b1 : decide (1 < (rd_L2 l0 x6_1).length) = true := decide_eq_true (by omega)
       clear c5
       have H' := Aside0.mk H
       clear H
       have p303 : 0 ≤ (x6_1 : Int) := of_decide_eq_true (by first | (with_reducible assumption) | assumption)
       have q303 : x6_1 < (l0.length : Int) := of_decide_eq_true (by first | (with_reducible assumption) | assumption)
       obtain ⟨ad303, A303_0, c303_0, e303, hx303_0, hl303_0, hi303_0⟩ := at_L2 HR0.out x6_1 p303 q303
       cases e303
       have HR303_0 := Aside0.mk hi303_0
       have HC303_0 := Aside0.mk hl303_0
       clear hi303_0 hl303_0
       replace p303 := eq_true p303
       replace q303 := eq_true q303
       have p304 : 0 ≤ (0 : Int) := (by omega)
       have q304 : 0 < ((rd_L2 l0 x6_1).length : Int) := of_decide_eq_true (by first | (with_reducible assumption) | assumption)
       obtain ⟨ad304, e304, hx304_0⟩ := Kd.at_int HR303_0.out 0 p304 q304
       cases e304
       have qi304 : (0 < (rd_L2 l0 x6_1).length) = True := eq_true (by omega)
       (try rw [show ((0 : Int)).toNat = 0 from rfl] at hx304_0)
       (try rw [Addr.add_zero'] at hx304_0)
       replace p304 := eq_true p304
       replace q304 := eq_true q304
       have p305 : 0 ≤ (x6_1 : Int) := of_decide_eq_true (by first | (with_reducible assumption) | assumption)
       have q305 : x6_1 < (l0.length : Int) := of_decide_eq_true (by first | (with_reducible assumption) | assumption)
       obtain ⟨ad305, A305_0, c305_0, e305, hx305_0, hl305_0, hi305_0⟩ := at_L2 HR0.out x6_1 p305 q305
       obtain rfl : ad303 = ad305 := (by injection e305)
       have HR305_0 := Aside0.mk hi305_0
       have HC305_0 := Aside0.mk hl305_0
       clear hi305_0 hl305_0
       replace p305 := eq_true p305
       replace q305 := eq_true q305
       have ea_ := Option.some.inj (hx303_0.symm.trans hx305_0)
       injection ea_ with ea_ en_ ec_
       subst ea_
       subst ec_
       clear en_
       have p306 : 0 ≤ (1 : Int) := (by omega)
       have q306 : 1 < ((rd_L2 l0 x6_1).length : Int) := of_decide_eq_true (by first | (with_reducible assumption) | assumption)
       obtain ⟨ad306, e306, hx306_0⟩ := Kd.at_int HR305_0.out 1 p306 q306
       cases e306
       (try simp only [show (1 : Int).toNat = 1 from rfl, Nat.reduceMul, Nat.reduceEqDiff, Go.Addr.add, ↓reduceIte] at hx306_0)
       have qi306 : (1 < (rd_L2 l0 x6_1).length) = True := eq_true (by omega)
       (try rw [show ((1 : Int)).toNat = 1 from rfl] at hx306_0)
       replace p306 := eq_true p306
       replace q306 := eq_true q306
       go_wp2
       go_roundg k1
       case measure => have := HK1.out; omega
       case rel => exact ⟨(wrap64 (x4_1 + (rd (rd_L2 l0 x6_1) 0))), (wrap64 (x5_1 + (rd (rd_L2 l0 x6_1) 1))), (wrap64 (x6_1 + 1)), (by first | rfl | (simp; done) | (simp [*]; done)), (by first | rfl | (simp; done) | (simp [*]; done)), (by first | rfl | (simp; done) | (simp [*]; done)), H', ⟨by have := HK1.out; omega⟩, by repeat (first | exact Drawn0.refl _ | apply Drawn0.step)⟩
      ·rw [if_neg c5] at H
       exact absurd H (by simp)
     ·rw [if_neg c4] at H
      exact absurd H (by simp)
    ·rw [if_neg c3] at H
     exact absurd H (by simp)
   ·rw [if_neg c2] at H
    have c2b0 : decide (x6_1 < (l0.length : Int)) = false := decide_eq_false c2
    clear c2
    simp only [Option.some.injEq, Prod.mk.injEq] at H
    obtain ⟨rfl, rfl⟩ := H
    go_wp2
    go_ret2
    exact ⟨by first | rfl | (simp; done) | (simp [*]; done), by repeat (first | exact Drawn0.refl _ | apply Drawn0.step)⟩

/-! ### spec_PathIn: function 23 -/
def spec_PathIn.l0 : Nat → List (List Int) → Int → Option (Bool)
 | 0, _, _ => none
 | k + 1, x0, x3 => if x3 < (x0.length : Int) then (if 0 ≤ x3 then ((spec_l6sStep.f (rd_L2 x0 x3)).bind fun t308 => (if t308 = true then (spec_PathIn.l0 k x0 (wrap64 (x3 + 1))) else (some false))) else (none)) else ((spec_l6sSum.f k x0).bind fun bt309 => ((spec_l6In.f (x0.length : Int) 3 8).bind fun t311 => (if t311 = true then (if bt309.1 = 0 then (some (bt309.2 == 0)) else (some false)) else (some false))))
def spec_PathIn.f (k : Nat) (l0 : List (List Int)) : Option (Bool) := spec_PathIn.l0 k l0 0
theorem spec_PathIn.mono_l : ∀ k, (∀ y0 y1, LeO (spec_PathIn.l0 k y0 y1) (spec_PathIn.l0 (k + 1) y0 y1))
 | 0 => fun _ _ r h => by simp [spec_PathIn.l0] at h
 | k + 1 => by
  have ih0 := spec_PathIn.mono_l k
  ·intro y0 y1
   unfold spec_PathIn.l0
   repeat' first
   | (with_reducible exact ih0 _ _)
   | (with_reducible exact spec_l6sSum.mono _ _)
   | (with_reducible exact LeO.refl _)
   | (with_reducible exact LeO.none _)
   | (with_reducible refine LeO.ite ?_ ?_)
   | (with_reducible refine LeO.bind ?_ (fun _ => ?_))
   | exact ih0 _ _
   | exact spec_l6sSum.mono _ _
   | exact LeO.none _
   | refine LeO.ite ?_ ?_
   | refine LeO.bind ?_ (fun _ => ?_)
theorem spec_PathIn.mono : ∀ a0 k, LeO (spec_PathIn.f k a0) (spec_PathIn.f (k + 1) a0) := by
 intro a0 k
 have ih0 := spec_PathIn.mono_l k
 unfold spec_PathIn.f
 repeat' first
  | (with_reducible exact ih0 _ _)
  | (with_reducible exact spec_l6sSum.mono _ _)
  | (with_reducible exact LeO.refl _)
  | (with_reducible exact LeO.none _)
  | (with_reducible refine LeO.ite ?_ ?_)
  | (with_reducible refine LeO.bind ?_ (fun _ => ?_))
  | exact ih0 _ _
  | exact spec_l6sSum.mono _ _
  | exact LeO.none _
  | refine LeO.ite ?_ ?_
  | refine LeO.bind ?_ (fun _ => ?_)
set_option maxHeartbeats 8000000 in
set_option maxRecDepth 100000 in
theorem spec_PathIn.calls (k : Nat) (A0 : Option Addr) (c0 : Nat) (l0 : List (List Int)) (r : Bool) (w : World) (hr0 : Kd.C (Kd.slice 3 (Kd.int .i64)) w A0 l0.length l0) (hc0 : l0.length ≤ c0) (h : spec_PathIn.f k l0 = some r) :
 Calls Try.prog 23 #[.slice A0 l0.length c0] w fun e w' => e = .returned (.bool r) ∧ Drawn0 w w' := by
 have HR0 := Aside0.mk hr0
 have HC0 := Aside0.mk hc0
 clear hr0 hc0
 have H : (spec_PathIn.l0 k l0 0) = some r := h
 clear h
 have H' := Aside0.mk H
 clear H
 go_enter Try.func23, Try.ntmps23
 go_wp2
 go_loopg [3] k (fun kq v3 w' => ∃ (x3_1 : Int), v3 = .int .i64 x3_1 ∧ Aside0 (spec_PathIn.l0 kq l0 x3_1 = some r) ∧ Aside0 (kq ≤ k) ∧ Drawn0 w w')
 case atStart => exact ⟨(0), (by first | rfl | (simp; done) | (simp [*]; done)), H', ⟨Nat.le_refl _⟩, by repeat (first | exact Drawn0.refl _ | apply Drawn0.step)⟩
 case round =>
  clear H'
  obtain ⟨x3_1, rfl, HA, HK1, ⟨m1, rfl⟩⟩ := hrel
  cases gk with
  | zero => exact absurd HA.out (by simp [spec_PathIn.l0])
  | succ k1 =>
   have H := HA.out
   clear HA
   simp only [spec_PathIn.l0] at H
   by_cases c2 : x3_1 < (l0.length : Int)
   ·rw [if_pos c2] at H
    have c2b0 : decide (x3_1 < (l0.length : Int)) = true := decide_eq_true c2
    clear c2
    by_cases c3 : 0 ≤ x3_1
    ·rw [if_pos c3] at H
     have c3b0 : decide (0 ≤ x3_1) = true := decide_eq_true c3
     clear c3
     replace H := Option.bind_eq_some_iff.mp H
     obtain ⟨t308, A40, H⟩ := H
     replace H : (if t308 = true then (spec_PathIn.l0 k1 l0 (wrap64 (x3_1 + 1))) else (some false)) = some r := H
     have A4 := Aside0.mk A40
     clear A40
     by_cases c5 : t308 = true
     ·subst c5
      have H1 : (spec_PathIn.l0 k1 l0 (wrap64 (x3_1 + 1))) = some r := by rw [if_pos rfl] at H; exact H
      clear H
      have H := H1
      clear H1
      have H' := Aside0.mk H
      clear H
      have p307 : 0 ≤ (x3_1 : Int) := of_decide_eq_true (by first | (with_reducible assumption) | assumption)
      have q307 : x3_1 < (l0.length : Int) := of_decide_eq_true (by first | (with_reducible assumption) | assumption)
      obtain ⟨ad307, A307_0, c307_0, e307, hx307_0, hl307_0, hi307_0⟩ := at_L2 HR0.out x3_1 p307 q307
      cases e307
      have HR307_0 := Aside0.mk hi307_0
      have HC307_0 := Aside0.mk hl307_0
      clear hi307_0 hl307_0
      replace p307 := eq_true p307
      replace q307 := eq_true q307
      go_wp2_with (first | ((with_reducible refine gate_callee (f := 43) rfl ?_); refine goesL_ (some 16) rfl rfl Try.func43 (by kernel_rfl) rfl #[.slice A307_0 (rd_L2 l0 x3_1).length c307_0] rfl (by (try simp only [List.map_toArray, List.map_cons, List.map_nil]); first | done | rfl | (simp only [List.length_drop, List.length_take]; rfl)) ?_; (with_reducible refine (spec_l6sStep.calls _ _ (rd_L2 l0 x3_1) true _ ?side1 ?side2 A4.out).mono ?_); (case side1 => repeat (first | exact HR307_0.out | (with_reducible refine Kd.C_alloc ?_ _) | (with_reducible refine Kd.C_drewN ?_ _) | (with_reducible refine Kd.C_drew ?_))); (case side2 => exact HC307_0.out); rintro e w' ⟨rfl, ⟨nd, rfl⟩⟩; refine ⟨_, rfl, ?_⟩))
      go_roundg k1
      case measure => have := HK1.out; omega
      case rel => exact ⟨(wrap64 (x3_1 + 1)), (by first | rfl | (simp; done) | (simp [*]; done)), H', ⟨by have := HK1.out; omega⟩, by repeat (first | exact Drawn0.refl _ | apply Drawn0.step)⟩
     ·replace c5 := Bool.eq_false_iff.mpr c5
      subst c5
      have H1 : (some false) = some r := by rw [if_neg (show ¬ (false = true) by decide)] at H; exact H
      clear H
      have H := H1
      clear H1
      obtain rfl := Option.some.inj H
      have p307 : 0 ≤ (x3_1 : Int) := of_decide_eq_true (by first | (with_reducible assumption) | assumption)
      have q307 : x3_1 < (l0.length : Int) := of_decide_eq_true (by first | (with_reducible assumption) | assumption)
      obtain ⟨ad307, A307_0, c307_0, e307, hx307_0, hl307_0, hi307_0⟩ := at_L2 HR0.out x3_1 p307 q307
      cases e307
      have HR307_0 := Aside0.mk hi307_0
      have HC307_0 := Aside0.mk hl307_0
      clear hi307_0 hl307_0
      replace p307 := eq_true p307
      replace q307 := eq_true q307
      go_wp2_with (first | ((with_reducible refine gate_callee (f := 43) rfl ?_); refine goesL_ (some 16) rfl rfl Try.func43 (by kernel_rfl) rfl #[.slice A307_0 (rd_L2 l0 x3_1).length c307_0] rfl (by (try simp only [List.map_toArray, List.map_cons, List.map_nil]); first | done | rfl | (simp only [List.length_drop, List.length_take]; rfl)) ?_; (with_reducible refine (spec_l6sStep.calls _ _ (rd_L2 l0 x3_1) false _ ?side1 ?side2 A4.out).mono ?_); (case side1 => repeat (first | exact HR307_0.out | (with_reducible refine Kd.C_alloc ?_ _) | (with_reducible refine Kd.C_drewN ?_ _) | (with_reducible refine Kd.C_drew ?_))); (case side2 => exact HC307_0.out); rintro e w' ⟨rfl, ⟨nd, rfl⟩⟩; refine ⟨_, rfl, ?_⟩))
      go_ret
      exact ⟨by first | rfl | (simp; done) | (simp [*]; done), by repeat (first | exact Drawn0.refl _ | apply Drawn0.step)⟩
    ·rw [if_neg c3] at H
     exact absurd H (by simp)
   ·rw [if_neg c2] at H
    have c2b0 : decide (x3_1 < (l0.length : Int)) = false := decide_eq_false c2
    clear c2
    replace H := Option.bind_eq_some_iff.mp H
    obtain ⟨⟨t309, t310⟩, A60, H⟩ := H
    replace H : ((spec_l6In.f (l0.length : Int) 3 8).bind fun t311 => (if t311 = true then (if t309 = 0 then (some (t310 == 0)) else (some false)) else (some false))) = some r := H
    have A6 := Aside0.mk A60
    clear A60
    replace H := Option.bind_eq_some_iff.mp H
    obtain ⟨t311, A70, H⟩ := H
    replace H : (if t311 = true then (if t309 = 0 then (some (t310 == 0)) else (some false)) else (some false)) = some r := H
    have A7 := Aside0.mk A70
    clear A70
    by_cases c8 : t311 = true
    ·subst c8
     have H1 : (if t309 = 0 then (some (t310 == 0)) else (some false)) = some r := by rw [if_pos rfl] at H; exact H
     clear H
     have H := H1
     clear H1
     by_cases c9 : t309 = 0
     ·rw [if_pos c9] at H
      have c9b0 : (t309 == 0) = true := beq_iff_eq.mpr c9
      have c9b1 : (t309 != 0) = false := bne_eq_false_iff_eq.mpr c9
      clear c9
      obtain rfl := Option.some.inj H
      go_wp2_with (first | ((with_reducible refine gate_callee (f := 44) rfl ?_); refine goesL_ (some 20) rfl rfl Try.func44 (by kernel_rfl) rfl #[.slice A0 l0.length c0] rfl (by (try simp only [List.map_toArray, List.map_cons, List.map_nil]); first | done | rfl | (simp only [List.length_drop, List.length_take]; rfl)) ?_; (with_reducible refine (spec_l6sSum.calls k1 _ _ l0 t309 t310 _ ?side1 ?side2 A6.out).mono ?_); (case side1 => repeat (first | exact HR0.out | (with_reducible refine Kd.C_alloc ?_ _) | (with_reducible refine Kd.C_drewN ?_ _) | (with_reducible refine Kd.C_drew ?_))); (case side2 => exact HC0.out); rintro e w' ⟨rfl, ⟨nd, rfl⟩⟩; refine ⟨_, rfl, ?_⟩) | ((with_reducible refine gate_callee (f := 45) rfl ?_); refine goesL_ (some 25) rfl rfl Try.func45 (by kernel_rfl) rfl #[.int .i64 (l0.length : Int), .int .i64 3, .int .i64 8] rfl (by (try simp only [List.map_toArray, List.map_cons, List.map_nil]); first | done | rfl | (simp only [List.length_drop, List.length_take]; rfl)) ?_; (with_reducible refine (spec_l6In.calls (l0.length : Int) 3 8 true _ A7.out).mono ?_); rintro e w' ⟨rfl, ⟨nd, rfl⟩⟩; refine ⟨_, rfl, ?_⟩))
      go_ret
      exact ⟨by first | rfl | (simp; done) | (simp [*]; done), by repeat (first | exact Drawn0.refl _ | apply Drawn0.step)⟩
     ·rw [if_neg c9] at H
      have c9b0 : (t309 == 0) = false := beq_eq_false_iff_ne.mpr c9
      have c9b1 : (t309 != 0) = true := bne_iff_ne.mpr c9
      obtain rfl := Option.some.inj H
      go_wp2_with (first | ((with_reducible refine gate_callee (f := 44) rfl ?_); refine goesL_ (some 20) rfl rfl Try.func44 (by kernel_rfl) rfl #[.slice A0 l0.length c0] rfl (by (try simp only [List.map_toArray, List.map_cons, List.map_nil]); first | done | rfl | (simp only [List.length_drop, List.length_take]; rfl)) ?_; (with_reducible refine (spec_l6sSum.calls k1 _ _ l0 t309 t310 _ ?side1 ?side2 A6.out).mono ?_); (case side1 => repeat (first | exact HR0.out | (with_reducible refine Kd.C_alloc ?_ _) | (with_reducible refine Kd.C_drewN ?_ _) | (with_reducible refine Kd.C_drew ?_))); (case side2 => exact HC0.out); rintro e w' ⟨rfl, ⟨nd, rfl⟩⟩; refine ⟨_, rfl, ?_⟩) | ((with_reducible refine gate_callee (f := 45) rfl ?_); refine goesL_ (some 25) rfl rfl Try.func45 (by kernel_rfl) rfl #[.int .i64 (l0.length : Int), .int .i64 3, .int .i64 8] rfl (by (try simp only [List.map_toArray, List.map_cons, List.map_nil]); first | done | rfl | (simp only [List.length_drop, List.length_take]; rfl)) ?_; (with_reducible refine (spec_l6In.calls (l0.length : Int) 3 8 true _ A7.out).mono ?_); rintro e w' ⟨rfl, ⟨nd, rfl⟩⟩; refine ⟨_, rfl, ?_⟩))
      go_ret
      exact ⟨by first | rfl | (simp; done) | (simp [*]; done), by repeat (first | exact Drawn0.refl _ | apply Drawn0.step)⟩
    ·replace c8 := Bool.eq_false_iff.mpr c8
     subst c8
     have H1 : (some false) = some r := by rw [if_neg (show ¬ (false = true) by decide)] at H; exact H
     clear H
     have H := H1
     clear H1
     obtain rfl := Option.some.inj H
     go_wp2_with (first | ((with_reducible refine gate_callee (f := 44) rfl ?_); refine goesL_ (some 20) rfl rfl Try.func44 (by kernel_rfl) rfl #[.slice A0 l0.length c0] rfl (by (try simp only [List.map_toArray, List.map_cons, List.map_nil]); first | done | rfl | (simp only [List.length_drop, List.length_take]; rfl)) ?_; (with_reducible refine (spec_l6sSum.calls k1 _ _ l0 t309 t310 _ ?side1 ?side2 A6.out).mono ?_); (case side1 => repeat (first | exact HR0.out | (with_reducible refine Kd.C_alloc ?_ _) | (with_reducible refine Kd.C_drewN ?_ _) | (with_reducible refine Kd.C_drew ?_))); (case side2 => exact HC0.out); rintro e w' ⟨rfl, ⟨nd, rfl⟩⟩; refine ⟨_, rfl, ?_⟩) | ((with_reducible refine gate_callee (f := 45) rfl ?_); refine goesL_ (some 25) rfl rfl Try.func45 (by kernel_rfl) rfl #[.int .i64 (l0.length : Int), .int .i64 3, .int .i64 8] rfl (by (try simp only [List.map_toArray, List.map_cons, List.map_nil]); first | done | rfl | (simp only [List.length_drop, List.length_take]; rfl)) ?_; (with_reducible refine (spec_l6In.calls (l0.length : Int) 3 8 false _ A7.out).mono ?_); rintro e w' ⟨rfl, ⟨nd, rfl⟩⟩; refine ⟨_, rfl, ?_⟩))
     go_ret
     exact ⟨by first | rfl | (simp; done) | (simp [*]; done), by repeat (first | exact Drawn0.refl _ | apply Drawn0.step)⟩

end Go.Proofs.Ytdjddfeokpmfaaa.PFnFewest
