-- Made by hprint.py (wip/) out of the translation; not trusted: Lean checks it.
import Derived.Test.YtdjddfeokpmfaaaPFnFewestx0
import Derived.Test.YtdjddfeokpmfaaaPFnFewestx3
import Derived.Test.YtdjddfeokpmfaaaPFnFewestx4
import Derived.Test.YtdjddfeokpmfaaaPFnFewestx5
import Derived.Test.YtdjddfeokpmfaaaPFnFewestx6
import Derived.Test.YtdjddfeokpmfaaaPFnFewestx10
namespace Go.Proofs.Ytdjddfeokpmfaaa.PFnFewest
open Go.RowKit Go.Proofs.YtdjddfeokpmfaaaW.PrintWords Go.Proofs.YtdjddfeokpmfaaaW.PrintLast Go.Proofs.YtdjddfeokpmfaaaW.PrintMore
attribute [local go_sem] max2_int min2_int max_two min_two max_three min_three max_four min_four   -- for this text's walks alone
set_option linter.unusedVariables false
set_option linter.unusedSimpArgs false

/-! ### slices_SortStableFunc_int_int: function 28, by hand -/
def slices_SortStableFunc_int_int.ren : Go.Shelf.Ren := ⟨fun | 20 => 52 | n => n, fun | 24 => 41 | 22 => 23 | 3 => 3 | 25 => 43 | 4 => 4 | 0 => 0 | n => n, fun n => n⟩
theorem slices_SortStableFunc_int_int.lay : SlLaysF.n20 Try.prog slices_SortStableFunc_int_int.ren :=
 { mixed := rfl, f20 := ⟨Try.f52.name, by decide, Try.func52.trans (congrArg some rfl)⟩, t0 := Try.underlying0, a0 := Try.isAgg0, z0 := Try.sizeOf0, v0 := Try.zeroValue0, t3 := Try.underlying3, a3 := Try.isAgg3, z3 := Try.sizeOf3, v3 := Try.zeroValue3, t4 := Try.underlying4, a4 := Try.isAgg4, z4 := Try.sizeOf4, v4 := Try.zeroValue4, t22 := Try.underlying23, a22 := Try.isAgg23, z22 := Try.sizeOf23, v22 := Try.zeroValue23, a24 := Try.isAgg41, z24 := Try.sizeOf41, t25 := Try.underlying43, a25 := Try.isAgg43, z25 := Try.sizeOf43, v25 := Try.zeroValue43 }
open Go.Proofs.Ytdjddfeokpmfaaa.HRaw Go.Proofs.Ytdjddfeokpmfaaa.HSrt in
set_option maxHeartbeats 8000000 in
set_option maxRecDepth 100000 in
theorem slices_SortStableFunc_int_int.calls {w : World} {e base : Nat} {ok : Nat → Prop} {v : Value} {xs : List (List Int)} {g cap : Nat} {cur : Array Value} {hs : List Hd} {f : Nat → Nat} (O : OpenS w 3 e base ok v xs g cap cur hs f) (hn : 0 < xs.length) (h20 : xs.length < 20)
 (cmp : List Int → List Int → Int) (q : Nat) (eg : ∀ args w, (callFunc q args).run Try.prog w = .ok (.enter q args) w)
 (hcmp : ∀ (W : World) (i j : Nat) (hi : i < xs.length) (hj : j < xs.length), (∀ k, k ≠ g → k < w.heap.size → W.heap[k]? = w.heap[k]?) →
  Calls Try.prog q #[encH (hs[i]'(by rw [O.hlen]; exact hi)), encH (hs[j]'(by rw [O.hlen]; exact hj))] W fun e w' => e = .returned (.int .i64 (cmp xs[i] xs[j])) ∧ ∃ m, w' = W.drewN m) :
 Calls Try.prog 28 #[v, .func (.func q) #[] #[]] w fun e' w' => e' = .returned (.tuple #[]) ∧ (∃ cur' hs' f', OpenS w' 3 e base ok v (isort (fun a b => decide (cmp a b < 0)) xs) g cap cur' hs' f') ∧ Below base w w' := by
 letI : Inhabited (Fin xs.length) := ⟨⟨0, hn⟩⟩
 have hl := O.hlen
 obtain rfl := O.val
 have hcf : ∀ a b : Fin xs.length, (fun a b : Fin xs.length => cmp xs[a.1] xs[b.1]) a b = cmp xs[a.1] xs[b.1] := fun _ _ => rfl
 generalize hod : order hn (fun a b : Fin xs.length => cmp xs[a.1] xs[b.1]) = od
 have hsz : od.size = xs.length := by
  have h1 := order_toList hn (fun a b : Fin xs.length => cmp xs[a.1] xs[b.1])
  have h2 := congrArg List.length h1
  rw [(isort_perm _ _).length_eq, hod] at h2
  simpa using h2
 have hH : Go.Sort.Holds (fun i : Fin xs.length => encH (hs[i.1]'(by rw [hl]; exact i.2))) w g 0 (Array.ofFn (id : Fin xs.length → Fin xs.length)) := by
  intro j hj
  have hj' : j < xs.length := by simpa using hj
  constructor
  ·unfold World.cell?
   rw [O.blk, getElem!_pos _ j hj]
   show cur[0 + j]? = _
   rw [Nat.zero_add, O.hd j (by omega)]
   simp
  ·unfold World.frozen?
   rw [O.blk]
   simp
 have hC := Any.insertionSortCmpFunc_one slices_SortStableFunc_int_int.lay (fun i : Fin xs.length => encH (hs[i.1]'(by rw [hl]; exact i.2))) (fun _ => rfl) (fun a b : Fin xs.length => cmp xs[a.1] xs[b.1]) q #[] g 0 cap 0 xs.length (Array.ofFn id) w eg ?_ hH (by omega) (by simp) (by simp; omega)
 ·rw [show (Array.ofFn (id : Fin xs.length → Fin xs.length)).size = xs.length from by simp] at hC
  have e0 : Go.Sort.insertionSort (ltOf fun a b : Fin xs.length => cmp xs[a.1] xs[b.1]) (Array.ofFn id) 0 xs.length = od := hod
  rw [e0] at hC
  have hC' : Calls Try.prog 52 #[.slice (some ⟨g, 0, none⟩) xs.length cap, .int .i64 ((0 : Nat) : Int), .int .i64 (xs.length : Int), .func (.func q) #[] #[]] w fun e' w' => e' = .returned (.tuple #[]) ∧ (∃ cur' hs' f', OpenS w' 3 e base ok (.slice (some ⟨g, 0, none⟩) xs.length cap) (isort (fun a b => decide (cmp a b < 0)) xs) g cap cur' hs' f') ∧ Below base w w' := by
   refine hC.mono ?_
   rintro e' w' ⟨rfl, m, rfl⟩
   refine ⟨rfl, ?_, ?_⟩
   ·obtain ⟨hs', f', O'⟩ := O.sorted (W := (Go.Sort.putRow (fun i : Fin xs.length => encH (hs[i.1]'(by rw [hl]; exact i.2))) w g 0 od).drewN m) hn cmp (fun k hk => putRow_ne _ _ _ _ _ _ hk) (putRow_at _ _ _ _ _ O.blk) (by rw [← O.size]; simp [Go.Sort.putCells]) _ hcf od hod.symm (fun j hj => by
     have hj' : j < od.size := by simpa using hj
     rw [putCells_get, O.hd j (by omega), Option.map_some, if_pos ⟨Nat.zero_le _, by omega⟩, Nat.sub_zero, getElem!_pos od j hj']
     simp)
    exact ⟨_, hs', f', O'⟩
   ·have := below_putRow (fun i : Fin xs.length => encH (hs[i.1]'(by rw [hl]; exact i.2))) (Below.refl base w) 0 O.ge 0 od
    exact pw_below_drewN this m
  clear hC hH hcmp hcf e0 hsz hod
  have c93 := hC'
  clear hC'
  have h87 : Calls Try.prog 49 #[.slice (some ⟨g, 0, none⟩) xs.length cap, .int .i64 (xs.length : Int), .func (.func q) #[] #[]] w fun e' w' => e' = .returned (.tuple #[]) ∧ (∃ cur' hs' f', OpenS w' 3 e base ok (.slice (some ⟨g, 0, none⟩) xs.length cap) (isort (fun a b => decide (cmp a b < 0)) xs) g cap cur' hs' f') ∧ Below base w w' := by
   clear O eg
   go_enter Try.func49, Try.ntmps49
   go_wp2
   go_loopg [7, 8] 0 (fun kq v7 v8 w' => v7 = .int .i64 0 ∧ v8 = .int .i64 20 ∧ w' = w)
   case atStart => exact ⟨rfl, rfl, rfl⟩
   case round =>
    obtain ⟨rfl, rfl, rfl⟩ := hrel
    have q1 : ((20 : Int) ≤ (xs.length : Int)) = False := eq_false (by omega)
    have q2 : ((20 : Int) < (xs.length : Int)) = False := eq_false (by omega)
    go_wp2_with (first | (go_at_call 52; refine c93.mono ?_; rintro e' w1 ⟨rfl, hO, hB⟩; have HOO := Aside0.mk hO; have HBB := Aside0.mk hB; clear hO hB c93))
    go_loopg [6] 0 (fun kq v6 w' => v6 = .int .i64 20 ∧ w' = w1)
    case atStart => exact ⟨rfl, rfl⟩
    case round =>
     obtain ⟨rfl, rfl⟩ := hrel
     go_wp2
     go_end0
     exact ⟨rfl, HOO.out, HBB.out⟩
  go_enter Try.func28, Try.ntmps28
  go_wp2_with (first | (go_at_call 49; refine h87.mono ?_; rintro e' w' ⟨rfl, hO, hB⟩))
  go_end0
  exact ⟨rfl, hO, hB⟩
 ·intro m os dk hdk x y
  have hW : ∀ k, k ≠ g → k < w.heap.size → (sortWorld (fun i : Fin xs.length => encH (hs[i.1]'(by rw [hl]; exact i.2))) w g 0 m dk os).heap[k]? = w.heap[k]? := by
   intro k hk hlt
   unfold sortWorld
   show ((Go.Sort.putRow _ (Go.Sort.ahead w m) g 0 dk).heap ++ os)[k]? = _
   rw [Array.getElem?_append_left (by rw [Go.Sort.size_putRow]; exact hlt), putRow_ne _ _ _ _ _ _ hk]
   rfl
  exact hcmp _ x.1 y.1 x.2 y.2 hW

/-! ### impl_OrderSorted: function 8, by hand -/
def impl_OrderSorted.cmp (a b : List Int) : Int := (impl_compareSteps.f a b).getD 0
def impl_OrderSorted.f (k : Nat) (l0 : List (List Int)) : Option (List (List Int) × Bool) := (impl_PathIn.f k l0).bind fun t => if t = true then ((impl_copySteps.f k l0).bind fun y => if 0 < y.length ∧ y.length < 20 ∧ ∀ a ∈ y, ∀ b ∈ y, (impl_compareSteps.f a b).isSome = true then some (Go.Proofs.Ytdjddfeokpmfaaa.HSrt.isort (fun a b => decide (impl_OrderSorted.cmp a b < 0)) y, true) else none) else some ([], false)
theorem impl_OrderSorted.mono : ∀ a0 k, LeO (impl_OrderSorted.f k a0) (impl_OrderSorted.f (k + 1) a0) := by
 intro a0 k
 unfold impl_OrderSorted.f
 refine LeO.bind (impl_PathIn.mono _ _) (fun t => ?_)
 exact LeO.ite (LeO.bind (impl_copySteps.mono _ _) (fun y => LeO.refl _)) (LeO.refl _)
open Go.Proofs.Ytdjddfeokpmfaaa.HRaw Go.Proofs.Ytdjddfeokpmfaaa.HSrt in
set_option maxHeartbeats 8000000 in
set_option maxRecDepth 100000 in
theorem impl_OrderSorted.calls (k : Nat) (A0 : Option Addr) (c0 : Nat) (l0 : List (List Int)) (r1 : List (List Int)) (r2 : Bool) (w : World) (hr0 : Kd.C (Kd.slice 3 (Kd.int .i64)) w A0 l0.length l0) (hc0 : l0.length ≤ c0) (h : impl_OrderSorted.f k l0 = some (r1, r2)) :
 Calls Try.prog 8 #[.slice A0 l0.length c0] w fun e w' => ∃ v0_ : Value, e = .returned (.tuple #[v0_, .bool r2]) ∧ Kd.S (Kd.slice 3 (Kd.int .i64)) 41 w' w.heap.size (fun _ => True) v0_ r1 ∧ Below w.heap.size w w' := by
 unfold impl_OrderSorted.f at h
 obtain ⟨t, h1, h⟩ := Option.bind_eq_some_iff.mp h
 cases t with
 | false =>
  rw [if_neg (by decide)] at h
  obtain ⟨rfl, rfl⟩ : r1 = [] ∧ r2 = false := by injection h with h; injection h with a b; exact ⟨a.symm, b.symm⟩
  have c1 := impl_PathIn.calls k A0 c0 l0 false w hr0 hc0 h1
  clear h h1
  go_enter Try.func8, Try.ntmps8
  go_wp2_with (first | (go_at_call 17; refine c1.mono ?_; rintro e w' ⟨rfl, ⟨nd, rfl⟩⟩))
  go_ret2
  exact ⟨_, rfl, Kd.S_nil _ _ _ _ _, pw_below_drewN (Below.refl _ _) _⟩
 | true =>
  rw [if_pos rfl] at h
  obtain ⟨y, h2, h⟩ := Option.bind_eq_some_iff.mp h
  by_cases g0 : 0 < y.length ∧ y.length < 20 ∧ ∀ a ∈ y, ∀ b ∈ y, (impl_compareSteps.f a b).isSome = true
  ·rw [if_pos g0] at h
   obtain ⟨rfl, rfl⟩ : r1 = isort (fun a b => decide (impl_OrderSorted.cmp a b < 0)) y ∧ r2 = true := by injection h with h; injection h with a b; exact ⟨a.symm, b.symm⟩
   obtain ⟨hn, h20, hcs⟩ := g0
   have c1 := impl_PathIn.calls k A0 c0 l0 true w hr0 hc0 h1
   have c2 : ∀ nd, Calls Try.prog 27 #[.slice A0 l0.length c0] (w.drewN nd) _ := fun nd => impl_copySteps.calls k A0 c0 l0 y (w.drewN nd) (Kd.C_drewN hr0 nd) hc0 h2
   clear h h1 h2
   go_enter Try.func8, Try.ntmps8
   go_wp2_with (first | (go_at_call 17; refine c1.mono ?_; rintro e w' ⟨rfl, ⟨nd, rfl⟩⟩; clear c1) | (go_at_call 27; refine (c2 _).mono ?_; rintro e w2 ⟨v0, rfl, hS, hB⟩; clear c2; obtain ⟨g, cap, cur, hs, f, O⟩ := open_S hS hn; have OO := Aside0.mk O; clear O hS))
   have hcmp : ∀ (W : World) (i j : Nat) (hi : i < y.length) (hj : j < y.length), (∀ k, k ≠ g → k < w2.heap.size → W.heap[k]? = w2.heap[k]?) →
    Calls Try.prog 29 #[encH (hs[i]'(by rw [OO.out.hlen]; exact hi)), encH (hs[j]'(by rw [OO.out.hlen]; exact hj))] W fun e w' => e = .returned (.int .i64 (impl_OrderSorted.cmp y[i] y[j])) ∧ ∃ m, w' = W.drewN m := by
    intro W i j hi hj hW
    obtain ⟨e1, e2, hC1⟩ := OO.out.reads hW i hi (by rw [OO.out.hlen]; exact hi)
    obtain ⟨e3, e4, hC2⟩ := OO.out.reads hW j hj (by rw [OO.out.hlen]; exact hj)
    obtain ⟨r, hr⟩ := Option.isSome_iff_exists.1 (hcs y[i] (List.getElem_mem _) y[j] (List.getElem_mem _))
    have c := impl_compareSteps.calls _ _ y[i] _ _ y[j] r W hC1 e2 hC2 e4 hr
    rw [← e1, ← e3] at c
    refine Calls.mono (show Calls Try.prog 29 #[encH _, encH _] W _ from c) ?_
    rintro e w' ⟨rfl, hD⟩
    exact ⟨by unfold impl_OrderSorted.cmp; rw [hr]; rfl, hD.out⟩
   refine (slices_SortStableFunc_int_int.calls OO.out hn h20 impl_OrderSorted.cmp 29 (enters_of Try.func29 (by kernel_rfl) rfl) hcmp).mono ?_
   rintro e w3 ⟨rfl, ⟨cur', hs', f', O'⟩, hB3⟩
   clear hcmp OO
   go_wp2
   go_ret2
   exact ⟨_, rfl, O'.shut, Below.trans (Below.trans (pw_below_drewN (Below.refl _ w) nd) hB) hB3⟩
  ·rw [if_neg g0] at h; cases h

/-! ### impl_areaOf: function 30 -/
def impl_areaOf.l0 : Nat → Int → Int → Int → List (List Int) → Int → Int → Option (Int)
 | 0, _, _, _, _, _, _ => none
 | k + 1, x3, x4, x5, x8, x9, x10 => if x10 < x9 then (if 0 ≤ x10 then (if x10 < (x8.length : Int) then (if 1 < ((rd_L2 x8 x10).length : Int) then (if 0 < ((rd_L2 x8 x10).length : Int) then (impl_areaOf.l0 k (wrap64 (x3 + (wrap64 ((wrap64 (x4 * (wrap64 (x5 + (rd (rd_L2 x8 x10) 1))))) - (wrap64 (x5 * (wrap64 (x4 + (rd (rd_L2 x8 x10) 0))))))))) (wrap64 (x4 + (rd (rd_L2 x8 x10) 0))) (wrap64 (x5 + (rd (rd_L2 x8 x10) 1))) x8 x9 (wrap64 (x10 + 1))) else (none)) else (none)) else (none)) else (none)) else (some x3)
def impl_areaOf.f (k : Nat) (l0 : List (List Int)) : Option (Int) := impl_areaOf.l0 k 0 0 0 l0 (l0.length : Int) 0
theorem impl_areaOf.mono_l : ∀ k, (∀ y0 y1 y2 y3 y4 y5, LeO (impl_areaOf.l0 k y0 y1 y2 y3 y4 y5) (impl_areaOf.l0 (k + 1) y0 y1 y2 y3 y4 y5))
 | 0 => fun _ _ _ _ _ _ r h => by simp [impl_areaOf.l0] at h
 | k + 1 => by
  have ih0 := impl_areaOf.mono_l k
  ·intro y0 y1 y2 y3 y4 y5
   unfold impl_areaOf.l0
   repeat' first
   | (with_reducible exact ih0 _ _ _ _ _ _)
   | (with_reducible exact LeO.refl _)
   | (with_reducible exact LeO.none _)
   | (with_reducible refine LeO.ite ?_ ?_)
   | (with_reducible refine LeO.bind ?_ (fun _ => ?_))
   | exact ih0 _ _ _ _ _ _
   | exact LeO.none _
   | refine LeO.ite ?_ ?_
   | refine LeO.bind ?_ (fun _ => ?_)
theorem impl_areaOf.mono : ∀ a0 k, LeO (impl_areaOf.f k a0) (impl_areaOf.f (k + 1) a0) := by
 intro a0 k
 have ih0 := impl_areaOf.mono_l k
 unfold impl_areaOf.f
 repeat' first
  | (with_reducible exact ih0 _ _ _ _ _ _)
  | (with_reducible exact LeO.refl _)
  | (with_reducible exact LeO.none _)
  | (with_reducible refine LeO.ite ?_ ?_)
  | (with_reducible refine LeO.bind ?_ (fun _ => ?_))
  | exact ih0 _ _ _ _ _ _
  | exact LeO.none _
  | refine LeO.ite ?_ ?_
  | refine LeO.bind ?_ (fun _ => ?_)
set_option maxHeartbeats 8000000 in
set_option maxRecDepth 100000 in
theorem impl_areaOf.calls (k : Nat) (A0 : Option Addr) (c0 : Nat) (l0 : List (List Int)) (r : Int) (w : World) (hr0 : Kd.C (Kd.slice 3 (Kd.int .i64)) w A0 l0.length l0) (hc0 : l0.length ≤ c0) (h : impl_areaOf.f k l0 = some r) :
 Calls Try.prog 30 #[.slice A0 l0.length c0] w fun e w' => e = .returned (.int .i64 r) ∧ Drawn0 w w' := by
 have HR0 := Aside0.mk hr0
 have HC0 := Aside0.mk hc0
 clear hr0 hc0
 have H : (impl_areaOf.l0 k 0 0 0 l0 (l0.length : Int) 0) = some r := h
 clear h
 have H' := Aside0.mk H
 clear H
 go_enter Try.func30, Try.ntmps30
 go_wp2
 repeat (go_quiet (fail); try go_wp2)
 go_loopg [3, 4, 5, 10] k (fun kq v3 v4 v5 v10 w' => ∃ (x3_1 : Int) (x4_1 : Int) (x5_1 : Int) (x10_1 : Int), v3 = .int .i64 x3_1 ∧ v4 = .int .i64 x4_1 ∧ v5 = .int .i64 x5_1 ∧ v10 = .int .i64 x10_1 ∧ Aside0 (impl_areaOf.l0 kq x3_1 x4_1 x5_1 l0 (l0.length : Int) x10_1 = some r) ∧ Aside0 (kq ≤ k) ∧ Drawn0 w w')
 case atStart => exact ⟨(0), (0), (0), (0), (by first | rfl | (simp; done) | (simp [*]; done)), (by first | rfl | (simp; done) | (simp [*]; done)), (by first | rfl | (simp; done) | (simp [*]; done)), (by first | rfl | (simp; done) | (simp [*]; done)), H', ⟨Nat.le_refl _⟩, by repeat (first | exact Drawn0.refl _ | apply Drawn0.step)⟩
 case round =>
  clear H'
  obtain ⟨x3_1, x4_1, x5_1, x10_1, rfl, rfl, rfl, rfl, HA, HK1, ⟨m1, rfl⟩⟩ := hrel
  cases gk with
  | zero => exact absurd HA.out (by simp [impl_areaOf.l0])
  | succ k1 =>
   have H := HA.out
   clear HA
   simp only [impl_areaOf.l0] at H
   by_cases c2 : x10_1 < (l0.length : Int)
   ·rw [if_pos c2] at H
    have c2b0 : decide (x10_1 < (l0.length : Int)) = true := decide_eq_true c2
    clear c2
    by_cases c3 : 0 ≤ x10_1
    ·rw [if_pos c3] at H
     have c3b0 : decide (0 ≤ x10_1) = true := decide_eq_true c3
     clear c3
     by_cases c4 : x10_1 < (l0.length : Int)
     ·rw [if_pos c4] at H
      have c4b0 : decide (x10_1 < (l0.length : Int)) = true := decide_eq_true c4
      clear c4
      by_cases c5 : 1 < ((rd_L2 l0 x10_1).length : Int)
      ·rw [if_pos c5] at H
       have c5b0 : decide (1 < ((rd_L2 l0 x10_1).length : Int)) = true := decide_eq_true c5
       have c5b1 : decide (1 < (rd_L2 l0 x10_1).length) = true := decide_eq_true (by omega)
       clear c5
       by_cases c6 : 0 < ((rd_L2 l0 x10_1).length : Int)
       ·rw [if_pos c6] at H
        have c6b0 : decide (0 < ((rd_L2 l0 x10_1).length : Int)) = true := decide_eq_true c6
        have c6b1 : decide (0 < (rd_L2 l0 x10_1).length) = true := decide_eq_true (by omega)
        clear c6
        have H' := Aside0.mk H
        clear H
        have p396 : 0 ≤ (x10_1 : Int) := of_decide_eq_true (by first | (with_reducible assumption) | assumption)
        have q396 : x10_1 < (l0.length : Int) := of_decide_eq_true (by first | (with_reducible assumption) | assumption)
        obtain ⟨ad396, A396_0, c396_0, e396, hx396_0, hl396_0, hi396_0⟩ := at_L2 HR0.out x10_1 p396 q396
        cases e396
        have HR396_0 := Aside0.mk hi396_0
        have HC396_0 := Aside0.mk hl396_0
        clear hi396_0 hl396_0
        replace p396 := eq_true p396
        replace q396 := eq_true q396
        have p397 : 0 ≤ (1 : Int) := (by omega)
        have q397 : 1 < ((rd_L2 l0 x10_1).length : Int) := of_decide_eq_true (by first | (with_reducible assumption) | assumption)
        obtain ⟨ad397, e397, hx397_0⟩ := Kd.at_int HR396_0.out 1 p397 q397
        cases e397
        (try simp only [show (1 : Int).toNat = 1 from rfl, Nat.reduceMul, Nat.reduceEqDiff, Go.Addr.add, ↓reduceIte] at hx397_0)
        have qi397 : (1 < (rd_L2 l0 x10_1).length) = True := eq_true (by omega)
        (try rw [show ((1 : Int)).toNat = 1 from rfl] at hx397_0)
        replace p397 := eq_true p397
        replace q397 := eq_true q397
        have p398 : 0 ≤ (0 : Int) := (by omega)
        have q398 : 0 < ((rd_L2 l0 x10_1).length : Int) := of_decide_eq_true (by first | (with_reducible assumption) | assumption)
        obtain ⟨ad398, e398, hx398_0⟩ := Kd.at_int HR396_0.out 0 p398 q398
        obtain rfl : ad397 = ad398 := (by injection e398)
        have qi398 : (0 < (rd_L2 l0 x10_1).length) = True := eq_true (by omega)
        (try rw [show ((0 : Int)).toNat = 0 from rfl] at hx398_0)
        (try rw [Addr.add_zero'] at hx398_0)
        replace p398 := eq_true p398
        replace q398 := eq_true q398
        have p399 : 0 ≤ (0 : Int) := (by omega)
        have q399 : 0 < ((rd_L2 l0 x10_1).length : Int) := of_decide_eq_true (by first | (with_reducible assumption) | assumption)
        obtain ⟨ad399, e399, hx399_0⟩ := Kd.at_int HR396_0.out 0 p399 q399
        obtain rfl : ad397 = ad399 := (by injection e399)
        have qi399 : (0 < (rd_L2 l0 x10_1).length) = True := eq_true (by omega)
        (try rw [show ((0 : Int)).toNat = 0 from rfl] at hx399_0)
        (try rw [Addr.add_zero'] at hx399_0)
        replace p399 := eq_true p399
        replace q399 := eq_true q399
        have p400 : 0 ≤ (1 : Int) := (by omega)
        have q400 : 1 < ((rd_L2 l0 x10_1).length : Int) := of_decide_eq_true (by first | (with_reducible assumption) | assumption)
        obtain ⟨ad400, e400, hx400_0⟩ := Kd.at_int HR396_0.out 1 p400 q400
        obtain rfl : ad397 = ad400 := (by injection e400)
        (try simp only [show (1 : Int).toNat = 1 from rfl, Nat.reduceMul, Nat.reduceEqDiff, Go.Addr.add, ↓reduceIte] at hx400_0)
        have qi400 : (1 < (rd_L2 l0 x10_1).length) = True := eq_true (by omega)
        (try rw [show ((1 : Int)).toNat = 1 from rfl] at hx400_0)
        replace p400 := eq_true p400
        replace q400 := eq_true q400
        go_wp2
        repeat (go_quiet (fail); try go_wp2)
        go_roundg k1
        case measure => have := HK1.out; omega
        case rel => exact ⟨(wrap64 (x3_1 + (wrap64 ((wrap64 (x4_1 * (wrap64 (x5_1 + (rd (rd_L2 l0 x10_1) 1))))) - (wrap64 (x5_1 * (wrap64 (x4_1 + (rd (rd_L2 l0 x10_1) 0))))))))), (wrap64 (x4_1 + (rd (rd_L2 l0 x10_1) 0))), (wrap64 (x5_1 + (rd (rd_L2 l0 x10_1) 1))), (wrap64 (x10_1 + 1)), (by first | rfl | (simp; done) | (simp [*]; done)), (by first | rfl | (simp; done) | (simp [*]; done)), (by first | rfl | (simp; done) | (simp [*]; done)), (by first | rfl | (simp; done) | (simp [*]; done)), H', ⟨by have := HK1.out; omega⟩, by repeat (first | exact Drawn0.refl _ | apply Drawn0.step)⟩
       ·rw [if_neg c6] at H
        exact absurd H (by simp)
      ·rw [if_neg c5] at H
       exact absurd H (by simp)
     ·rw [if_neg c4] at H
      exact absurd H (by simp)
    ·rw [if_neg c3] at H
     exact absurd H (by simp)
   ·rw [if_neg c2] at H
    have c2b0 : decide (x10_1 < (l0.length : Int)) = false := decide_eq_false c2
    clear c2
    obtain rfl := Option.some.inj H
    go_wp2
    repeat (go_quiet (fail); try go_wp2)
    go_ret
    exact ⟨by first | rfl | (simp; done) | (simp [*]; done), by repeat (first | exact Drawn0.refl _ | apply Drawn0.step)⟩

/-! ### impl_PathArea: function 9 -/
def impl_PathArea.f (k : Nat) (l0 : List (List Int)) : Option (Int × Bool) := (impl_PathIn.f k l0).bind fun t401 => (if t401 = true then ((impl_areaOf.f k l0).bind fun t402 => (some (t402, true))) else (some (0, false)))
theorem impl_PathArea.mono : ∀ a0 k, LeO (impl_PathArea.f k a0) (impl_PathArea.f (k + 1) a0) := by
 intro a0 k
 unfold impl_PathArea.f
 repeat' first
  | (with_reducible exact impl_PathIn.mono _ _)
  | (with_reducible exact impl_areaOf.mono _ _)
  | (with_reducible exact LeO.refl _)
  | (with_reducible exact LeO.none _)
  | (with_reducible refine LeO.ite ?_ ?_)
  | (with_reducible refine LeO.bind ?_ (fun _ => ?_))
  | exact impl_PathIn.mono _ _
  | exact impl_areaOf.mono _ _
  | exact LeO.none _
  | refine LeO.ite ?_ ?_
  | refine LeO.bind ?_ (fun _ => ?_)
set_option maxHeartbeats 8000000 in
set_option maxRecDepth 100000 in
theorem impl_PathArea.calls (k : Nat) (A0 : Option Addr) (c0 : Nat) (l0 : List (List Int)) (r1 : Int) (r2 : Bool) (w : World) (hr0 : Kd.C (Kd.slice 3 (Kd.int .i64)) w A0 l0.length l0) (hc0 : l0.length ≤ c0) (h : impl_PathArea.f k l0 = some (r1, r2)) :
 Calls Try.prog 9 #[.slice A0 l0.length c0] w fun e w' => e = .returned (.tuple #[.int .i64 r1, .bool r2]) ∧ Drawn0 w w' := by
 have HR0 := Aside0.mk hr0
 have HC0 := Aside0.mk hc0
 clear hr0 hc0
 have H : ((impl_PathIn.f k l0).bind fun t401 => (if t401 = true then ((impl_areaOf.f k l0).bind fun t402 => (some (t402, true))) else (some (0, false)))) = some (r1, r2) := h
 clear h
 replace H := Option.bind_eq_some_iff.mp H
 obtain ⟨t401, A20, H⟩ := H
 replace H : (if t401 = true then ((impl_areaOf.f k l0).bind fun t402 => (some (t402, true))) else (some (0, false))) = some (r1, r2) := H
 have A2 := Aside0.mk A20
 clear A20
 by_cases c3 : t401 = true
 ·subst c3
  have H1 : ((impl_areaOf.f k l0).bind fun t402 => (some (t402, true))) = some (r1, r2) := by rw [if_pos rfl] at H; exact H
  clear H
  have H := H1
  clear H1
  replace H := Option.bind_eq_some_iff.mp H
  obtain ⟨t402, A40, H⟩ := H
  replace H : (some (t402, true)) = some (r1, r2) := H
  have A4 := Aside0.mk A40
  clear A40
  simp only [Option.some.injEq, Prod.mk.injEq] at H
  obtain ⟨rfl, rfl⟩ := H
  go_enter Try.func9, Try.ntmps9
  go_wp2_with (first | ((with_reducible refine gate_callee (f := 17) rfl ?_); refine goesL_ (some 5) rfl rfl Try.func17 (by kernel_rfl) rfl #[.slice A0 l0.length c0] rfl (by (try simp only [List.map_toArray, List.map_cons, List.map_nil]); first | done | rfl | (simp only [List.length_drop, List.length_take]; rfl)) ?_; (with_reducible refine (impl_PathIn.calls k _ _ l0 true _ ?side1 ?side2 A2.out).mono ?_); (case side1 => repeat (first | exact HR0.out | (with_reducible refine Kd.C_alloc ?_ _) | (with_reducible refine Kd.C_drewN ?_ _) | (with_reducible refine Kd.C_drew ?_))); (case side2 => exact HC0.out); rintro e w' ⟨rfl, ⟨nd, rfl⟩⟩; refine ⟨_, rfl, ?_⟩) | ((with_reducible refine gate_callee (f := 30) rfl ?_); refine goesL_ (some 8) rfl rfl Try.func30 (by kernel_rfl) rfl #[.slice A0 l0.length c0] rfl (by (try simp only [List.map_toArray, List.map_cons, List.map_nil]); first | done | rfl | (simp only [List.length_drop, List.length_take]; rfl)) ?_; (with_reducible refine (impl_areaOf.calls k _ _ l0 t402 _ ?side1 ?side2 A4.out).mono ?_); (case side1 => repeat (first | exact HR0.out | (with_reducible refine Kd.C_alloc ?_ _) | (with_reducible refine Kd.C_drewN ?_ _) | (with_reducible refine Kd.C_drew ?_))); (case side2 => exact HC0.out); rintro e w' ⟨rfl, ⟨nd, rfl⟩⟩; refine ⟨_, rfl, ?_⟩))
  go_ret2
  exact ⟨by first | rfl | (simp; done) | (simp [*]; done), by repeat (first | exact Drawn0.refl _ | apply Drawn0.step)⟩
 ·replace c3 := Bool.eq_false_iff.mpr c3
  subst c3
  have H1 : (some (0, false)) = some (r1, r2) := by rw [if_neg (show ¬ (false = true) by decide)] at H; exact H
  clear H
  have H := H1
  clear H1
  simp only [Option.some.injEq, Prod.mk.injEq] at H
  obtain ⟨rfl, rfl⟩ := H
  go_enter Try.func9, Try.ntmps9
  go_wp2_with (first | ((with_reducible refine gate_callee (f := 17) rfl ?_); refine goesL_ (some 5) rfl rfl Try.func17 (by kernel_rfl) rfl #[.slice A0 l0.length c0] rfl (by (try simp only [List.map_toArray, List.map_cons, List.map_nil]); first | done | rfl | (simp only [List.length_drop, List.length_take]; rfl)) ?_; (with_reducible refine (impl_PathIn.calls k _ _ l0 false _ ?side1 ?side2 A2.out).mono ?_); (case side1 => repeat (first | exact HR0.out | (with_reducible refine Kd.C_alloc ?_ _) | (with_reducible refine Kd.C_drewN ?_ _) | (with_reducible refine Kd.C_drew ?_))); (case side2 => exact HC0.out); rintro e w' ⟨rfl, ⟨nd, rfl⟩⟩; refine ⟨_, rfl, ?_⟩))
  go_ret2
  exact ⟨by first | rfl | (simp; done) | (simp [*]; done), by repeat (first | exact Drawn0.refl _ | apply Drawn0.step)⟩

/-! ### impl_PathConvex: function 10 -/
def impl_PathConvex.f (k : Nat) (l0 : List (List Int)) : Option (Bool) := (impl_PathIn.f k l0).bind fun t403 => (if t403 = true then ((impl_convex.f k l0).bind fun t404 => (some t404)) else (some false))
theorem impl_PathConvex.mono : ∀ a0 k, LeO (impl_PathConvex.f k a0) (impl_PathConvex.f (k + 1) a0) := by
 intro a0 k
 unfold impl_PathConvex.f
 repeat' first
  | (with_reducible exact impl_PathIn.mono _ _)
  | (with_reducible exact impl_convex.mono _ _)
  | (with_reducible exact LeO.refl _)
  | (with_reducible exact LeO.none _)
  | (with_reducible refine LeO.ite ?_ ?_)
  | (with_reducible refine LeO.bind ?_ (fun _ => ?_))
  | exact impl_PathIn.mono _ _
  | exact impl_convex.mono _ _
  | exact LeO.none _
  | refine LeO.ite ?_ ?_
  | refine LeO.bind ?_ (fun _ => ?_)
set_option maxHeartbeats 8000000 in
set_option maxRecDepth 100000 in
theorem impl_PathConvex.calls (k : Nat) (A0 : Option Addr) (c0 : Nat) (l0 : List (List Int)) (r : Bool) (w : World) (hr0 : Kd.C (Kd.slice 3 (Kd.int .i64)) w A0 l0.length l0) (hc0 : l0.length ≤ c0) (h : impl_PathConvex.f k l0 = some r) :
 Calls Try.prog 10 #[.slice A0 l0.length c0] w fun e w' => e = .returned (.bool r) ∧ Drawn0 w w' := by
 have HR0 := Aside0.mk hr0
 have HC0 := Aside0.mk hc0
 clear hr0 hc0
 have H : ((impl_PathIn.f k l0).bind fun t403 => (if t403 = true then ((impl_convex.f k l0).bind fun t404 => (some t404)) else (some false))) = some r := h
 clear h
 replace H := Option.bind_eq_some_iff.mp H
 obtain ⟨t403, A20, H⟩ := H
 replace H : (if t403 = true then ((impl_convex.f k l0).bind fun t404 => (some t404)) else (some false)) = some r := H
 have A2 := Aside0.mk A20
 clear A20
 by_cases c3 : t403 = true
 ·subst c3
  have H1 : ((impl_convex.f k l0).bind fun t404 => (some t404)) = some r := by rw [if_pos rfl] at H; exact H
  clear H
  have H := H1
  clear H1
  replace H := Option.bind_eq_some_iff.mp H
  obtain ⟨t404, A40, H⟩ := H
  replace H : (some t404) = some r := H
  have A4 := Aside0.mk A40
  clear A40
  obtain rfl := Option.some.inj H
  go_enter Try.func10, Try.ntmps10
  go_wp2_with (first | ((with_reducible refine gate_callee (f := 17) rfl ?_); refine goesL_ (some 4) rfl rfl Try.func17 (by kernel_rfl) rfl #[.slice A0 l0.length c0] rfl (by (try simp only [List.map_toArray, List.map_cons, List.map_nil]); first | done | rfl | (simp only [List.length_drop, List.length_take]; rfl)) ?_; (with_reducible refine (impl_PathIn.calls k _ _ l0 true _ ?side1 ?side2 A2.out).mono ?_); (case side1 => repeat (first | exact HR0.out | (with_reducible refine Kd.C_alloc ?_ _) | (with_reducible refine Kd.C_drewN ?_ _) | (with_reducible refine Kd.C_drew ?_))); (case side2 => exact HC0.out); rintro e w' ⟨rfl, ⟨nd, rfl⟩⟩; refine ⟨_, rfl, ?_⟩) | (go_at_call 18; (with_reducible refine (impl_convex.calls k _ _ l0 t404 _ ?side1 ?side2 A4.out).mono ?_); (case side1 => repeat (first | exact HR0.out | (with_reducible refine Kd.C_alloc ?_ _) | (with_reducible refine Kd.C_drewN ?_ _) | (with_reducible refine Kd.C_drew ?_))); (case side2 => exact HC0.out); rintro e w' ⟨rfl, ⟨nd, rfl⟩⟩))
  go_ret
  exact ⟨by first | rfl | (simp; done) | (simp [*]; done), by repeat (first | exact Drawn0.refl _ | apply Drawn0.step)⟩
 ·replace c3 := Bool.eq_false_iff.mpr c3
  subst c3
  have H1 : (some false) = some r := by rw [if_neg (show ¬ (false = true) by decide)] at H; exact H
  clear H
  have H := H1
  clear H1
  obtain rfl := Option.some.inj H
  go_enter Try.func10, Try.ntmps10
  go_wp2_with (first | ((with_reducible refine gate_callee (f := 17) rfl ?_); refine goesL_ (some 4) rfl rfl Try.func17 (by kernel_rfl) rfl #[.slice A0 l0.length c0] rfl (by (try simp only [List.map_toArray, List.map_cons, List.map_nil]); first | done | rfl | (simp only [List.length_drop, List.length_take]; rfl)) ?_; (with_reducible refine (impl_PathIn.calls k _ _ l0 false _ ?side1 ?side2 A2.out).mono ?_); (case side1 => repeat (first | exact HR0.out | (with_reducible refine Kd.C_alloc ?_ _) | (with_reducible refine Kd.C_drewN ?_ _) | (with_reducible refine Kd.C_drew ?_))); (case side2 => exact HC0.out); rintro e w' ⟨rfl, ⟨nd, rfl⟩⟩; refine ⟨_, rfl, ?_⟩))
  go_ret
  exact ⟨by first | rfl | (simp; done) | (simp [*]; done), by repeat (first | exact Drawn0.refl _ | apply Drawn0.step)⟩

/-! ### laws_FnFewest: function 3 -/
def laws_FnFewest.j0 : Nat → List (List Int) → Int → Bool → Int → Bool → Bool → Option (Bool)
 | 0, _, _, _, _, _, _ => none
 | k + 1, x3, x4, x5, x6, x7, x38 => if x38 = true then (if (x5 == x7) = true then (some (x4 == x6)) else (some false)) else ((impl_OrderSorted.f k x3).bind fun bt412 => ((impl_PathArea.f k bt412.1).bind fun bt416 => (if bt412.2 = true then (if bt416.2 = true then (if bt416.1 > 0 then ((impl_PathConvex.f k x3).bind fun t418 => (if ((x4 == 0) == t418) = true then (some (decide (x4 < (x3.length : Int)))) else (some false))) else (some false)) else (some false)) else (some false))))
def laws_FnFewest.f (k : Nat) (l0 : List Int) : Option (Bool) := if (l0.length : Int) > 1048576 then (some true) else ((spec_DrawOrderFewest.f k l0).bind fun t405 => ((impl_OrderFewest.f k t405).bind fun bt408 => ((spec_OrderFewest.f k t405).bind fun bt410 => (if (bt408.2 != bt410.2) = true then (laws_FnFewest.j0 k t405 bt408.1 bt408.2 bt410.1 bt410.2 true) else (if bt408.1 = bt410.1 then (laws_FnFewest.j0 k t405 bt408.1 bt408.2 bt410.1 bt410.2 (!bt408.2)) else (laws_FnFewest.j0 k t405 bt408.1 bt408.2 bt410.1 bt410.2 true))))))
theorem laws_FnFewest.mono_l : ∀ k, (∀ y0 y1 y2 y3 y4 y5, LeO (laws_FnFewest.j0 k y0 y1 y2 y3 y4 y5) (laws_FnFewest.j0 (k + 1) y0 y1 y2 y3 y4 y5))
 | 0 => fun _ _ _ _ _ _ r h => by simp [laws_FnFewest.j0] at h
 | k + 1 => by
  have ih0 := laws_FnFewest.mono_l k
  ·intro y0 y1 y2 y3 y4 y5
   unfold laws_FnFewest.j0
   repeat' first
   | (with_reducible exact ih0 _ _ _ _ _ _)
   | (with_reducible exact impl_OrderFewest.mono _ _)
   | (with_reducible exact impl_OrderSorted.mono _ _)
   | (with_reducible exact impl_PathArea.mono _ _)
   | (with_reducible exact impl_PathConvex.mono _ _)
   | (with_reducible exact spec_DrawOrderFewest.mono _ _)
   | (with_reducible exact spec_OrderFewest.mono _ _)
   | (with_reducible exact LeO.refl _)
   | (with_reducible exact LeO.none _)
   | (with_reducible refine LeO.ite ?_ ?_)
   | (with_reducible refine LeO.bind ?_ (fun _ => ?_))
   | exact ih0 _ _ _ _ _ _
   | exact impl_OrderFewest.mono _ _
   | exact impl_OrderSorted.mono _ _
   | exact impl_PathArea.mono _ _
   | exact impl_PathConvex.mono _ _
   | exact spec_DrawOrderFewest.mono _ _
   | exact spec_OrderFewest.mono _ _
   | exact LeO.none _
   | refine LeO.ite ?_ ?_
   | refine LeO.bind ?_ (fun _ => ?_)
theorem laws_FnFewest.mono : ∀ a0 k, LeO (laws_FnFewest.f k a0) (laws_FnFewest.f (k + 1) a0) := by
 intro a0 k
 have ih0 := laws_FnFewest.mono_l k
 unfold laws_FnFewest.f
 repeat' first
  | (with_reducible exact ih0 _ _ _ _ _ _)
  | (with_reducible exact impl_OrderFewest.mono _ _)
  | (with_reducible exact impl_OrderSorted.mono _ _)
  | (with_reducible exact impl_PathArea.mono _ _)
  | (with_reducible exact impl_PathConvex.mono _ _)
  | (with_reducible exact spec_DrawOrderFewest.mono _ _)
  | (with_reducible exact spec_OrderFewest.mono _ _)
  | (with_reducible exact LeO.refl _)
  | (with_reducible exact LeO.none _)
  | (with_reducible refine LeO.ite ?_ ?_)
  | (with_reducible refine LeO.bind ?_ (fun _ => ?_))
  | exact ih0 _ _ _ _ _ _
  | exact impl_OrderFewest.mono _ _
  | exact impl_OrderSorted.mono _ _
  | exact impl_PathArea.mono _ _
  | exact impl_PathConvex.mono _ _
  | exact spec_DrawOrderFewest.mono _ _
  | exact spec_OrderFewest.mono _ _
  | exact LeO.none _
  | refine LeO.ite ?_ ?_
  | refine LeO.bind ?_ (fun _ => ?_)
set_option maxHeartbeats 8000000 in
set_option maxRecDepth 100000 in
theorem laws_FnFewest.calls (k : Nat) (A0 : Option Addr) (c0 : Nat) (l0 : List Int) (r : Bool) (w : World) (hr0 : Kd.C (Kd.int .u8) w A0 l0.length l0) (hc0 : l0.length ≤ c0) (h : laws_FnFewest.f k l0 = some r) :
 Calls Try.prog 3 #[.slice A0 l0.length c0] w fun e w' => e = .returned (.bool r) ∧ Below w.heap.size w w' := by
 have HR0 := Aside0.mk hr0
 have HC0 := Aside0.mk hc0
 clear hr0 hc0
 have HB := Aside0.mk (Below.refl w.heap.size w)
 have H : (if (l0.length : Int) > 1048576 then (some true) else ((spec_DrawOrderFewest.f k l0).bind fun t405 => ((impl_OrderFewest.f k t405).bind fun bt408 => ((spec_OrderFewest.f k t405).bind fun bt410 => (if (bt408.2 != bt410.2) = true then (laws_FnFewest.j0 k t405 bt408.1 bt408.2 bt410.1 bt410.2 true) else (if bt408.1 = bt410.1 then (laws_FnFewest.j0 k t405 bt408.1 bt408.2 bt410.1 bt410.2 (!bt408.2)) else (laws_FnFewest.j0 k t405 bt408.1 bt408.2 bt410.1 bt410.2 true))))))) = some r := h
 clear h
 by_cases c2 : (l0.length : Int) > 1048576
 ·rw [if_pos c2] at H
  have c2b0 : decide (1048576 < (l0.length : Int)) = true := decide_eq_true c2
  have c2b1 : decide (1048576 < l0.length) = true := decide_eq_true (by omega)
  clear c2
  obtain rfl := Option.some.inj H
  go_enter Try.func3, Try.ntmps3
  go_wp2
  go_ret
  exact ⟨by first | rfl | (simp [errW_none, errW_some] <;> rfl) | (simp [*, errW_none, errW_some] <;> rfl), by repeat (first | (with_reducible first | exact HB.out | apply below_alloc | apply pw_below_drewN | apply below_drew1) | exact HB.out)⟩
 ·rw [if_neg c2] at H
  have c2b0 : decide (1048576 < (l0.length : Int)) = false := decide_eq_false c2
  have c2b1 : decide (1048576 < l0.length) = false := decide_eq_false (by omega)
  clear c2
  replace H := Option.bind_eq_some_iff.mp H
  obtain ⟨t405, A30, H⟩ := H
  replace H : ((impl_OrderFewest.f k t405).bind fun bt408 => ((spec_OrderFewest.f k t405).bind fun bt410 => (if (bt408.2 != bt410.2) = true then (laws_FnFewest.j0 k t405 bt408.1 bt408.2 bt410.1 bt410.2 true) else (if bt408.1 = bt410.1 then (laws_FnFewest.j0 k t405 bt408.1 bt408.2 bt410.1 bt410.2 (!bt408.2)) else (laws_FnFewest.j0 k t405 bt408.1 bt408.2 bt410.1 bt410.2 true))))) = some r := H
  have A3 := Aside0.mk A30
  clear A30
  replace H := Option.bind_eq_some_iff.mp H
  obtain ⟨⟨t408, t409⟩, A40, H⟩ := H
  replace H : ((spec_OrderFewest.f k t405).bind fun bt410 => (if (t409 != bt410.2) = true then (laws_FnFewest.j0 k t405 t408 t409 bt410.1 bt410.2 true) else (if t408 = bt410.1 then (laws_FnFewest.j0 k t405 t408 t409 bt410.1 bt410.2 (!t409)) else (laws_FnFewest.j0 k t405 t408 t409 bt410.1 bt410.2 true)))) = some r := H
  have A4 := Aside0.mk A40
  clear A40
  replace H := Option.bind_eq_some_iff.mp H
  obtain ⟨⟨t410, t411⟩, A50, H⟩ := H
  replace H : (if (t409 != t411) = true then (laws_FnFewest.j0 k t405 t408 t409 t410 t411 true) else (if t408 = t410 then (laws_FnFewest.j0 k t405 t408 t409 t410 t411 (!t409)) else (laws_FnFewest.j0 k t405 t408 t409 t410 t411 true))) = some r := H
  have A5 := Aside0.mk A50
  clear A50
  have HC6 := Aside0.mk H
  clear H
  go_enter Try.func3, Try.ntmps3
  go_upto_region 6 with (first | ((with_reducible refine gate_callee (f := 5) rfl ?_); refine goesL_ (some 16) rfl rfl Try.func5 (by kernel_rfl) rfl #[.slice A0 l0.length c0] rfl (by (try simp only [List.map_toArray, List.map_cons, List.map_nil]); first | done | rfl | (simp only [List.length_drop, List.length_take]; rfl)) ?_; (with_reducible refine (spec_DrawOrderFewest.calls k _ _ l0 t405 _ ?side1 ?side2 A3.out).mono ?_); (case side1 => repeat (first | exact HR0.out | (with_reducible refine Kd.C_alloc ?_ _) | (with_reducible refine Kd.C_drewN ?_ _) | (with_reducible refine Kd.C_drew ?_))); (case side2 => exact HC0.out); rintro e w7 ⟨v406, rfl, ho0, hb⟩; refine ⟨_, rfl, ?_⟩; have n0_ := Aside0.mk (Kd.V_lower (Kd.V_mono (ok' := fun k_ => True) ho0 (fun k_ hk_ => trivial)) (below_size (by repeat (first | (with_reducible first | exact HB.out | apply below_alloc | apply pw_below_drewN | apply below_drew1) | exact HB.out)))); have n1_ := Aside0.mk (below_step (by repeat (first | (with_reducible first | exact HB.out | apply below_alloc | apply pw_below_drewN | apply below_drew1) | exact HB.out)) hb); clear HB; have HO407 := n0_; have HB := n1_; clear n0_ n1_; (try clear hb); (try clear hb2); (try clear hk); (try clear hi); (try clear ho0); obtain ⟨Ao8, co8, eo8⟩ := Kd.V_slice HO407.out; subst eo8) | ((with_reducible refine gate_callee (f := 6) rfl ?_); refine goesL_ (some 19) rfl rfl Try.func6 (by kernel_rfl) rfl #[.slice Ao8 t405.length co8] rfl (by (try simp only [List.map_toArray, List.map_cons, List.map_nil]); first | done | rfl | (simp only [List.length_drop, List.length_take]; rfl)) ?_; (with_reducible refine (impl_OrderFewest.calls k _ _ t405 t408 t409 _ ?side1 ?side2 A4.out).mono ?_); (case side1 => repeat (first | exact (Kd.V_reads' HO407.out).2.2 | (with_reducible refine Kd.C_alloc ?_ _) | (with_reducible refine Kd.C_drewN ?_ _) | (with_reducible refine Kd.C_drew ?_))); (case side2 => exact (Kd.V_reads' HO407.out).2.1); rintro e w9 ⟨rfl, hb⟩; refine ⟨_, rfl, ?_⟩; have n0_ := Aside0.mk (Kd.V_below (by (with_reducible repeat (first | apply Kd.V_alloc | apply Kd.V_drewN | apply Kd.V_drew)); exact HO407.out) hb); have n1_ := Aside0.mk (below_step (by repeat (first | (with_reducible first | exact HB.out | apply below_alloc | apply pw_below_drewN | apply below_drew1) | exact HB.out)) hb); clear HO407; clear HB; have HO407 := n0_; have HB := n1_; clear n0_ n1_; (try clear hb); (try clear hb2); (try clear hk); (try clear hi)) | ((with_reducible refine gate_callee (f := 7) rfl ?_); refine goesL_ (some 24) rfl rfl Try.func7 (by kernel_rfl) rfl #[.slice Ao8 t405.length co8] rfl (by (try simp only [List.map_toArray, List.map_cons, List.map_nil]); first | done | rfl | (simp only [List.length_drop, List.length_take]; rfl)) ?_; (with_reducible refine (spec_OrderFewest.calls k (fun k_ => True) _ _ t405 t410 t411 _ ?side1 A5.out).mono ?_); (case side1 => exact HO407.out); rintro e w10 ⟨rfl, hb⟩; refine ⟨_, rfl, ?_⟩; have n0_ := Aside0.mk (Kd.V_below (by (with_reducible repeat (first | apply Kd.V_alloc | apply Kd.V_drewN | apply Kd.V_drew)); exact HO407.out) hb); have n1_ := Aside0.mk (below_step (by repeat (first | (with_reducible first | exact HB.out | apply below_alloc | apply pw_below_drewN | apply below_drew1) | exact HB.out)) hb); clear HO407; clear HB; have HO407 := n0_; have HB := n1_; clear n0_ n1_; (try clear hb); (try clear hb2); (try clear hk); (try clear hi)))
  (try simp only [Act.put, List.setIfInBounds_toArray, List.set_cons_zero, List.set_cons_succ])
  go_cut [38] (fun v38 wc => ∃ (kq : Nat) (x38_5 : Bool), v38 = .bool x38_5 ∧ Aside0 (laws_FnFewest.j0 kq t405 t408 t409 t410 t411 x38_5 = some r) ∧ Aside0 (kq ≤ k) ∧ Aside0 (Kd.V (Kd.slice 3 (Kd.int .i64)) 41 wc w.heap.size (fun _ => True) (.slice Ao8 t405.length co8) t405) ∧ Aside0 (Below w.heap.size w wc))
  case first =>
   have H := HC6.out
   clear HC6
   by_cases c11 : (t409 != t411) = true
   ·rw [if_pos c11] at H
    have c11b0 : (t409 != t411) = true := c11
    (try (have c11b1 : decide (t409 = t411) = false := by simpa using c11))
    (try (have c11b2 : (t409 == t411) = false := by simpa using c11))
    (try (have c11b3 : ¬ (t409 = t411) := by simpa using c11))
    clear c11
    (first | rw [c11b0] | (simp only [i64_w, i32_w]; rw [c11b0]) | skip)
    have H' := Aside0.mk H
    clear H
    go_wp2
    go_meet
    case rel => exact ⟨_, (true), (by first | rfl | (simp; done) | (simp [*]; done)), H', ⟨by first | omega | exact Nat.le_refl _⟩, ⟨by (with_reducible repeat (first | apply Kd.V_alloc | apply Kd.V_drewN | apply Kd.V_drew)); exact HO407.out⟩, ⟨by repeat (first | (with_reducible first | exact HB.out | apply below_alloc | apply pw_below_drewN | apply below_drew1) | exact HB.out)⟩⟩
   ·rw [if_neg c11] at H
    have c11b0 : (t409 != t411) = false := by simpa using c11
    (try (have c11b1 : decide (t409 = t411) = true := by simpa using c11))
    (try (have c11b2 : (t409 == t411) = true := by simpa using c11))
    clear c11
    (first | rw [c11b0] | (simp only [i64_w, i32_w]; rw [c11b0]) | skip)
    by_cases c12 : t408 = t410
    ·rw [if_pos c12] at H
     have c12b0 : (t408 == t410) = true := beq_iff_eq.mpr c12
     have c12b1 : (t408 != t410) = false := bne_eq_false_iff_eq.mpr c12
     clear c12
     have H' := Aside0.mk H
     clear H
     go_wp2
     go_meet
     case rel => exact ⟨_, (!t409), (by first | rfl | (simp; done) | (simp [*]; done)), H', ⟨by first | omega | exact Nat.le_refl _⟩, ⟨by (with_reducible repeat (first | apply Kd.V_alloc | apply Kd.V_drewN | apply Kd.V_drew)); exact HO407.out⟩, ⟨by repeat (first | (with_reducible first | exact HB.out | apply below_alloc | apply pw_below_drewN | apply below_drew1) | exact HB.out)⟩⟩
    ·rw [if_neg c12] at H
     have c12b0 : (t408 == t410) = false := beq_eq_false_iff_ne.mpr c12
     have c12b1 : (t408 != t410) = true := bne_iff_ne.mpr c12
     have H' := Aside0.mk H
     clear H
     go_wp2
     go_meet
     case rel => exact ⟨_, (true), (by first | rfl | (simp; done) | (simp [*]; done)), H', ⟨by first | omega | exact Nat.le_refl _⟩, ⟨by (with_reducible repeat (first | apply Kd.V_alloc | apply Kd.V_drewN | apply Kd.V_drew)); exact HO407.out⟩, ⟨by repeat (first | (with_reducible first | exact HB.out | apply below_alloc | apply pw_below_drewN | apply below_drew1) | exact HB.out)⟩⟩
  case rest =>
   clear HC6
   try clear c1
   try clear c2
   try clear c2b0
   try clear c2b1
   try clear p2
   try clear c3
   try clear c5
   try clear c6
   try clear c7
   try clear c11
   try clear c11b0
   try clear c11b1
   try clear c11b2
   try clear c12
   try clear c12b0
   try clear c12b1
   obtain ⟨kq, x38_5, rfl, HA, HJ5, HO_3, HB⟩ := hcut
   cases kq with
   | zero => exact absurd HA.out (by simp [laws_FnFewest.j0])
   | succ kj5 =>
    have H := HA.out
    clear HA
    simp only [laws_FnFewest.j0] at H
    by_cases c13 : x38_5 = true
    ·subst c13
     have H1 : (if (t409 == t411) = true then (some (t408 == t410)) else (some false)) = some r := by rw [if_pos rfl] at H; exact H
     clear H
     have H := H1
     clear H1
     by_cases c14 : (t409 == t411) = true
     ·rw [if_pos c14] at H
      have c14b0 : (t409 == t411) = true := c14
      (try (have c14b1 : decide (t409 = t411) = true := by simpa using c14))
      (try (have c14b2 : (t409 == t411) = true := by simpa using c14))
      clear c14
      obtain rfl := Option.some.inj H
      go_wp2
      go_ret
      exact ⟨by first | rfl | (simp [errW_none, errW_some] <;> rfl) | (simp [*, errW_none, errW_some] <;> rfl), by repeat (first | (with_reducible first | exact HB.out | apply below_alloc | apply pw_below_drewN | apply below_drew1) | exact HB.out)⟩
     ·rw [if_neg c14] at H
      have c14b0 : (t409 == t411) = false := by simpa using c14
      (try (have c14b1 : decide (t409 = t411) = false := by simpa using c14))
      (try (have c14b2 : (t409 == t411) = false := by simpa using c14))
      (try (have c14b3 : ¬ (t409 = t411) := by simpa using c14))
      clear c14
      obtain rfl := Option.some.inj H
      go_wp2
      go_ret
      exact ⟨by first | rfl | (simp [errW_none, errW_some] <;> rfl) | (simp [*, errW_none, errW_some] <;> rfl), by repeat (first | (with_reducible first | exact HB.out | apply below_alloc | apply pw_below_drewN | apply below_drew1) | exact HB.out)⟩
    ·replace c13 := Bool.eq_false_iff.mpr c13
     subst c13
     have H1 : ((impl_OrderSorted.f kj5 t405).bind fun bt412 => ((impl_PathArea.f kj5 bt412.1).bind fun bt416 => (if bt412.2 = true then (if bt416.2 = true then (if bt416.1 > 0 then ((impl_PathConvex.f kj5 t405).bind fun t418 => (if ((t408 == 0) == t418) = true then (some (decide (t408 < (t405.length : Int)))) else (some false))) else (some false)) else (some false)) else (some false)))) = some r := by rw [if_neg (show ¬ (false = true) by decide)] at H; exact H
     clear H
     have H := H1
     clear H1
     replace H := Option.bind_eq_some_iff.mp H
     obtain ⟨⟨t412, t413⟩, A150, H⟩ := H
     replace H : ((impl_PathArea.f kj5 t412).bind fun bt416 => (if t413 = true then (if bt416.2 = true then (if bt416.1 > 0 then ((impl_PathConvex.f kj5 t405).bind fun t418 => (if ((t408 == 0) == t418) = true then (some (decide (t408 < (t405.length : Int)))) else (some false))) else (some false)) else (some false)) else (some false))) = some r := H
     have A15 := Aside0.mk A150
     clear A150
     replace H := Option.bind_eq_some_iff.mp H
     obtain ⟨⟨t416, t417⟩, A160, H⟩ := H
     replace H : (if t413 = true then (if t417 = true then (if t416 > 0 then ((impl_PathConvex.f kj5 t405).bind fun t418 => (if ((t408 == 0) == t418) = true then (some (decide (t408 < (t405.length : Int)))) else (some false))) else (some false)) else (some false)) else (some false)) = some r := H
     have A16 := Aside0.mk A160
     clear A160
     by_cases c17 : t413 = true
     ·subst c17
      have H1 : (if t417 = true then (if t416 > 0 then ((impl_PathConvex.f kj5 t405).bind fun t418 => (if ((t408 == 0) == t418) = true then (some (decide (t408 < (t405.length : Int)))) else (some false))) else (some false)) else (some false)) = some r := by rw [if_pos rfl] at H; exact H
      clear H
      have H := H1
      clear H1
      by_cases c18 : t417 = true
      ·subst c18
       have H1 : (if t416 > 0 then ((impl_PathConvex.f kj5 t405).bind fun t418 => (if ((t408 == 0) == t418) = true then (some (decide (t408 < (t405.length : Int)))) else (some false))) else (some false)) = some r := by rw [if_pos rfl] at H; exact H
       clear H
       have H := H1
       clear H1
       by_cases c19 : t416 > 0
       ·rw [if_pos c19] at H
        have c19b0 : decide (0 < t416) = true := decide_eq_true c19
        clear c19
        replace H := Option.bind_eq_some_iff.mp H
        obtain ⟨t418, A200, H⟩ := H
        replace H : (if ((t408 == 0) == t418) = true then (some (decide (t408 < (t405.length : Int)))) else (some false)) = some r := H
        have A20 := Aside0.mk A200
        clear A200
        by_cases c21 : ((t408 == 0) == t418) = true
        ·rw [if_pos c21] at H
         have c21b0 : ((t408 == 0) == t418) = true := c21
         (try (have c21b1 : decide ((t408 == 0) = t418) = true := by simpa using c21))
         (try (have c21b2 : ((t408 == 0) == t418) = true := by simpa using c21))
         clear c21
         obtain rfl := Option.some.inj H
         go_wp2_with (first | ((with_reducible refine gate_callee (f := 8) rfl ?_); refine goesL_ (some 49) rfl rfl Try.func8 (by kernel_rfl) rfl #[.slice Ao8 t405.length co8] rfl (by (try simp only [List.map_toArray, List.map_cons, List.map_nil]); first | done | rfl | (simp only [List.length_drop, List.length_take]; rfl)) ?_; (with_reducible refine (impl_OrderSorted.calls kj5 _ _ t405 t412 true _ ?side1 ?side2 A15.out).mono ?_); (case side1 => repeat (first | exact (Kd.V_reads' HO_3.out).2.2 | (with_reducible refine Kd.C_alloc ?_ _) | (with_reducible refine Kd.C_drewN ?_ _) | (with_reducible refine Kd.C_drew ?_))); (case side2 => exact (Kd.V_reads' HO_3.out).2.1); rintro e w22 ⟨v414, rfl, ho0, hb⟩; refine ⟨_, rfl, ?_⟩; have n0_ := Aside0.mk (Kd.V_elder' (by (with_reducible repeat (first | apply Kd.V_alloc | apply Kd.V_drewN | apply Kd.V_drew)); exact HO_3.out) (Kd.S_base ho0) hb); have n1_ := Aside0.mk (Kd.S_lower ho0 (below_size (by repeat (first | (with_reducible first | exact HB.out | apply below_alloc | apply pw_below_drewN | apply below_drew1) | exact HB.out)))); have n2_ := Aside0.mk (below_step (by repeat (first | (with_reducible first | exact HB.out | apply below_alloc | apply pw_below_drewN | apply below_drew1) | exact HB.out)) hb); clear HO_3; clear HB; have HO_3 := n0_; have HO415 := n1_; have HB := n2_; clear n0_ n1_ n2_; (try clear hb); (try clear hb2); (try clear hk); (try clear hi); (try clear ho0); obtain ⟨Ao23, co23, eo23⟩ := Kd.S_slice HO415.out; subst eo23) | ((with_reducible refine gate_callee (f := 9) rfl ?_); refine goesL_ (some 54) rfl rfl Try.func9 (by kernel_rfl) rfl #[.slice Ao23 t412.length co23] rfl (by (try simp only [List.map_toArray, List.map_cons, List.map_nil]); first | done | rfl | (simp only [List.length_drop, List.length_take]; rfl)) ?_; (with_reducible refine (impl_PathArea.calls kj5 _ _ t412 t416 true _ ?side1 ?side2 A16.out).mono ?_); (case side1 => repeat (first | exact (Kd.S_reads' HO415.out).2.2 | (with_reducible refine Kd.C_alloc ?_ _) | (with_reducible refine Kd.C_drewN ?_ _) | (with_reducible refine Kd.C_drew ?_))); (case side2 => exact (Kd.S_reads' HO415.out).2.1); rintro e w' ⟨rfl, ⟨nd, rfl⟩⟩; refine ⟨_, rfl, ?_⟩) | (go_at_call 10; (with_reducible refine (impl_PathConvex.calls kj5 _ _ t405 t418 _ ?side1 ?side2 A20.out).mono ?_); (case side1 => repeat (first | exact (Kd.V_reads' HO_3.out).2.2 | (with_reducible refine Kd.C_alloc ?_ _) | (with_reducible refine Kd.C_drewN ?_ _) | (with_reducible refine Kd.C_drew ?_))); (case side2 => exact (Kd.V_reads' HO_3.out).2.1); rintro e w' ⟨rfl, ⟨nd, rfl⟩⟩))
         go_ret
         exact ⟨by first | rfl | (simp [errW_none, errW_some] <;> rfl) | (simp [*, errW_none, errW_some] <;> rfl), by repeat (first | (with_reducible first | exact HB.out | apply below_alloc | apply pw_below_drewN | apply below_drew1) | exact HB.out)⟩
        ·rw [if_neg c21] at H
         have c21b0 : ((t408 == 0) == t418) = false := by simpa using c21
         (try (have c21b1 : decide ((t408 == 0) = t418) = false := by simpa using c21))
         (try (have c21b2 : ((t408 == 0) == t418) = false := by simpa using c21))
         (try (have c21b3 : ¬ ((t408 == 0) = t418) := by simpa using c21))
         clear c21
         obtain rfl := Option.some.inj H
         go_wp2_with (first | ((with_reducible refine gate_callee (f := 8) rfl ?_); refine goesL_ (some 49) rfl rfl Try.func8 (by kernel_rfl) rfl #[.slice Ao8 t405.length co8] rfl (by (try simp only [List.map_toArray, List.map_cons, List.map_nil]); first | done | rfl | (simp only [List.length_drop, List.length_take]; rfl)) ?_; (with_reducible refine (impl_OrderSorted.calls kj5 _ _ t405 t412 true _ ?side1 ?side2 A15.out).mono ?_); (case side1 => repeat (first | exact (Kd.V_reads' HO_3.out).2.2 | (with_reducible refine Kd.C_alloc ?_ _) | (with_reducible refine Kd.C_drewN ?_ _) | (with_reducible refine Kd.C_drew ?_))); (case side2 => exact (Kd.V_reads' HO_3.out).2.1); rintro e w24 ⟨v414, rfl, ho0, hb⟩; refine ⟨_, rfl, ?_⟩; have n0_ := Aside0.mk (Kd.V_elder' (by (with_reducible repeat (first | apply Kd.V_alloc | apply Kd.V_drewN | apply Kd.V_drew)); exact HO_3.out) (Kd.S_base ho0) hb); have n1_ := Aside0.mk (Kd.S_lower ho0 (below_size (by repeat (first | (with_reducible first | exact HB.out | apply below_alloc | apply pw_below_drewN | apply below_drew1) | exact HB.out)))); have n2_ := Aside0.mk (below_step (by repeat (first | (with_reducible first | exact HB.out | apply below_alloc | apply pw_below_drewN | apply below_drew1) | exact HB.out)) hb); clear HO_3; clear HB; have HO_3 := n0_; have HO415 := n1_; have HB := n2_; clear n0_ n1_ n2_; (try clear hb); (try clear hb2); (try clear hk); (try clear hi); (try clear ho0); obtain ⟨Ao25, co25, eo25⟩ := Kd.S_slice HO415.out; subst eo25) | ((with_reducible refine gate_callee (f := 9) rfl ?_); refine goesL_ (some 54) rfl rfl Try.func9 (by kernel_rfl) rfl #[.slice Ao25 t412.length co25] rfl (by (try simp only [List.map_toArray, List.map_cons, List.map_nil]); first | done | rfl | (simp only [List.length_drop, List.length_take]; rfl)) ?_; (with_reducible refine (impl_PathArea.calls kj5 _ _ t412 t416 true _ ?side1 ?side2 A16.out).mono ?_); (case side1 => repeat (first | exact (Kd.S_reads' HO415.out).2.2 | (with_reducible refine Kd.C_alloc ?_ _) | (with_reducible refine Kd.C_drewN ?_ _) | (with_reducible refine Kd.C_drew ?_))); (case side2 => exact (Kd.S_reads' HO415.out).2.1); rintro e w' ⟨rfl, ⟨nd, rfl⟩⟩; refine ⟨_, rfl, ?_⟩) | (go_at_call 10; (with_reducible refine (impl_PathConvex.calls kj5 _ _ t405 t418 _ ?side1 ?side2 A20.out).mono ?_); (case side1 => repeat (first | exact (Kd.V_reads' HO_3.out).2.2 | (with_reducible refine Kd.C_alloc ?_ _) | (with_reducible refine Kd.C_drewN ?_ _) | (with_reducible refine Kd.C_drew ?_))); (case side2 => exact (Kd.V_reads' HO_3.out).2.1); rintro e w' ⟨rfl, ⟨nd, rfl⟩⟩))
         go_ret
         exact ⟨by first | rfl | (simp [errW_none, errW_some] <;> rfl) | (simp [*, errW_none, errW_some] <;> rfl), by repeat (first | (with_reducible first | exact HB.out | apply below_alloc | apply pw_below_drewN | apply below_drew1) | exact HB.out)⟩
       ·rw [if_neg c19] at H
        have c19b0 : decide (0 < t416) = false := decide_eq_false c19
        clear c19
        obtain rfl := Option.some.inj H
        go_wp2_with (first | ((with_reducible refine gate_callee (f := 8) rfl ?_); refine goesL_ (some 49) rfl rfl Try.func8 (by kernel_rfl) rfl #[.slice Ao8 t405.length co8] rfl (by (try simp only [List.map_toArray, List.map_cons, List.map_nil]); first | done | rfl | (simp only [List.length_drop, List.length_take]; rfl)) ?_; (with_reducible refine (impl_OrderSorted.calls kj5 _ _ t405 t412 true _ ?side1 ?side2 A15.out).mono ?_); (case side1 => repeat (first | exact (Kd.V_reads' HO_3.out).2.2 | (with_reducible refine Kd.C_alloc ?_ _) | (with_reducible refine Kd.C_drewN ?_ _) | (with_reducible refine Kd.C_drew ?_))); (case side2 => exact (Kd.V_reads' HO_3.out).2.1); rintro e w26 ⟨v414, rfl, ho0, hb⟩; refine ⟨_, rfl, ?_⟩; have n0_ := Aside0.mk (Kd.V_elder' (by (with_reducible repeat (first | apply Kd.V_alloc | apply Kd.V_drewN | apply Kd.V_drew)); exact HO_3.out) (Kd.S_base ho0) hb); have n1_ := Aside0.mk (Kd.S_lower ho0 (below_size (by repeat (first | (with_reducible first | exact HB.out | apply below_alloc | apply pw_below_drewN | apply below_drew1) | exact HB.out)))); have n2_ := Aside0.mk (below_step (by repeat (first | (with_reducible first | exact HB.out | apply below_alloc | apply pw_below_drewN | apply below_drew1) | exact HB.out)) hb); clear HO_3; clear HB; have HO_3 := n0_; have HO415 := n1_; have HB := n2_; clear n0_ n1_ n2_; (try clear hb); (try clear hb2); (try clear hk); (try clear hi); (try clear ho0); obtain ⟨Ao27, co27, eo27⟩ := Kd.S_slice HO415.out; subst eo27) | ((with_reducible refine gate_callee (f := 9) rfl ?_); refine goesL_ (some 54) rfl rfl Try.func9 (by kernel_rfl) rfl #[.slice Ao27 t412.length co27] rfl (by (try simp only [List.map_toArray, List.map_cons, List.map_nil]); first | done | rfl | (simp only [List.length_drop, List.length_take]; rfl)) ?_; (with_reducible refine (impl_PathArea.calls kj5 _ _ t412 t416 true _ ?side1 ?side2 A16.out).mono ?_); (case side1 => repeat (first | exact (Kd.S_reads' HO415.out).2.2 | (with_reducible refine Kd.C_alloc ?_ _) | (with_reducible refine Kd.C_drewN ?_ _) | (with_reducible refine Kd.C_drew ?_))); (case side2 => exact (Kd.S_reads' HO415.out).2.1); rintro e w' ⟨rfl, ⟨nd, rfl⟩⟩; refine ⟨_, rfl, ?_⟩))
        go_ret
        exact ⟨by first | rfl | (simp [errW_none, errW_some] <;> rfl) | (simp [*, errW_none, errW_some] <;> rfl), by repeat (first | (with_reducible first | exact HB.out | apply below_alloc | apply pw_below_drewN | apply below_drew1) | exact HB.out)⟩
      ·replace c18 := Bool.eq_false_iff.mpr c18
       subst c18
       have H1 : (some false) = some r := by rw [if_neg (show ¬ (false = true) by decide)] at H; exact H
       clear H
       have H := H1
       clear H1
       obtain rfl := Option.some.inj H
       go_wp2_with (first | ((with_reducible refine gate_callee (f := 8) rfl ?_); refine goesL_ (some 49) rfl rfl Try.func8 (by kernel_rfl) rfl #[.slice Ao8 t405.length co8] rfl (by (try simp only [List.map_toArray, List.map_cons, List.map_nil]); first | done | rfl | (simp only [List.length_drop, List.length_take]; rfl)) ?_; (with_reducible refine (impl_OrderSorted.calls kj5 _ _ t405 t412 true _ ?side1 ?side2 A15.out).mono ?_); (case side1 => repeat (first | exact (Kd.V_reads' HO_3.out).2.2 | (with_reducible refine Kd.C_alloc ?_ _) | (with_reducible refine Kd.C_drewN ?_ _) | (with_reducible refine Kd.C_drew ?_))); (case side2 => exact (Kd.V_reads' HO_3.out).2.1); rintro e w28 ⟨v414, rfl, ho0, hb⟩; refine ⟨_, rfl, ?_⟩; have n0_ := Aside0.mk (Kd.V_elder' (by (with_reducible repeat (first | apply Kd.V_alloc | apply Kd.V_drewN | apply Kd.V_drew)); exact HO_3.out) (Kd.S_base ho0) hb); have n1_ := Aside0.mk (Kd.S_lower ho0 (below_size (by repeat (first | (with_reducible first | exact HB.out | apply below_alloc | apply pw_below_drewN | apply below_drew1) | exact HB.out)))); have n2_ := Aside0.mk (below_step (by repeat (first | (with_reducible first | exact HB.out | apply below_alloc | apply pw_below_drewN | apply below_drew1) | exact HB.out)) hb); clear HO_3; clear HB; have HO_3 := n0_; have HO415 := n1_; have HB := n2_; clear n0_ n1_ n2_; (try clear hb); (try clear hb2); (try clear hk); (try clear hi); (try clear ho0); obtain ⟨Ao29, co29, eo29⟩ := Kd.S_slice HO415.out; subst eo29) | ((with_reducible refine gate_callee (f := 9) rfl ?_); refine goesL_ (some 54) rfl rfl Try.func9 (by kernel_rfl) rfl #[.slice Ao29 t412.length co29] rfl (by (try simp only [List.map_toArray, List.map_cons, List.map_nil]); first | done | rfl | (simp only [List.length_drop, List.length_take]; rfl)) ?_; (with_reducible refine (impl_PathArea.calls kj5 _ _ t412 t416 false _ ?side1 ?side2 A16.out).mono ?_); (case side1 => repeat (first | exact (Kd.S_reads' HO415.out).2.2 | (with_reducible refine Kd.C_alloc ?_ _) | (with_reducible refine Kd.C_drewN ?_ _) | (with_reducible refine Kd.C_drew ?_))); (case side2 => exact (Kd.S_reads' HO415.out).2.1); rintro e w' ⟨rfl, ⟨nd, rfl⟩⟩; refine ⟨_, rfl, ?_⟩))
       go_ret
       exact ⟨by first | rfl | (simp [errW_none, errW_some] <;> rfl) | (simp [*, errW_none, errW_some] <;> rfl), by repeat (first | (with_reducible first | exact HB.out | apply below_alloc | apply pw_below_drewN | apply below_drew1) | exact HB.out)⟩
     ·replace c17 := Bool.eq_false_iff.mpr c17
      subst c17
      have H1 : (some false) = some r := by rw [if_neg (show ¬ (false = true) by decide)] at H; exact H
      clear H
      have H := H1
      clear H1
      obtain rfl := Option.some.inj H
      go_wp2_with (first | ((with_reducible refine gate_callee (f := 8) rfl ?_); refine goesL_ (some 49) rfl rfl Try.func8 (by kernel_rfl) rfl #[.slice Ao8 t405.length co8] rfl (by (try simp only [List.map_toArray, List.map_cons, List.map_nil]); first | done | rfl | (simp only [List.length_drop, List.length_take]; rfl)) ?_; (with_reducible refine (impl_OrderSorted.calls kj5 _ _ t405 t412 false _ ?side1 ?side2 A15.out).mono ?_); (case side1 => repeat (first | exact (Kd.V_reads' HO_3.out).2.2 | (with_reducible refine Kd.C_alloc ?_ _) | (with_reducible refine Kd.C_drewN ?_ _) | (with_reducible refine Kd.C_drew ?_))); (case side2 => exact (Kd.V_reads' HO_3.out).2.1); rintro e w30 ⟨v414, rfl, ho0, hb⟩; refine ⟨_, rfl, ?_⟩; have n0_ := Aside0.mk (Kd.V_elder' (by (with_reducible repeat (first | apply Kd.V_alloc | apply Kd.V_drewN | apply Kd.V_drew)); exact HO_3.out) (Kd.S_base ho0) hb); have n1_ := Aside0.mk (Kd.S_lower ho0 (below_size (by repeat (first | (with_reducible first | exact HB.out | apply below_alloc | apply pw_below_drewN | apply below_drew1) | exact HB.out)))); have n2_ := Aside0.mk (below_step (by repeat (first | (with_reducible first | exact HB.out | apply below_alloc | apply pw_below_drewN | apply below_drew1) | exact HB.out)) hb); clear HO_3; clear HB; have HO_3 := n0_; have HO415 := n1_; have HB := n2_; clear n0_ n1_ n2_; (try clear hb); (try clear hb2); (try clear hk); (try clear hi); (try clear ho0); obtain ⟨Ao31, co31, eo31⟩ := Kd.S_slice HO415.out; subst eo31) | ((with_reducible refine gate_callee (f := 9) rfl ?_); refine goesL_ (some 54) rfl rfl Try.func9 (by kernel_rfl) rfl #[.slice Ao31 t412.length co31] rfl (by (try simp only [List.map_toArray, List.map_cons, List.map_nil]); first | done | rfl | (simp only [List.length_drop, List.length_take]; rfl)) ?_; (with_reducible refine (impl_PathArea.calls kj5 _ _ t412 t416 t417 _ ?side1 ?side2 A16.out).mono ?_); (case side1 => repeat (first | exact (Kd.S_reads' HO415.out).2.2 | (with_reducible refine Kd.C_alloc ?_ _) | (with_reducible refine Kd.C_drewN ?_ _) | (with_reducible refine Kd.C_drew ?_))); (case side2 => exact (Kd.S_reads' HO415.out).2.1); rintro e w' ⟨rfl, ⟨nd, rfl⟩⟩; refine ⟨_, rfl, ?_⟩))
      go_ret
      exact ⟨by first | rfl | (simp [errW_none, errW_some] <;> rfl) | (simp [*, errW_none, errW_some] <;> rfl), by repeat (first | (with_reducible first | exact HB.out | apply below_alloc | apply pw_below_drewN | apply below_drew1) | exact HB.out)⟩

/-- THE ONE PURE STATEMENT of laws_FnFewest: yours. -/
def laws_FnFewest.Pure : Prop := ∀ (l0 : List Int), l0.length ≤ maxLen → l0.length * 1 ≤ 140737488351232 → (∀ x ∈ l0, (Lit.int .u8 x).wf = true) → ∃ k, laws_FnFewest.f k l0 = some true
theorem laws_FnFewest.walk (P : laws_FnFewest.Pure) (a0 : Option Addr) (len0 cap0 : Nat) (z0 : List Int) (w : World) (w0 : (a0 = none ∧ len0 = 0 ∧ cap0 = 0 ∧ z0 = []) ∨ ∃ x, a0 = some x ∧ len0 ≤ cap0 ∧ cap0 ≤ maxLen ∧ z0.length = cap0 ∧ (∀ i, i < z0.length → w.cell? (x.add i) = some (.int .u8 (z0.getD i 0))) ∧ ∀ n ∈ z0, (Lit.int .u8 n).wf = true) (y0 : len0 * 1 ≤ 140737488351232) :
 Calls Try.prog 3 #[.slice a0 len0 cap0] w fun e w' => e = .returned (.bool true) ∧ Below w.heap.size w w' := by
 obtain ⟨l0, rfl, hr0, hm0, hw0, hc0⟩ := ReadsInt.ofRowC w0
 obtain ⟨k, h⟩ := P l0 hm0 y0 hw0
 refine (laws_FnFewest.calls k _ _ l0 true w (Kd.C_of_reads (d := (0 : Int)) (h1 := fun _ => rfl) hr0) hc0 h).mono ?_
 rintro e w' ⟨rfl, hd⟩
 exact ⟨rfl, hd⟩

end Go.Proofs.Ytdjddfeokpmfaaa.PFnFewest
