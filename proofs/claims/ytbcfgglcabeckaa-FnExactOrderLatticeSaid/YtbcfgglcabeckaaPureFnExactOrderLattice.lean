/- An exact promise of the given program: OrderLattice answers as the reference's does, for every slice of slices of numbers. -/
import Derived.Test.YtbcfgglcabeckaaPFnExactOrderLatticex5
import Derived.Test.YtbcfgglcabeckaaBase
import Derived.Test.YtbcfgglcabeckaaPth
import Derived.Test.YtbcfgglcabeckaaHOrd
import Derived.Test.YtbcfgglcabeckaaPerm
import Derived.Test.YtbcfgglcabeckaaLatt
import Derived.Test.YtbcfgglcabeckaaRowsIn
namespace Go.Proofs.Ytbcfgglcabeckaa.Pure
open Go.RowKit Go.Proofs.Ytbcfgglcabeckaa.PFnExactOrderLattice Go.Proofs.YtbcfgglcabeckaaW.PrintWords Go.Proofs.YtbcfgglcabeckaaW.PrintLast Go.Proofs.YtbcfgglcabeckaaW.PrintMore Go.Proofs.Ytbcfgglcabeckaa.Base Go.Proofs.Ytbcfgglcabeckaa.Pth Go.Proofs.Ytbcfgglcabeckaa.HOrd Go.Proofs.Ytbcfgglcabeckaa.Perm Go.Proofs.Ytbcfgglcabeckaa.Latt Go.Proofs.Ytbcfgglcabeckaa.RowsIn
set_option linter.unusedVariables false
set_option linter.unusedSimpArgs false
theorem rdl_get {p : List (List Int)} {i : Nat} (h : i < p.length) : rd_L1 p (i : Int) = p[i] := by unfold rd_L1; rw [Int.toNat_natCast]; simp [h]
theorem rdl_L {q : List V} {i : Nat} (h : i < q.length) : rd_L1 (L q) (i : Int) = ofV q[i] := by
  rw [rdl_get (by rw [L_length]; exact h)]; simp [L]
theorem rd0 (v : V) : rd (ofV v) 0 = v.1 := rfl
theorem rd1 (v : V) : rd (ofV v) 1 = v.2 := rfl
theorem len_ofV (v : V) : ((ofV v).length : Int) = 2 := rfl
theorem lenL (q : List V) : ((L q).length : Int) = (q.length : Int) := by rw [L_length]

theorem impl_isStep_eq (s : List Int) : impl_isStep.f s = some (stepB s) := by
  match s with
  | [] => rfl
  | [_] => rfl
  | [x, y] =>
    unfold impl_isStep.f
    have h0 : rd [x, y] 0 = x := rfl
    have h1 : rd [x, y] 1 = y := rfl
    have hl : ([x, y].length : Int) = 2 := rfl
    rw [h0, h1, hl, if_pos rfl, if_pos (by decide)]
    rw [stepB_two]
    by_cases a : x ≥ -9
    · rw [if_pos a]
      by_cases b : x ≤ 9
      · rw [if_pos b, if_pos (by decide)]
        by_cases c : y ≥ -9
        · rw [if_pos c]
          by_cases d : y ≤ 9
          · rw [if_pos d]
            by_cases e : x = 0
            · rw [if_pos e]
              by_cases f : y = 0
              · subst e f; rfl
              · have : (y != 0) = true := by simpa using f
                rw [this, decide_eq_true (by omega)]
            · rw [if_neg e, decide_eq_true (by omega)]
          · rw [if_neg d, decide_eq_false (by omega)]
        · rw [if_neg c, decide_eq_false (by omega)]
      · rw [if_neg b, decide_eq_false (by omega)]
    · rw [if_neg a, decide_eq_false (by omega)]
  | a :: b :: c :: t =>
    unfold impl_isStep.f
    rw [if_neg (by simp; omega)]; rfl

theorem gx_take {p : List (List Int)} {i : Nat} (h : i < p.length) : gx (p.take (i + 1)) = gx (p.take i) + p[i].getD 0 0 := by
  unfold gx; rw [List.take_succ_eq_append_getElem h, List.map_append, List.sum_append]
  simp only [List.map_cons, List.map_nil, List.sum_cons, List.sum_nil, Int.add_zero]
theorem gy_take {p : List (List Int)} {i : Nat} (h : i < p.length) : gy (p.take (i + 1)) = gy (p.take i) + p[i].getD 1 0 := by
  unfold gy; rw [List.take_succ_eq_append_getElem h, List.map_append, List.sum_append]
  simp only [List.map_cons, List.map_nil, List.sum_cons, List.sum_nil, Int.add_zero]
theorem g_bound {p : List (List Int)} (h : p.all stepB = true) : (-(9 * (p.length : Int)) ≤ gx p ∧ gx p ≤ 9 * p.length) ∧ -(9 * (p.length : Int)) ≤ gy p ∧ gy p ≤ 9 * p.length := by
  obtain ⟨q, rfl, hq⟩ := all_steps p h
  rw [gx_L, gy_L, L_length]
  exact ⟨sx_bound hq, sy_bound hq⟩
theorem all_take {p : List (List Int)} {i : Nat} (h : i < p.length) (ha : (p.take i).all stepB = true) (hs : stepB p[i] = true) : (p.take (i + 1)).all stepB = true := by
  rw [List.take_succ_eq_append_getElem h, List.all_append, ha]; simp [hs]
theorem impl_PathIn_loop (p : List (List Int)) (h : p.length ≤ 1048576) : Ev (fun k => impl_PathIn.l0 k 0 0 p (p.length : Int) 0) (p.all stepB && decide (gx p = 0) && decide (gy p = 0)) := by
  have key := down (fun i => (p.take i).all stepB = true → Ev (fun k => impl_PathIn.l0 k (gx (p.take i)) (gy (p.take i)) p (p.length : Int) (i : Int)) ((p.drop i).all stepB && decide (gx p = 0) && decide (gy p = 0))) p.length ?_ ?_ 0 (by omega)
  · exact key rfl
  · intro _
    refine ev_step ?_
    simp only [impl_PathIn.l0]
    refine ev_neg (by omega) ?_
    rw [List.take_length, List.drop_length]
    by_cases c : gx p = 0
    · refine ev_pos c ?_
      rw [c]
      have : (gy p == 0) = decide (gy p = 0) := rfl
      rw [this]
      simpa using ev_some _
    · refine ev_neg c ?_
      rw [decide_eq_false c]
      simpa using ev_some _
  · intro i hi ih ha
    refine ev_step ?_
    simp only [impl_PathIn.l0]
    refine ev_pos (by omega) (ev_pos (by omega) (ev_pos (by omega) ?_))
    rw [rdl_get hi, impl_isStep_eq, drop_cons hi, List.all_cons]
    simp only [Option.bind_some]
    by_cases hs : stepB p[i] = true
    · refine ev_pos hs ?_
      have ha' := all_take hi ha hs
      have ih' := ih ha'
      have hb := g_bound ha'
      rw [gx_take hi, gy_take hi] at ih' hb
      obtain ⟨v, hv, hsv⟩ := stepB_of _ hs
      rw [hv] at ih' hb ⊢
      refine ev_pos (by rw [len_ofV]; decide) (ev_pos (by rw [len_ofV]; decide) ?_)
      have hlen : ((p.take (i + 1)).length : Int) ≤ 1048576 := by simp; omega
      rw [w64_succ (by omega), rd0, rd1]
      have e0 : (ofV v).getD 0 0 = v.1 := rfl
      have e1 : (ofV v).getD 1 0 = v.2 := rfl
      rw [e0, e1] at ih' hb
      rw [w64 (by omega), w64 (by omega), (stepB_ofV v).2 hsv, Bool.true_and]
      exact ih'
    · refine ev_neg hs ?_
      rw [Bool.eq_false_iff.2 hs]
      simpa using ev_some _
theorem impl_PathIn_ev (p : List (List Int)) (h : p.length ≤ 1048576) : Ev (fun k => impl_PathIn.f k p) (pathB p) := by
  unfold impl_PathIn.f pathB
  by_cases c : (p.length : Int) < 3
  · refine ev_pos c (ev_step ?_)
    simp only [impl_PathIn.j0]
    refine ev_pos (by trivial) ?_
    rw [decide_eq_false (by omega)]
    simpa using ev_some _
  · refine ev_neg c (ev_step ?_)
    simp only [impl_PathIn.j0]
    by_cases d : (p.length : Int) > 8
    · refine ev_pos (by simpa using d) ?_
      rw [decide_eq_false (p := p.length ≤ 8) (by omega)]
      simpa using ev_some _
    · refine ev_neg (by simpa using d) ?_
      rw [decide_eq_true (by omega), decide_eq_true (by omega)]
      simpa using impl_PathIn_loop p h

theorem key_eq : ∀ (q : List V) (a : ByteArray), (∀ v ∈ q, stepV v) → ∃ y, impl_OrderLattice.key (L q) a = some y ∧ y.data.toList = a.data.toList ++ keyL q
  | [], a, _ => ⟨a, rfl, by simp [keyL]⟩
  | v :: q, a, h => by
    have hv := h v List.mem_cons_self
    unfold stepV at hv
    have e2 : impl_OrderLattice.two (ofV v) = [v.1 + 10, v.2 + 10] := by
      have r0 : rd (ofV v) 0 = v.1 := rfl
      have r1 : rd (ofV v) 1 = v.2 := rfl
      unfold impl_OrderLattice.two
      rw [r0, r1, w64 (by omega), w64 (by omega), Int.emod_eq_of_lt (by omega) (by omega), Int.emod_eq_of_lt (by omega) (by omega)]
    obtain ⟨y, h1, h2⟩ := key_eq q (a ++ strOfNums (impl_OrderLattice.two (ofV v))) (fun u hu => h u (List.mem_cons_of_mem _ hu))
    refine ⟨y, ?_, ?_⟩
    · show (if 1 < (ofV v).length then _ else none) = some y
      rw [if_pos (show 1 < (ofV v).length from (by decide : 1 < 2))]
      exact h1
    · rw [h2, e2]
      have : (a ++ strOfNums [v.1 + 10, v.2 + 10]).data.toList = a.data.toList ++ kb v := by
        rw [ByteArray.data_append, Array.toList_append]
        rfl
      rw [this, List.append_assoc]
      rfl
theorem lat_step {q : List V} (s : List Lit) (hs : s.length < 1000000) (hl : q.length < 1000) (h : ∀ v ∈ q, stepV v) : impl_OrderLattice.step s (L q) = some (s ++ [kl q]) := by
  unfold impl_OrderLattice.step
  rw [if_pos hs, if_pos (by rw [L_length]; exact hl)]
  obtain ⟨y, h1, h2⟩ := key_eq q ⟨#[]⟩ h
  rw [h1, Option.bind_some, h2]
  rfl
theorem row_collect (F : Nat → List Lit → Option (List Lit)) (G : Nat → List Lit) (N : Nat) (hF : ∀ i s, s.length + N ≤ 1000000 → F i s = some (s ++ G i)) (hG : ∀ i, (G i).length = N) : ∀ r i s, s.length + r * N ≤ 1000000 → row F r i s = some (s ++ (List.range' i r).flatMap G)
  | 0, i, s, _ => by simp [row]
  | r + 1, i, s, h => by
    rw [Nat.succ_mul] at h
    unfold row
    rw [hF i s (by omega), Option.bind_some, row_collect F G N hF hG r (i + 1) (s ++ G i) (by rw [List.length_append, hG]; omega)]
    rw [List.range'_succ, List.flatMap_cons, List.append_assoc]
theorem vis_collect : ∀ (d : Nat) (q : List V) (s : List Lit), s.length + fact d ≤ 1000000 → q.length < 1000 → (∀ v ∈ q, stepV v) → vis impl_OrderLattice.step d (L q) s = some (s ++ (visits d q).map kl)
  | 0, q, s, hs, hl, h => lat_step s (by have : fact 0 = 1 := rfl; omega) hl h
  | d + 1, q, s, hs, hl, h => by
    unfold vis visits
    have hf : fact (d + 1) = (d + 1) * fact d := rfl
    have key := row_collect (fun i s => vis impl_OrderLattice.step d (swap (L q) ((L q).length - (d + 1)) i) s) (fun i => (visits d (swap q (q.length - (d + 1)) i)).map kl) (fact d) (fun i s hs => by
      have e : swap (L q) ((L q).length - (d + 1)) i = L (swap q (q.length - (d + 1)) i) := by rw [L_length]; exact (swap_map _ _ _ _).symm
      rw [e]
      exact vis_collect d _ s hs (by rw [swap_length]; exact hl) (fun v hv => h v ((swap_perm _ _ _).mem_iff.1 hv))) (fun i => by rw [List.length_map, visits_len]) (d + 1) ((L q).length - (d + 1)) s (by omega)
    rw [key, L_length, List.range'_eq_map_range, List.flatMap_map, List.map_flatMap]
def latA (p : List (List Int)) : Int × Bool := if pathB p = true ∧ p.length ≤ 6 then (((Perm.dp p.length p).length : Int), true) else (0, false)
theorem dp_L (q : List V) : (Perm.dp (L q).length (L q)).length = latN q := by
  have h1 := Perm.dp_count q.length q rfl
  have h2 := Perm.dp_count (L q).length (L q) rfl
  have hi : ∀ a b : V, ofV a = ofV b → a = b := fun a b e => by
    injection e with e1 e
    injection e with e2 e
    exact Prod.ext e1 e2
  rw [show Perm.fac (L q) = Perm.fac q from Perm.fac_map hi q, L_length] at h2
  unfold latN
  rw [L_length]
  exact Nat.eq_of_mul_eq_mul_right (Perm.fac_pos q) (h2.trans h1.symm)
theorem impl_OrderLattice_ev (p : List (List Int)) (h : p.length ≤ 1048576) : Ev (fun k => impl_OrderLattice.f k p) (latA p) := by
  unfold impl_OrderLattice.f latA
  refine Ev.bind (impl_PathIn_ev p h) ?_
  by_cases c : pathB p = true
  · refine ev_pos c ?_
    by_cases c6 : p.length ≤ 6
    · rw [if_pos (show pathB p = true ∧ p.length ≤ 6 from ⟨c, c6⟩)]
      refine ev_neg (by omega) ?_
      obtain ⟨q, rfl, hP⟩ := path_of c
      rw [L_length] at c6
      have hlo := hP.lo
      have e : impl_orders.f impl_OrderLattice.step [] (L q) = some ((visits q.length q).map kl) := by
        unfold impl_orders.f
        rw [L_length, if_pos (by omega), if_pos (by omega), vis_collect q.length q [] (by have := fact_le q.length c6; simp; omega) (by omega) hP.st]
        rfl
      refine Ev.bind (ev_of_eq e) ?_
      have hs : Maps.size (impl_OrderLattice.D ((visits q.length q).map kl)) = latN q := by
        unfold impl_OrderLattice.D
        rw [Maps.size_setOf _ _ (fun x hx => by obtain ⟨p, _, rfl⟩ := List.mem_map.1 hx; exact kl_key p), keys_count hP.st]
      rw [hs, dp_L]
      exact ev_some _
    · rw [if_neg (show ¬ (pathB p = true ∧ p.length ≤ 6) from fun h => c6 h.2)]
      exact ev_pos (by omega) (ev_some _)
  · rw [if_neg (show ¬ (pathB p = true ∧ p.length ≤ 6) from fun h => c h.1)]
    exact ev_neg c (ev_some _)

theorem spec_l6In_eq' (a b c : Int) : spec_l6In.f a b c = some (decide (b ≤ a ∧ a ≤ c)) := by
  unfold spec_l6In.f
  by_cases h : a ≥ b
  · rw [if_pos h]; simp; intro _; exact h
  · rw [if_neg h]; simp; omega
theorem spec_l6sStep_eq (s : List Int) : spec_l6sStep.f s = some (stepB s) := by
  match s with
  | [] => rfl
  | [_] => rfl
  | [x, y] =>
    unfold spec_l6sStep.f
    have h0 : rd [x, y] 0 = x := rfl
    have h1 : rd [x, y] 1 = y := rfl
    have hl : ([x, y].length : Int) = 2 := rfl
    rw [h0, h1, hl, if_pos rfl, if_pos (by decide), spec_l6In_eq', spec_l6In_eq']
    simp only [Option.bind_some]
    rw [stepB_two]
    by_cases b : -9 ≤ x ∧ x ≤ 9
    · rw [if_pos (by simpa using b), if_pos (by decide)]
      by_cases d : -9 ≤ y ∧ y ≤ 9
      · rw [if_pos (by simpa using d)]
        by_cases e : x = 0
        · rw [if_pos e]
          by_cases f : y = 0
          · subst e f; rfl
          · have : (y != 0) = true := by simpa using f
            rw [this, decide_eq_true (by omega)]
        · rw [if_neg e, decide_eq_true (by omega)]
      · rw [if_neg (by simpa using d), decide_eq_false (by omega)]
    · rw [if_neg (by simpa using b), decide_eq_false (by omega)]
  | a :: b :: c :: t =>
    unfold spec_l6sStep.f
    rw [if_neg (by simp; omega)]; rfl

theorem spec_l6sSum_ev (p : List (List Int)) (h : p.length ≤ 1048576) (ha : p.all stepB = true) : Ev (fun k => spec_l6sSum.f k p) (gx p, gy p) := by
  unfold spec_l6sSum.f
  have key := ev_count (fun k i => spec_l6sSum.l0 k p (gx (p.take i)) (gy (p.take i)) (i : Int)) (fun _ => (gx p, gy p)) p.length ?_ ?_ 0 (by omega)
  · exact key
  · refine ev_step ?_
    simp only [spec_l6sSum.l0]
    refine ev_neg (by omega) ?_
    rw [List.take_length]
    exact ev_some _
  · intro i hi ih
    refine ev_step ?_
    simp only [spec_l6sSum.l0]
    refine ev_pos (by omega) (ev_pos (by omega) ?_)
    rw [rdl_get hi]
    have hs : stepB p[i] = true := List.all_eq_true.1 ha _ (List.getElem_mem _)
    have ha' : (p.take (i + 1)).all stepB = true := List.all_eq_true.2 (fun s hs => List.all_eq_true.1 ha s (List.mem_of_mem_take hs))
    have hb := g_bound ha'
    rw [gx_take hi, gy_take hi] at ih hb
    obtain ⟨v, hv, hsv⟩ := stepB_of _ hs
    rw [hv] at ih hb ⊢
    refine ev_pos (by rw [len_ofV]; decide) (ev_pos (by rw [len_ofV]; decide) ?_)
    have hlen : ((p.take (i + 1)).length : Int) ≤ 1048576 := by simp; omega
    rw [w64_succ (by omega), rd0, rd1]
    have e0 : (ofV v).getD 0 0 = v.1 := rfl
    have e1 : (ofV v).getD 1 0 = v.2 := rfl
    rw [e0, e1] at ih hb
    rw [w64 (by omega), w64 (by omega)]
    exact ih
theorem spec_PathIn_ev (p : List (List Int)) (h : p.length ≤ 1048576) : Ev (fun k => spec_PathIn.f k p) (pathB p) := by
  unfold spec_PathIn.f
  have key := down (fun i => (p.take i).all stepB = true → Ev (fun k => spec_PathIn.l0 k p (i : Int)) (decide (3 ≤ p.length) && decide (p.length ≤ 8) && (p.drop i).all stepB && decide (gx p = 0) && decide (gy p = 0))) p.length ?_ ?_ 0 (by omega)
  · exact key rfl
  · intro ha
    rw [List.take_length] at ha
    refine ev_step ?_
    simp only [spec_PathIn.l0]
    refine ev_neg (by omega) (Ev.bind (spec_l6sSum_ev p h ha) ?_)
    rw [spec_l6In_eq', List.drop_length]
    simp only [Option.bind_some]
    by_cases c : (3 : Int) ≤ p.length ∧ (p.length : Int) ≤ 8
    · refine ev_pos (by simpa using c) ?_
      rw [decide_eq_true (by omega), decide_eq_true (by omega)]
      by_cases c : gx p = 0
      · refine ev_pos c ?_
        rw [c]
        have : (gy p == 0) = decide (gy p = 0) := rfl
        rw [this]
        simpa using ev_some _
      · refine ev_neg c ?_
        rw [decide_eq_false c]
        simpa using ev_some _
    · refine ev_neg (by simpa using c) ?_
      have : (decide (3 ≤ p.length) && decide (p.length ≤ 8)) = false := by
        rw [Bool.and_eq_false_iff]; simp; omega
      rw [this]
      simpa using ev_some _
  · intro i hi ih ha
    refine ev_step ?_
    simp only [spec_PathIn.l0]
    refine ev_pos (by omega) (ev_pos (by omega) ?_)
    rw [rdl_get hi, spec_l6sStep_eq, drop_cons hi, List.all_cons]
    simp only [Option.bind_some]
    by_cases hs : stepB p[i] = true
    · refine ev_pos hs ?_
      rw [w64_succ (by omega), hs, Bool.true_and]
      exact ih (all_take hi ha hs)
    · refine ev_neg hs ?_
      rw [Bool.eq_false_iff.2 hs]
      simpa using ev_some _

theorem count_V (x : V) (l : List V) : @List.count V instBEqProd x l = @List.count V instBEqOfDecidableEq x l := by
  have h : ∀ a b : V, (@BEq.beq V instBEqProd a b) = (@BEq.beq V instBEqOfDecidableEq a b) := fun a b => by
    show _ = decide (a = b)
    rw [Bool.eq_iff_iff, beq_iff_eq, decide_eq_true_iff]
  show List.countP (fun y => @BEq.beq V instBEqProd y x) l = List.countP (fun y => @BEq.beq V instBEqOfDecidableEq y x) l
  exact congrArg (fun p => List.countP p l) (funext fun y => h y x)
theorem spec_lat_inner {q : List V} (hq : q.length ≤ 6) (x : Int) {i : Nat} (hi : i < q.length) (r : Int × Bool) (stop : Ev (fun k => spec_OrderLattice.l1 k (L q) x (i : Int) (((q.take (i + 1)).count q[i] : Nat) : Int) ((i + 1 : Nat) : Int)) r) :
    Ev (fun k => spec_OrderLattice.l1 k (L q) x (i : Int) 0 0) r := by
  have key := down (fun j => Ev (fun k => spec_OrderLattice.l1 k (L q) x (i : Int) (((q.take j).count q[i] : Nat) : Int) (j : Int)) r) (i + 1) stop ?_ 0 (by omega)
  · simpa using key
  · intro j hj ih
    refine ev_step ?_
    simp only [spec_OrderLattice.l1]
    have hjl : j < q.length := by omega
    have e1 : rd_L1 (L q) (j : Int) = ofV q[j] := rdl_L hjl
    have e2 : rd_L1 (L q) (i : Int) = ofV q[i] := rdl_L hi
    have r0 : ∀ v : V, rd (ofV v) 0 = v.1 := fun _ => rfl
    have r1 : ∀ v : V, rd (ofV v) 1 = v.2 := fun _ => rfl
    have l2 : ∀ v : V, ((ofV v).length : Int) = 2 := fun _ => rfl
    have sj : wrap64 ((j : Int) + 1) = ((j + 1 : Nat) : Int) := w64_succ (by omega)
    rw [e1, e2, L_length, r0, r0, r1, r1, l2, l2, sj]
    have hc : (q.take (j + 1)).count q[i] = (q.take j).count q[i] + (if q[j] = q[i] then 1 else 0) := by
      rw [List.take_succ_eq_append_getElem hjl, List.count_append, List.count_singleton]
      simp
    have hcl : (q.take j).count q[i] ≤ 6 := Nat.le_trans List.count_le_length (by simp; omega)
    have sc : wrap64 ((((q.take j).count q[i] : Nat) : Int) + 1) = (((q.take j).count q[i] + 1 : Nat) : Int) := w64_succ (by omega)
    refine ev_pos (by omega) (ev_pos (by omega) (ev_pos (by omega) (ev_pos (by omega) (ev_pos (by omega) (ev_pos (by omega) (ev_pos (by omega) ?_))))))
    by_cases c1 : q[j].1 = q[i].1
    · refine ev_pos c1 (ev_pos (by omega) (ev_pos (by omega) ?_))
      by_cases c2 : q[j].2 = q[i].2
      · refine ev_pos c2 ?_
        rw [hc, if_pos (Prod.ext c1 c2)] at ih
        rw [sc]
        exact ih
      · refine ev_neg c2 ?_
        rw [hc, if_neg (fun e => c2 (by rw [e])), Nat.add_zero] at ih
        exact ih
    · refine ev_neg c1 ?_
      rw [hc, if_neg (fun e => c1 (by rw [e])), Nat.add_zero] at ih
      exact ih
theorem spec_lat_loop {q : List V} (hq : q.length ≤ 6) : Ev (fun k => spec_OrderLattice.l0 k (L q) 1 0) ((latN q : Int), true) := by
  have key := down (fun i => Ev (fun k => spec_OrderLattice.l0 k (L q) (((dp i (q.take i)).length : Nat) : Int) (i : Int)) ((latN q : Int), true)) q.length ?_ ?_ 0 (by omega)
  · exact key
  · refine ev_step ?_
    simp only [spec_OrderLattice.l0]
    rw [L_length]
    refine ev_neg (by omega) ?_
    rw [List.take_length]
    exact ev_some _
  · intro i hi ih
    refine ev_step ?_
    simp only [spec_OrderLattice.l0]
    rw [L_length]
    refine ev_pos (by omega) (spec_lat_inner hq _ hi _ ?_)
    refine ev_step ?_
    simp only [spec_OrderLattice.l1]
    have hle : (dp i (q.take i)).length ≤ 720 := latN_le' (by omega) hi
    obtain ⟨c, hc⟩ : ∃ c, c = (q.take (i + 1)).count q[i] := ⟨_, rfl⟩
    obtain ⟨hp, hn⟩ := dp_next hi c (hc.trans (count_V _ _))
    rw [← hc]
    generalize (dp i (q.take i)).length = m at hn hle ⊢
    obtain ⟨M, hM⟩ : ∃ M, M = m * (i + 1) := ⟨_, rfl⟩
    have hm : M ≤ 720 * 6 := by rw [hM]; exact Nat.mul_le_mul hle (by omega)
    have hdiv : M / c ≤ M := Nat.div_le_self _ _
    have e1 : (m : Int) * ((i + 1 : Nat) : Int) = (M : Int) := by rw [hM, Int.natCast_mul]
    have e2 : Int.tdiv (M : Int) (c : Int) = ((M / c : Nat) : Int) := by
      rw [Int.tdiv_eq_ediv_of_nonneg (Int.natCast_nonneg _)]; rfl
    rw [← hM] at hn
    have w1 : wrap64 ((i : Int) + 1) = ((i + 1 : Nat) : Int) := w64_succ (by omega)
    have w2 : wrap64 (M : Int) = (M : Int) := w64 (by omega)
    generalize M / c = D at hn hdiv e2
    have w3 : wrap64 (D : Int) = (D : Int) := w64 (by omega)
    refine ev_neg (by omega) (ev_neg (by omega) ?_)
    rw [w1, e1, w2, e2, w3, hn]
    exact ih
theorem spec_OrderLattice_ev (p : List (List Int)) (h : p.length ≤ 1048576) : Ev (fun k => spec_OrderLattice.f k p) (latA p) := by
  unfold spec_OrderLattice.f latA
  refine Ev.bind (spec_PathIn_ev p h) ?_
  by_cases c : pathB p = true
  · refine ev_pos c (ev_step ?_)
    simp only [spec_OrderLattice.j0]
    by_cases c6 : p.length ≤ 6
    · rw [if_pos (show pathB p = true ∧ p.length ≤ 6 from ⟨c, c6⟩)]
      obtain ⟨q, rfl, hP⟩ := path_of c
      rw [L_length] at c6
      rw [dp_L]
      exact ev_neg (by rw [L_length]; simp; omega) (spec_lat_loop c6)
    · rw [if_neg (show ¬ (pathB p = true ∧ p.length ≤ 6) from fun h => c6 h.2)]
      exact ev_pos (by simp; omega) (ev_some _)
  · rw [if_neg (show ¬ (pathB p = true ∧ p.length ≤ 6) from fun h => c h.1)]
    refine ev_neg c (ev_step ?_)
    simp only [spec_OrderLattice.j0]
    exact ev_pos (by trivial) (ev_some _)

/-- The size's test: where it leaves something, there are no more rows than the bound, and no row is longer. -/
theorem szIntSS_ev (p : List (List Int)) (n : Nat) (hn : n ≤ 1048576) (hp : p.length ≤ 9223372036854775807) (hs : ∀ s ∈ p, s.length ≤ 9223372036854775807) :
    ∃ r : Int, Ev (fun k => laws_szIntSS.f k p (n : Int)) r ∧ (r < 0 ∨ (0 ≤ r ∧ r ≤ n ∧ p.length ≤ n ∧ ∀ s ∈ p, s.length ≤ n)) := by
  unfold laws_szIntSS.f
  rw [w64 (x := (n : Int) - (p.length : Int)) (by omega)]
  by_cases c : (n : Int) - (p.length : Int) < 0
  · exact ⟨-1, ev_pos c (ev_some _), Or.inl (by decide)⟩
  · have hpn : p.length ≤ n := by omega
    have key := down (fun i => ∀ m : Nat, m ≤ n → (∀ s ∈ p.take i, s.length ≤ n) → ∃ r : Int, Ev (fun k => laws_szIntSS.l0 k p (m : Int) (i : Int)) r ∧ (r < 0 ∨ (0 ≤ r ∧ r ≤ n ∧ p.length ≤ n ∧ ∀ s ∈ p, s.length ≤ n))) p.length ?_ ?_ 0 (by omega)
    · obtain ⟨r, hr, hr2⟩ := key (n - p.length) (by omega) (fun s hs => by cases hs)
      refine ⟨r, ev_neg c ?_, hr2⟩
      rw [show ((n - p.length : Nat) : Int) = (n : Int) - (p.length : Int) from by omega] at hr
      exact hr
    · intro m hm h
      rw [List.take_length] at h
      refine ⟨m, ev_step ?_, Or.inr ⟨by omega, by omega, hpn, h⟩⟩
      simp only [laws_szIntSS.l0]
      exact ev_neg (by omega) (ev_some _)
    · intro i hi ih m hm h
      have hl := hs p[i] (List.getElem_mem _)
      have es : laws_szIntS.f p[i] (m : Int) = some (if (m : Int) - (p[i].length : Int) < 0 then -1 else (m : Int) - (p[i].length : Int)) := by
        unfold laws_szIntS.f
        rw [w64 (by omega)]
        split <;> rfl
      by_cases d : (m : Int) - (p[i].length : Int) < 0
      · refine ⟨-1, ev_step ?_, Or.inl (by decide)⟩
        simp only [laws_szIntSS.l0]
        refine ev_pos (by omega) (ev_pos (by omega) ?_)
        rw [rdl_get hi, es, if_pos d]
        simp only [Option.bind_some]
        exact ev_pos (by decide) (ev_some _)
      · obtain ⟨r, hr, hr2⟩ := ih (m - p[i].length) (by omega) (by
          intro s hs2
          rw [List.take_succ_eq_append_getElem hi] at hs2
          rcases List.mem_append.1 hs2 with hs2 | hs2
          · exact h s hs2
          · obtain rfl := List.mem_singleton.1 hs2
            omega)
        refine ⟨r, ev_step ?_, hr2⟩
        simp only [laws_szIntSS.l0]
        refine ev_pos (by omega) (ev_pos (by omega) ?_)
        rw [rdl_get hi, es, if_neg d, w64_succ (by omega)]
        simp only [Option.bind_some]
        refine ev_neg (by omega) ?_
        rw [show ((m - p[i].length : Nat) : Int) = (m : Int) - (p[i].length : Int) from by omega] at hr
        exact hr

theorem toIntS_ev (l : List Int) (h : l.length ≤ 1048576) : Ev (fun k => laws_toIntS.f k l) l := by
  unfold laws_toIntS.f
  refine ev_pos (by omega) (ev_pos (by omega) ?_)
  have key := ev_count (fun k i => laws_toIntS.l0 k l (l.take i ++ List.replicate (l.length - i) 0) (i : Int)) (fun _ => l) l.length
    (by
      refine ev_step ?_
      simp only [laws_toIntS.l0]
      refine ev_neg (by omega) ?_
      simpa using ev_some l)
    (by
      intro i hi ih
      refine ev_step ?_
      simp only [laws_toIntS.l0]
      refine ev_pos (by omega) (ev_pos (by omega) (ev_pos (by simp; omega) ?_))
      rw [w64_succ (by omega), Int.toNat_natCast, rd_get hi, set_copy hi]
      exact ih)
  have := key 0 (by omega)
  simpa using this

theorem set_copyR {l : List (List Int)} {i : Nat} (h : i < l.length) : (l.take i ++ List.replicate (l.length - i) []).set i l[i] = l.take (i + 1) ++ List.replicate (l.length - (i + 1)) [] := by
  rw [List.set_append_right _ _ (by simp; omega), show l.length - i = (l.length - (i + 1)) + 1 from by omega, List.replicate_succ]
  have hz : i - (l.take i).length = 0 := by simp; omega
  rw [hz, List.set_cons_zero, List.take_succ_eq_append_getElem h, List.append_assoc]; rfl
theorem toIntSS_ev (l : List (List Int)) (h : l.length ≤ 1048576) (hs : ∀ s ∈ l, s.length ≤ 1048576) : Ev (fun k => laws_toIntSS.f k l) l := by
  unfold laws_toIntSS.f
  refine ev_pos (by omega) (ev_pos (by omega) ?_)
  have key := ev_count (fun k i => laws_toIntSS.l0 k l (l.take i ++ List.replicate (l.length - i) []) (i : Int)) (fun _ => l) l.length
    (by
      refine ev_step ?_
      simp only [laws_toIntSS.l0]
      refine ev_neg (by omega) ?_
      simpa using ev_some l)
    (by
      intro i hi ih
      refine ev_step ?_
      simp only [laws_toIntSS.l0]
      refine ev_pos (by omega) (ev_pos (by omega) ?_)
      rw [rdl_get hi]
      refine Ev.bind (toIntS_ev _ (hs _ (List.getElem_mem _))) (ev_pos (by simp; omega) ?_)
      rw [w64_succ (by omega), Int.toNat_natCast, set_copyR hi]
      exact ih)
  have := key 0 (by omega)
  simpa using this

theorem eqIntS_self (l : List Int) (h : l.length ≤ 1048576) : Ev (fun k => laws_eqIntS.f k l l) true := by
  unfold laws_eqIntS.f
  refine ev_pos (by trivial) ?_
  refine ev_count (fun k i => laws_eqIntS.l0 k l l (i : Int)) (fun _ => true) l.length ?_ ?_ 0 (by omega)
  · refine ev_step ?_
    simp only [laws_eqIntS.l0]
    exact ev_neg (by omega) (ev_some _)
  · intro i hi ih
    refine ev_step ?_
    simp only [laws_eqIntS.l0]
    refine ev_pos (by omega) (ev_pos (by omega) (ev_pos (by omega) (ev_pos (by trivial) ?_)))
    rw [w64_succ (by omega)]
    exact ih

theorem eqIntSS_self (l : List (List Int)) (h : l.length ≤ 1048576) (hs : ∀ s ∈ l, s.length ≤ 1048576) : Ev (fun k => laws_eqIntSS.f k l l) true := by
  unfold laws_eqIntSS.f
  refine ev_pos (by trivial) ?_
  refine ev_count (fun k i => laws_eqIntSS.l0 k l l (i : Int)) (fun _ => true) l.length ?_ ?_ 0 (by omega)
  · refine ev_step ?_
    simp only [laws_eqIntSS.l0]
    exact ev_neg (by omega) (ev_some _)
  · intro i hi ih
    refine ev_step ?_
    simp only [laws_eqIntSS.l0]
    refine ev_pos (by omega) (ev_pos (by omega) (ev_pos (by omega) ?_))
    rw [rdl_get hi]
    refine Ev.bind (eqIntS_self _ (hs _ (List.getElem_mem _))) (ev_pos (by trivial) ?_)
    rw [w64_succ (by omega)]
    exact ih

theorem FnExactOrderLattice (p : List (List Int)) (hp : p.length ≤ 9223372036854775807) (hs : ∀ s ∈ p, s.length ≤ 9223372036854775807) : ∃ k, laws_FnExactOrderLattice.f k p = some true := by
  refine Ev.rounds ?_
  unfold laws_FnExactOrderLattice.f
  obtain ⟨r, hr, hr2⟩ := szIntSS_ev p 1048576 (by omega) hp hs
  refine Ev.bind hr ?_
  rcases hr2 with h | ⟨h0, h1, h2, h3⟩
  · exact ev_pos h (ev_some _)
  · refine ev_neg (by omega) (Ev.bind (toIntSS_ev p h2 h3) (Ev.bind (spec_OrderLattice_ev p h2) (Ev.bind (toIntSS_ev p h2 h3) (Ev.bind (impl_OrderLattice_ev p h2) (ev_pos rfl (ev_step ?_))))))
    simp only [laws_FnExactOrderLattice.j0]
    refine ev_neg (by simp) (Ev.bind (toIntSS_ev p h2 h3) (Ev.bind (eqIntSS_self p h2 h3) ?_))
    exact ev_pos rfl (ev_some _)

end Go.Proofs.Ytbcfgglcabeckaa.Pure
