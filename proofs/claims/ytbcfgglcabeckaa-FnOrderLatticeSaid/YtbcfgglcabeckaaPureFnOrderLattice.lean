/- A promise of the given program: the orders of a path are counted, equal steps together, as many backwards as forwards (for every code that draws a path). -/
import Derived.Test.YtbcfgglcabeckaaPFnOrderLatticex7
import Derived.Test.YtbcfgglcabeckaaBase
import Derived.Test.YtbcfgglcabeckaaPth
import Derived.Test.YtbcfgglcabeckaaSrt
import Derived.Test.YtbcfgglcabeckaaHOrd
import Derived.Test.YtbcfgglcabeckaaPerm
import Derived.Test.YtbcfgglcabeckaaLatt
namespace Go.Proofs.Ytbcfgglcabeckaa.Pure
open Go.RowKit Go.Proofs.Ytbcfgglcabeckaa.PFnOrderLattice Go.Proofs.YtbcfgglcabeckaaW.PrintWords Go.Proofs.YtbcfgglcabeckaaW.PrintLast Go.Proofs.YtbcfgglcabeckaaW.PrintMore Go.Proofs.Ytbcfgglcabeckaa.Base Go.Proofs.Ytbcfgglcabeckaa.Pth Go.Proofs.Ytbcfgglcabeckaa.Srt Go.Proofs.Ytbcfgglcabeckaa.HOrd Go.Proofs.Ytbcfgglcabeckaa.Perm Go.Proofs.Ytbcfgglcabeckaa.Latt
set_option linter.unusedVariables false
set_option linter.unusedSimpArgs false
theorem rdl_get {p : List (List Int)} {i : Nat} (h : i < p.length) : rd_L1 p (i : Int) = p[i] := by unfold rd_L1; rw [Int.toNat_natCast]; simp [h]
theorem rdl_L {q : List V} {i : Nat} (h : i < q.length) : rd_L1 (L q) (i : Int) = ofV q[i] := by
  rw [rdl_get (by rw [L_length]; exact h)]; simp [L]
theorem rd0 (v : V) : rd (ofV v) 0 = v.1 := rfl
theorem rd1 (v : V) : rd (ofV v) 1 = v.2 := rfl
theorem len_ofV (v : V) : ((ofV v).length : Int) = 2 := rfl
theorem lenL (q : List V) : ((L q).length : Int) = (q.length : Int) := by rw [L_length]

theorem impl_isStep_eq (s : List Int) : impl_isStep.f s = some (stepB s) := by
  match s with
  | [] => rfl
  | [_] => rfl
  | [x, y] =>
    unfold impl_isStep.f
    have h0 : rd [x, y] 0 = x := rfl
    have h1 : rd [x, y] 1 = y := rfl
    have hl : ([x, y].length : Int) = 2 := rfl
    rw [h0, h1, hl, if_pos rfl, if_pos (by decide)]
    rw [stepB_two]
    by_cases a : x ≥ -9
    · rw [if_pos a]
      by_cases b : x ≤ 9
      · rw [if_pos b, if_pos (by decide)]
        by_cases c : y ≥ -9
        · rw [if_pos c]
          by_cases d : y ≤ 9
          · rw [if_pos d]
            by_cases e : x = 0
            · rw [if_pos e]
              by_cases f : y = 0
              · subst e f; rfl
              · have : (y != 0) = true := by simpa using f
                rw [this, decide_eq_true (by omega)]
            · rw [if_neg e, decide_eq_true (by omega)]
          · rw [if_neg d, decide_eq_false (by omega)]
        · rw [if_neg c, decide_eq_false (by omega)]
      · rw [if_neg b, decide_eq_false (by omega)]
    · rw [if_neg a, decide_eq_false (by omega)]
  | a :: b :: c :: t =>
    unfold impl_isStep.f
    rw [if_neg (by simp; omega)]; rfl

theorem gx_take {p : List (List Int)} {i : Nat} (h : i < p.length) : gx (p.take (i + 1)) = gx (p.take i) + p[i].getD 0 0 := by
  unfold gx; rw [List.take_succ_eq_append_getElem h, List.map_append, List.sum_append]
  simp only [List.map_cons, List.map_nil, List.sum_cons, List.sum_nil, Int.add_zero]
theorem gy_take {p : List (List Int)} {i : Nat} (h : i < p.length) : gy (p.take (i + 1)) = gy (p.take i) + p[i].getD 1 0 := by
  unfold gy; rw [List.take_succ_eq_append_getElem h, List.map_append, List.sum_append]
  simp only [List.map_cons, List.map_nil, List.sum_cons, List.sum_nil, Int.add_zero]
theorem g_bound {p : List (List Int)} (h : p.all stepB = true) : (-(9 * (p.length : Int)) ≤ gx p ∧ gx p ≤ 9 * p.length) ∧ -(9 * (p.length : Int)) ≤ gy p ∧ gy p ≤ 9 * p.length := by
  obtain ⟨q, rfl, hq⟩ := all_steps p h
  rw [gx_L, gy_L, L_length]
  exact ⟨sx_bound hq, sy_bound hq⟩
theorem all_take {p : List (List Int)} {i : Nat} (h : i < p.length) (ha : (p.take i).all stepB = true) (hs : stepB p[i] = true) : (p.take (i + 1)).all stepB = true := by
  rw [List.take_succ_eq_append_getElem h, List.all_append, ha]; simp [hs]
theorem impl_PathIn_loop (p : List (List Int)) (h : p.length ≤ 1048576) : Ev (fun k => impl_PathIn.l0 k 0 0 p (p.length : Int) 0) (p.all stepB && decide (gx p = 0) && decide (gy p = 0)) := by
  have key := down (fun i => (p.take i).all stepB = true → Ev (fun k => impl_PathIn.l0 k (gx (p.take i)) (gy (p.take i)) p (p.length : Int) (i : Int)) ((p.drop i).all stepB && decide (gx p = 0) && decide (gy p = 0))) p.length ?_ ?_ 0 (by omega)
  · exact key rfl
  · intro _
    refine ev_step ?_
    simp only [impl_PathIn.l0]
    refine ev_neg (by omega) ?_
    rw [List.take_length, List.drop_length]
    by_cases c : gx p = 0
    · refine ev_pos c ?_
      rw [c]
      have : (gy p == 0) = decide (gy p = 0) := rfl
      rw [this]
      simpa using ev_some _
    · refine ev_neg c ?_
      rw [decide_eq_false c]
      simpa using ev_some _
  · intro i hi ih ha
    refine ev_step ?_
    simp only [impl_PathIn.l0]
    refine ev_pos (by omega) (ev_pos (by omega) (ev_pos (by omega) ?_))
    rw [rdl_get hi, impl_isStep_eq, drop_cons hi, List.all_cons]
    simp only [Option.bind_some]
    by_cases hs : stepB p[i] = true
    · refine ev_pos hs ?_
      have ha' := all_take hi ha hs
      have ih' := ih ha'
      have hb := g_bound ha'
      rw [gx_take hi, gy_take hi] at ih' hb
      obtain ⟨v, hv, hsv⟩ := stepB_of _ hs
      rw [hv] at ih' hb ⊢
      refine ev_pos (by rw [len_ofV]; decide) (ev_pos (by rw [len_ofV]; decide) ?_)
      have hlen : ((p.take (i + 1)).length : Int) ≤ 1048576 := by simp; omega
      rw [w64_succ (by omega), rd0, rd1]
      have e0 : (ofV v).getD 0 0 = v.1 := rfl
      have e1 : (ofV v).getD 1 0 = v.2 := rfl
      rw [e0, e1] at ih' hb
      rw [w64 (by omega), w64 (by omega), (stepB_ofV v).2 hsv, Bool.true_and]
      exact ih'
    · refine ev_neg hs ?_
      rw [Bool.eq_false_iff.2 hs]
      simpa using ev_some _
theorem impl_PathIn_ev (p : List (List Int)) (h : p.length ≤ 1048576) : Ev (fun k => impl_PathIn.f k p) (pathB p) := by
  unfold impl_PathIn.f pathB
  by_cases c : (p.length : Int) < 3
  · refine ev_pos c (ev_step ?_)
    simp only [impl_PathIn.j0]
    refine ev_pos (by trivial) ?_
    rw [decide_eq_false (by omega)]
    simpa using ev_some _
  · refine ev_neg c (ev_step ?_)
    simp only [impl_PathIn.j0]
    by_cases d : (p.length : Int) > 8
    · refine ev_pos (by simpa using d) ?_
      rw [decide_eq_false (p := p.length ≤ 8) (by omega)]
      simpa using ev_some _
    · refine ev_neg (by simpa using d) ?_
      rw [decide_eq_true (by omega), decide_eq_true (by omega)]
      simpa using impl_PathIn_loop p h

theorem key_eq : ∀ (q : List V) (a : ByteArray), (∀ v ∈ q, stepV v) → ∃ y, impl_OrderLattice.key (L q) a = some y ∧ y.data.toList = a.data.toList ++ keyL q
  | [], a, _ => ⟨a, rfl, by simp [keyL]⟩
  | v :: q, a, h => by
    have hv := h v List.mem_cons_self
    unfold stepV at hv
    have e2 : impl_OrderLattice.two (ofV v) = [v.1 + 10, v.2 + 10] := by
      have r0 : rd (ofV v) 0 = v.1 := rfl
      have r1 : rd (ofV v) 1 = v.2 := rfl
      unfold impl_OrderLattice.two
      rw [r0, r1, w64 (by omega), w64 (by omega), Int.emod_eq_of_lt (by omega) (by omega), Int.emod_eq_of_lt (by omega) (by omega)]
    obtain ⟨y, h1, h2⟩ := key_eq q (a ++ strOfNums (impl_OrderLattice.two (ofV v))) (fun u hu => h u (List.mem_cons_of_mem _ hu))
    refine ⟨y, ?_, ?_⟩
    · show (if 1 < (ofV v).length then _ else none) = some y
      rw [if_pos (show 1 < (ofV v).length from (by decide : 1 < 2))]
      exact h1
    · rw [h2, e2]
      have : (a ++ strOfNums [v.1 + 10, v.2 + 10]).data.toList = a.data.toList ++ kb v := by
        rw [ByteArray.data_append, Array.toList_append]
        rfl
      rw [this, List.append_assoc]
      rfl
theorem lat_step {q : List V} (s : List Lit) (hs : s.length < 1000000) (hl : q.length < 1000) (h : ∀ v ∈ q, stepV v) : impl_OrderLattice.step s (L q) = some (s ++ [kl q]) := by
  unfold impl_OrderLattice.step
  rw [if_pos hs, if_pos (by rw [L_length]; exact hl)]
  obtain ⟨y, h1, h2⟩ := key_eq q ⟨#[]⟩ h
  rw [h1, Option.bind_some, h2]
  rfl
theorem row_collect (F : Nat → List Lit → Option (List Lit)) (G : Nat → List Lit) (N : Nat) (hF : ∀ i s, s.length + N ≤ 1000000 → F i s = some (s ++ G i)) (hG : ∀ i, (G i).length = N) : ∀ r i s, s.length + r * N ≤ 1000000 → row F r i s = some (s ++ (List.range' i r).flatMap G)
  | 0, i, s, _ => by simp [row]
  | r + 1, i, s, h => by
    rw [Nat.succ_mul] at h
    unfold row
    rw [hF i s (by omega), Option.bind_some, row_collect F G N hF hG r (i + 1) (s ++ G i) (by rw [List.length_append, hG]; omega)]
    rw [List.range'_succ, List.flatMap_cons, List.append_assoc]
theorem vis_collect : ∀ (d : Nat) (q : List V) (s : List Lit), s.length + fact d ≤ 1000000 → q.length < 1000 → (∀ v ∈ q, stepV v) → vis impl_OrderLattice.step d (L q) s = some (s ++ (visits d q).map kl)
  | 0, q, s, hs, hl, h => lat_step s (by have : fact 0 = 1 := rfl; omega) hl h
  | d + 1, q, s, hs, hl, h => by
    unfold vis visits
    have hf : fact (d + 1) = (d + 1) * fact d := rfl
    have key := row_collect (fun i s => vis impl_OrderLattice.step d (swap (L q) ((L q).length - (d + 1)) i) s) (fun i => (visits d (swap q (q.length - (d + 1)) i)).map kl) (fact d) (fun i s hs => by
      have e : swap (L q) ((L q).length - (d + 1)) i = L (swap q (q.length - (d + 1)) i) := by rw [L_length]; exact (swap_map _ _ _ _).symm
      rw [e]
      exact vis_collect d _ s hs (by rw [swap_length]; exact hl) (fun v hv => h v ((swap_perm _ _ _).mem_iff.1 hv))) (fun i => by rw [List.length_map, visits_len]) (d + 1) ((L q).length - (d + 1)) s (by omega)
    rw [key, L_length, List.range'_eq_map_range, List.flatMap_map, List.map_flatMap]
def latA (p : List (List Int)) : Int × Bool := if pathB p = true ∧ p.length ≤ 6 then (((Perm.dp p.length p).length : Int), true) else (0, false)
theorem dp_L (q : List V) : (Perm.dp (L q).length (L q)).length = latN q := by
  have h1 := Perm.dp_count q.length q rfl
  have h2 := Perm.dp_count (L q).length (L q) rfl
  have hi : ∀ a b : V, ofV a = ofV b → a = b := fun a b e => by
    injection e with e1 e
    injection e with e2 e
    exact Prod.ext e1 e2
  rw [show Perm.fac (L q) = Perm.fac q from Perm.fac_map hi q, L_length] at h2
  unfold latN
  rw [L_length]
  exact Nat.eq_of_mul_eq_mul_right (Perm.fac_pos q) (h2.trans h1.symm)
theorem impl_OrderLattice_ev (p : List (List Int)) (h : p.length ≤ 1048576) : Ev (fun k => impl_OrderLattice.f k p) (latA p) := by
  unfold impl_OrderLattice.f latA
  refine Ev.bind (impl_PathIn_ev p h) ?_
  by_cases c : pathB p = true
  · refine ev_pos c ?_
    by_cases c6 : p.length ≤ 6
    · rw [if_pos (show pathB p = true ∧ p.length ≤ 6 from ⟨c, c6⟩)]
      refine ev_neg (by omega) ?_
      obtain ⟨q, rfl, hP⟩ := path_of c
      rw [L_length] at c6
      have hlo := hP.lo
      have e : impl_orders.f impl_OrderLattice.step [] (L q) = some ((visits q.length q).map kl) := by
        unfold impl_orders.f
        rw [L_length, if_pos (by omega), if_pos (by omega), vis_collect q.length q [] (by have := fact_le q.length c6; simp; omega) (by omega) hP.st]
        rfl
      refine Ev.bind (ev_of_eq e) ?_
      have hs : Maps.size (impl_OrderLattice.D ((visits q.length q).map kl)) = latN q := by
        unfold impl_OrderLattice.D
        rw [Maps.size_setOf _ _ (fun x hx => by obtain ⟨p, _, rfl⟩ := List.mem_map.1 hx; exact kl_key p), keys_count hP.st]
      rw [hs, dp_L]
      exact ev_some _
    · rw [if_neg (show ¬ (pathB p = true ∧ p.length ≤ 6) from fun h => c6 h.2)]
      exact ev_pos (by omega) (ev_some _)
  · rw [if_neg (show ¬ (pathB p = true ∧ p.length ≤ 6) from fun h => c h.1)]
    exact ev_neg c (ev_some _)

theorem spec_l6In_eq' (a b c : Int) : spec_l6In.f a b c = some (decide (b ≤ a ∧ a ≤ c)) := by
  unfold spec_l6In.f
  by_cases h : a ≥ b
  · rw [if_pos h]; simp; intro _; exact h
  · rw [if_neg h]; simp; omega
theorem spec_l6sStep_eq (s : List Int) : spec_l6sStep.f s = some (stepB s) := by
  match s with
  | [] => rfl
  | [_] => rfl
  | [x, y] =>
    unfold spec_l6sStep.f
    have h0 : rd [x, y] 0 = x := rfl
    have h1 : rd [x, y] 1 = y := rfl
    have hl : ([x, y].length : Int) = 2 := rfl
    rw [h0, h1, hl, if_pos rfl, if_pos (by decide), spec_l6In_eq', spec_l6In_eq']
    simp only [Option.bind_some]
    rw [stepB_two]
    by_cases b : -9 ≤ x ∧ x ≤ 9
    · rw [if_pos (by simpa using b), if_pos (by decide)]
      by_cases d : -9 ≤ y ∧ y ≤ 9
      · rw [if_pos (by simpa using d)]
        by_cases e : x = 0
        · rw [if_pos e]
          by_cases f : y = 0
          · subst e f; rfl
          · have : (y != 0) = true := by simpa using f
            rw [this, decide_eq_true (by omega)]
        · rw [if_neg e, decide_eq_true (by omega)]
      · rw [if_neg (by simpa using d), decide_eq_false (by omega)]
    · rw [if_neg (by simpa using b), decide_eq_false (by omega)]
  | a :: b :: c :: t =>
    unfold spec_l6sStep.f
    rw [if_neg (by simp; omega)]; rfl

theorem spec_l6sSum_ev (p : List (List Int)) (h : p.length ≤ 1048576) (ha : p.all stepB = true) : Ev (fun k => spec_l6sSum.f k p) (gx p, gy p) := by
  unfold spec_l6sSum.f
  have key := ev_count (fun k i => spec_l6sSum.l0 k p (gx (p.take i)) (gy (p.take i)) (i : Int)) (fun _ => (gx p, gy p)) p.length ?_ ?_ 0 (by omega)
  · exact key
  · refine ev_step ?_
    simp only [spec_l6sSum.l0]
    refine ev_neg (by omega) ?_
    rw [List.take_length]
    exact ev_some _
  · intro i hi ih
    refine ev_step ?_
    simp only [spec_l6sSum.l0]
    refine ev_pos (by omega) (ev_pos (by omega) ?_)
    rw [rdl_get hi]
    have hs : stepB p[i] = true := List.all_eq_true.1 ha _ (List.getElem_mem _)
    have ha' : (p.take (i + 1)).all stepB = true := List.all_eq_true.2 (fun s hs => List.all_eq_true.1 ha s (List.mem_of_mem_take hs))
    have hb := g_bound ha'
    rw [gx_take hi, gy_take hi] at ih hb
    obtain ⟨v, hv, hsv⟩ := stepB_of _ hs
    rw [hv] at ih hb ⊢
    refine ev_pos (by rw [len_ofV]; decide) (ev_pos (by rw [len_ofV]; decide) ?_)
    have hlen : ((p.take (i + 1)).length : Int) ≤ 1048576 := by simp; omega
    rw [w64_succ (by omega), rd0, rd1]
    have e0 : (ofV v).getD 0 0 = v.1 := rfl
    have e1 : (ofV v).getD 1 0 = v.2 := rfl
    rw [e0, e1] at ih hb
    rw [w64 (by omega), w64 (by omega)]
    exact ih
theorem spec_PathIn_ev (p : List (List Int)) (h : p.length ≤ 1048576) : Ev (fun k => spec_PathIn.f k p) (pathB p) := by
  unfold spec_PathIn.f
  have key := down (fun i => (p.take i).all stepB = true → Ev (fun k => spec_PathIn.l0 k p (i : Int)) (decide (3 ≤ p.length) && decide (p.length ≤ 8) && (p.drop i).all stepB && decide (gx p = 0) && decide (gy p = 0))) p.length ?_ ?_ 0 (by omega)
  · exact key rfl
  · intro ha
    rw [List.take_length] at ha
    refine ev_step ?_
    simp only [spec_PathIn.l0]
    refine ev_neg (by omega) (Ev.bind (spec_l6sSum_ev p h ha) ?_)
    rw [spec_l6In_eq', List.drop_length]
    simp only [Option.bind_some]
    by_cases c : (3 : Int) ≤ p.length ∧ (p.length : Int) ≤ 8
    · refine ev_pos (by simpa using c) ?_
      rw [decide_eq_true (by omega), decide_eq_true (by omega)]
      by_cases c : gx p = 0
      · refine ev_pos c ?_
        rw [c]
        have : (gy p == 0) = decide (gy p = 0) := rfl
        rw [this]
        simpa using ev_some _
      · refine ev_neg c ?_
        rw [decide_eq_false c]
        simpa using ev_some _
    · refine ev_neg (by simpa using c) ?_
      have : (decide (3 ≤ p.length) && decide (p.length ≤ 8)) = false := by
        rw [Bool.and_eq_false_iff]; simp; omega
      rw [this]
      simpa using ev_some _
  · intro i hi ih ha
    refine ev_step ?_
    simp only [spec_PathIn.l0]
    refine ev_pos (by omega) (ev_pos (by omega) ?_)
    rw [rdl_get hi, spec_l6sStep_eq, drop_cons hi, List.all_cons]
    simp only [Option.bind_some]
    by_cases hs : stepB p[i] = true
    · refine ev_pos hs ?_
      rw [w64_succ (by omega), hs, Bool.true_and]
      exact ih (all_take hi ha hs)
    · refine ev_neg hs ?_
      rw [Bool.eq_false_iff.2 hs]
      simpa using ev_some _

theorem count_V (x : V) (l : List V) : @List.count V instBEqProd x l = @List.count V instBEqOfDecidableEq x l := by
  have h : ∀ a b : V, (@BEq.beq V instBEqProd a b) = (@BEq.beq V instBEqOfDecidableEq a b) := fun a b => by
    show _ = decide (a = b)
    rw [Bool.eq_iff_iff, beq_iff_eq, decide_eq_true_iff]
  show List.countP (fun y => @BEq.beq V instBEqProd y x) l = List.countP (fun y => @BEq.beq V instBEqOfDecidableEq y x) l
  exact congrArg (fun p => List.countP p l) (funext fun y => h y x)
theorem spec_lat_inner {q : List V} (hq : q.length ≤ 6) (x : Int) {i : Nat} (hi : i < q.length) (r : Int × Bool) (stop : Ev (fun k => spec_OrderLattice.l1 k (L q) x (i : Int) (((q.take (i + 1)).count q[i] : Nat) : Int) ((i + 1 : Nat) : Int)) r) :
    Ev (fun k => spec_OrderLattice.l1 k (L q) x (i : Int) 0 0) r := by
  have key := down (fun j => Ev (fun k => spec_OrderLattice.l1 k (L q) x (i : Int) (((q.take j).count q[i] : Nat) : Int) (j : Int)) r) (i + 1) stop ?_ 0 (by omega)
  · simpa using key
  · intro j hj ih
    refine ev_step ?_
    simp only [spec_OrderLattice.l1]
    have hjl : j < q.length := by omega
    have e1 : rd_L1 (L q) (j : Int) = ofV q[j] := rdl_L hjl
    have e2 : rd_L1 (L q) (i : Int) = ofV q[i] := rdl_L hi
    have r0 : ∀ v : V, rd (ofV v) 0 = v.1 := fun _ => rfl
    have r1 : ∀ v : V, rd (ofV v) 1 = v.2 := fun _ => rfl
    have l2 : ∀ v : V, ((ofV v).length : Int) = 2 := fun _ => rfl
    have sj : wrap64 ((j : Int) + 1) = ((j + 1 : Nat) : Int) := w64_succ (by omega)
    rw [e1, e2, L_length, r0, r0, r1, r1, l2, l2, sj]
    have hc : (q.take (j + 1)).count q[i] = (q.take j).count q[i] + (if q[j] = q[i] then 1 else 0) := by
      rw [List.take_succ_eq_append_getElem hjl, List.count_append, List.count_singleton]
      simp
    have hcl : (q.take j).count q[i] ≤ 6 := Nat.le_trans List.count_le_length (by simp; omega)
    have sc : wrap64 ((((q.take j).count q[i] : Nat) : Int) + 1) = (((q.take j).count q[i] + 1 : Nat) : Int) := w64_succ (by omega)
    refine ev_pos (by omega) (ev_pos (by omega) (ev_pos (by omega) (ev_pos (by omega) (ev_pos (by omega) (ev_pos (by omega) (ev_pos (by omega) ?_))))))
    by_cases c1 : q[j].1 = q[i].1
    · refine ev_pos c1 (ev_pos (by omega) (ev_pos (by omega) ?_))
      by_cases c2 : q[j].2 = q[i].2
      · refine ev_pos c2 ?_
        rw [hc, if_pos (Prod.ext c1 c2)] at ih
        rw [sc]
        exact ih
      · refine ev_neg c2 ?_
        rw [hc, if_neg (fun e => c2 (by rw [e])), Nat.add_zero] at ih
        exact ih
    · refine ev_neg c1 ?_
      rw [hc, if_neg (fun e => c1 (by rw [e])), Nat.add_zero] at ih
      exact ih
theorem spec_lat_loop {q : List V} (hq : q.length ≤ 6) : Ev (fun k => spec_OrderLattice.l0 k (L q) 1 0) ((latN q : Int), true) := by
  have key := down (fun i => Ev (fun k => spec_OrderLattice.l0 k (L q) (((dp i (q.take i)).length : Nat) : Int) (i : Int)) ((latN q : Int), true)) q.length ?_ ?_ 0 (by omega)
  · exact key
  · refine ev_step ?_
    simp only [spec_OrderLattice.l0]
    rw [L_length]
    refine ev_neg (by omega) ?_
    rw [List.take_length]
    exact ev_some _
  · intro i hi ih
    refine ev_step ?_
    simp only [spec_OrderLattice.l0]
    rw [L_length]
    refine ev_pos (by omega) (spec_lat_inner hq _ hi _ ?_)
    refine ev_step ?_
    simp only [spec_OrderLattice.l1]
    have hle : (dp i (q.take i)).length ≤ 720 := latN_le' (by omega) hi
    obtain ⟨c, hc⟩ : ∃ c, c = (q.take (i + 1)).count q[i] := ⟨_, rfl⟩
    obtain ⟨hp, hn⟩ := dp_next hi c (hc.trans (count_V _ _))
    rw [← hc]
    generalize (dp i (q.take i)).length = m at hn hle ⊢
    obtain ⟨M, hM⟩ : ∃ M, M = m * (i + 1) := ⟨_, rfl⟩
    have hm : M ≤ 720 * 6 := by rw [hM]; exact Nat.mul_le_mul hle (by omega)
    have hdiv : M / c ≤ M := Nat.div_le_self _ _
    have e1 : (m : Int) * ((i + 1 : Nat) : Int) = (M : Int) := by rw [hM, Int.natCast_mul]
    have e2 : Int.tdiv (M : Int) (c : Int) = ((M / c : Nat) : Int) := by
      rw [Int.tdiv_eq_ediv_of_nonneg (Int.natCast_nonneg _)]; rfl
    rw [← hM] at hn
    have w1 : wrap64 ((i : Int) + 1) = ((i + 1 : Nat) : Int) := w64_succ (by omega)
    have w2 : wrap64 (M : Int) = (M : Int) := w64 (by omega)
    generalize M / c = D at hn hdiv e2
    have w3 : wrap64 (D : Int) = (D : Int) := w64 (by omega)
    refine ev_neg (by omega) (ev_neg (by omega) ?_)
    rw [w1, e1, w2, e2, w3, hn]
    exact ih
theorem spec_OrderLattice_ev (p : List (List Int)) (h : p.length ≤ 1048576) : Ev (fun k => spec_OrderLattice.f k p) (latA p) := by
  unfold spec_OrderLattice.f latA
  refine Ev.bind (spec_PathIn_ev p h) ?_
  by_cases c : pathB p = true
  · refine ev_pos c (ev_step ?_)
    simp only [spec_OrderLattice.j0]
    by_cases c6 : p.length ≤ 6
    · rw [if_pos (show pathB p = true ∧ p.length ≤ 6 from ⟨c, c6⟩)]
      obtain ⟨q, rfl, hP⟩ := path_of c
      rw [L_length] at c6
      rw [dp_L]
      exact ev_neg (by rw [L_length]; simp; omega) (spec_lat_loop c6)
    · rw [if_neg (show ¬ (pathB p = true ∧ p.length ≤ 6) from fun h => c6 h.2)]
      exact ev_pos (by simp; omega) (ev_some _)
  · rw [if_neg (show ¬ (pathB p = true ∧ p.length ≤ 6) from fun h => c h.1)]
    refine ev_neg c (ev_step ?_)
    simp only [spec_OrderLattice.j0]
    exact ev_pos (by trivial) (ev_some _)

theorem L_take (q : List V) (n : Nat) : (L q).take n = L (q.take n) := by simp [L]
theorem L_drop (q : List V) (n : Nat) : (L q).drop n = L (q.drop n) := by simp [L]
theorem L_append (a b : List V) : L a ++ L b = L (a ++ b) := by simp [L]
theorem L_snoc (q : List V) (v : V) : L q ++ [ofV v] = L (q ++ [v]) := by simp [L]

theorem back_step {q : List V} {j : Nat} (h : j < q.length) : L (((q.drop (j + 1)).map neg).reverse) ++ [[-q[j].1, -q[j].2]] = L (((q.drop j).map neg).reverse) := by
  rw [drop_cons h, List.map_cons, List.reverse_cons, ← L_snoc]; rfl

theorem impl_PathBack_ev {q : List V} (h : Path q) : Ev (fun k => impl_PathBack.f k (L q)) (L (back q), true) := by
  unfold impl_PathBack.f
  have hq := h.hi
  refine Ev.bind (impl_PathIn_ev _ (by rw [L_length]; omega)) ?_
  rw [pathB_L h]
  refine ev_pos rfl ?_
  have key : ∀ j : Nat, j ≤ q.length → Ev (fun k => impl_PathBack.l0 k (L q) (L (((q.drop j).map neg).reverse)) ((j : Int) - 1)) (L (back q), true) := by
    intro j
    induction j with
    | zero =>
      intro _
      refine ev_step ?_
      simp only [impl_PathBack.l0]
      exact ev_neg (by omega) (ev_some _)
    | succ j ih =>
      intro hj
      have hj' : j < q.length := by omega
      have hv := h.st q[j] (List.getElem_mem _)
      simp only [stepV] at hv
      refine ev_step ?_
      simp only [impl_PathBack.l0]
      have e : ((j + 1 : Nat) : Int) - 1 = (j : Int) := by omega
      rw [e, rdl_L hj', len_ofV, rd0, rd1, w64 (x := -q[j].1) (by omega), w64 (x := -q[j].2) (by omega), back_step hj', w64 (by omega)]
      exact ev_pos (by omega) (ev_pos (by omega) (ev_pos (by rw [lenL]; omega) (ev_pos (by decide) (ev_pos (by decide) (ev_pos (by simp [L]; omega) (ih (by omega)))))))
  have := key q.length (Nat.le_refl _)
  rw [List.drop_length] at this
  rw [lenL, w64 (by omega)]
  exact this
theorem impl_PathBack_no {p : List (List Int)} (hl : p.length ≤ 1048576) (h : pathB p = false) : Ev (fun k => impl_PathBack.f k p) ([], false) := by
  unfold impl_PathBack.f
  refine Ev.bind (impl_PathIn_ev p hl) ?_
  rw [h]
  exact ev_neg (by decide) (ev_some _)

theorem open_eq (l : List Int) : ∃ b, spec_l6Open.f l = some (b, 0) ∧ b.length ≤ 2000 ∧ ∀ x ∈ b, x ∈ l := by
  unfold spec_l6Open.f
  by_cases h : (l.length : Int) > 2000
  · refine ⟨l.take 2000, by rw [if_pos h, if_pos (by omega)], by simp; omega, fun x hx => List.mem_of_mem_take hx⟩
  · exact ⟨l, by rw [if_neg h], by omega, fun x hx => hx⟩
theorem u8_range {l : List Int} (h : ∀ x ∈ l, (Lit.int .u8 x).wf = true) : ∀ x ∈ l, 0 ≤ x ∧ x ≤ 255 := by
  intro x hx
  have := h x hx
  have h0 : IntKind.u8.min = 0 := rfl
  have h1 : IntKind.u8.max = 255 := rfl
  simp [Lit.wf, h0, h1] at this
  omega

/-- A draw: a number from 0 to n-1 (0 where n is less than 1), the place goes on by one. -/
theorem pick_ev (b : List Int) (p n : Int) (hp : 0 ≤ p ∧ p ≤ 1000000000) (hb : b.length ≤ 2000) (hx : ∀ x ∈ b, 0 ≤ x ∧ x ≤ 255) (hn : -1000000 ≤ n ∧ n ≤ 1000000) :
    ∃ r, Ev (fun k => spec_l6Rd_pick.f k b p n) (r, p + 1) ∧ 0 ≤ r ∧ (1 ≤ n → r < n) ∧ (n < 1 → r = 0) := by
  have e1 : wrap64 (p + 1) = p + 1 := w64 (by omega)
  have e2 : wrap64 (p + 1 - 1) = p := by rw [show p + 1 - 1 = p from by omega]; exact w64 (by omega)
  have hrd : ∀ i : Int, 0 ≤ i → i < b.length → 0 ≤ rd b i ∧ rd b i ≤ 255 := by
    intro i h0 h1
    obtain ⟨j, rfl⟩ := Int.eq_ofNat_of_zero_le h0
    rw [rd_get (by omega)]
    exact hx _ (List.getElem_mem _)
  unfold spec_l6Rd_pick.f
  rw [e1]
  by_cases h1 : n < 1
  · refine ⟨0, ev_pos h1 ?_, by omega, by omega, fun _ => rfl⟩
    refine ev_step ?_
    simp only [spec_l6Rd_pick.j0]
    exact ev_pos (by trivial) (ev_some _)
  · by_cases h2 : b.length = 0
    · refine ⟨0, ev_neg h1 ?_, by omega, by omega, fun _ => rfl⟩
      refine ev_step ?_
      simp only [spec_l6Rd_pick.j0]
      refine ev_pos ?_ (ev_some _)
      rw [h2]; rfl
    · by_cases h3 : p < b.length
      · have hr := hrd p hp.1 h3
        refine ⟨Int.tmod (wrap64 (rd b p)) n, ev_neg h1 ?_, ?_, ?_, by omega⟩
        · refine ev_step ?_
          simp only [spec_l6Rd_pick.j0, e2]
          refine ev_neg ?_ (ev_pos h3 (ev_pos hp.1 (ev_neg (by omega) (ev_some _))))
          simpa using h2
        · rw [w64 (by omega)]; exact Int.tmod_nonneg _ hr.1
        · intro _; rw [w64 (by omega)]; exact Int.tmod_lt_of_pos _ (by omega)
      · have hL : (0 : Int) < b.length := by omega
        have q0 : 0 ≤ Int.tmod p b.length := Int.tmod_nonneg _ hp.1
        have q1 : Int.tmod p b.length < b.length := Int.tmod_lt_of_pos _ hL
        have e3 : wrap64 (p * 7) = p * 7 := w64 (by omega)
        have e4 : wrap64 (p * 7 + 3) = p * 7 + 3 := w64 (by omega)
        have s0 : 0 ≤ Int.tmod (p * 7 + 3) b.length := Int.tmod_nonneg _ (by omega)
        have s1 : Int.tmod (p * 7 + 3) b.length < b.length := Int.tmod_lt_of_pos _ hL
        have hu := hrd _ q0 q1
        have hv := hrd _ s0 s1
        have hd0 : 0 ≤ Int.tdiv p b.length := Int.tdiv_nonneg hp.1 (by omega)
        have hd1 : Int.tdiv p b.length ≤ p := by
          rw [Int.tdiv_eq_ediv_of_nonneg hp.1]
          exact Int.ediv_le_self _ hp.1
        generalize hu' : rd b (Int.tmod p b.length) = u at hu
        generalize hv' : rd b (Int.tmod (p * 7 + 3) b.length) = v at hv
        generalize hd' : Int.tdiv p b.length = d at hd0 hd1
        obtain ⟨X, hX, hX0, hX1⟩ : ∃ X : Int, wrap64 (wrap64 (wrap64 (wrap64 (wrap64 u * 131) + wrap64 (wrap64 v * 1117)) + wrap64 (p * 29)) + wrap64 (wrap64 d * 53)) = X ∧ 0 ≤ X ∧ X < 4611686018427387904 := by
          refine ⟨u * 131 + v * 1117 + p * 29 + d * 53, ?_, by omega, by omega⟩
          rw [w64 (x := u) (by omega), w64 (x := u * 131) (by omega), w64 (x := v) (by omega), w64 (x := v * 1117) (by omega), w64 (x := d) (by omega), w64 (x := d * 53) (by omega), w64 (x := p * 29) (by omega),
            w64 (x := u * 131 + v * 1117) (by omega), w64 (x := u * 131 + v * 1117 + p * 29) (by omega), w64 (by omega)]
        have hY0 : 0 ≤ Int.tdiv X 64 := Int.tdiv_nonneg hX0 (by omega)
        have hY1 : Int.tdiv X 64 < 4611686018427387904 := by
          rw [Int.tdiv_eq_ediv_of_nonneg hX0]; omega
        have eY : wrap64 (Int.tdiv X 64) = Int.tdiv X 64 := w64 (by omega)
        have hz : 0 ≤ Go.bits .xor .i64 X (Int.tdiv X 64) := xor_nonneg hX0 (by omega) hY0 (by omega)
        refine ⟨Int.tmod (Go.bits .xor .i64 X (Int.tdiv X 64)) n, ev_neg h1 ?_, ?_, ?_, by omega⟩
        · refine ev_step ?_
          simp only [spec_l6Rd_pick.j0, e2, e3, e4, hu', hv', hd', hX, eY]
          refine ev_neg ?_ (ev_neg h3 (ev_neg (by omega) (ev_pos q0 (ev_pos q1 (ev_pos s0 (ev_pos s1 (ev_neg (by omega) (ev_some _))))))))
          simpa using h2
        · exact Int.tmod_nonneg _ hz
        · intro _; exact Int.tmod_lt_of_pos _ (by omega)

theorem l92Step_ev (b : List Int) (hb : b.length ≤ 2000) (hx : ∀ x ∈ b, 0 ≤ x ∧ x ≤ 255) (p m : Int) (hp : 0 ≤ p ∧ p ≤ 1000) (hm : 0 ≤ m ∧ m ≤ 9) :
    ∃ v : V, Ev (fun k => spec_l92Step.f k b p m) (ofV v, p + 1 + 1) ∧ (-m ≤ v.1 ∧ v.1 ≤ max m 1) ∧ -m ≤ v.2 ∧ v.2 ≤ m := by
  have e : wrap64 (wrap64 (2 * m) + 1) = 2 * m + 1 := by rw [w64 (x := 2 * m) (by omega), w64 (by omega)]
  obtain ⟨r, hr, h0, h1, _⟩ := pick_ev b p (2 * m + 1) (by omega) hb hx (by omega)
  obtain ⟨s, hs, k0, k1, _⟩ := pick_ev b (p + 1) (2 * m + 1) (by omega) hb hx (by omega)
  have h1 := h1 (by omega)
  have k1 := k1 (by omega)
  have e1 : wrap64 (r - m) = r - m := w64 (by omega)
  have e2 : wrap64 (s - m) = s - m := w64 (by omega)
  unfold spec_l92Step.f
  rw [e]
  by_cases c : r - m = 0
  · by_cases d : s - m = 0
    · refine ⟨(1, s - m), Ev.bind hr (Ev.bind hs ?_), by omega, by omega⟩
      simp only [e1, e2]
      exact ev_pos c (ev_pos d (ev_some _))
    · refine ⟨(r - m, s - m), Ev.bind hr (Ev.bind hs ?_), by omega, by omega⟩
      simp only [e1, e2]
      exact ev_pos c (ev_neg d (ev_some _))
  · refine ⟨(r - m, s - m), Ev.bind hr (Ev.bind hs ?_), by omega, by omega⟩
    simp only [e1, e2]
    exact ev_neg c (ev_some _)

def b9 (v : V) : Prop := -9 ≤ v.1 ∧ v.1 ≤ 9 ∧ -9 ≤ v.2 ∧ v.2 ≤ 9
theorem cr_bound {a b : V} (ha : b9 a) (hb : b9 b) : -162 ≤ cr a b ∧ cr a b ≤ 162 := by
  unfold b9 at ha hb
  have h1 := mul9 (x := a.1) (v := b.2) (M := 9) ⟨ha.1, ha.2.1⟩ ⟨hb.2.2.1, hb.2.2.2⟩
  have h2 := mul9 (x := a.2) (v := b.1) (M := 9) ⟨ha.2.2.1, ha.2.2.2⟩ ⟨hb.1, hb.2.1⟩
  unfold cr; omega

theorem spec_cross_eq {a b : V} (ha : b9 a) (hb : b9 b) : spec_l6sCross.f (ofV a) (ofV b) = some (cr a b) := by
  unfold spec_l6sCross.f
  rw [len_ofV, len_ofV, if_pos (by decide), if_pos (by decide), if_pos (by decide), if_pos (by decide), rd0, rd0, rd1, rd1]
  simp only [w_sub_l, w_sub_r]
  have := cr_bound ha hb
  unfold cr at this ⊢
  rw [w64 (by omega)]
theorem spec_half_eq (a : V) : spec_l6sHalf.f (ofV a) = some (half a) := by
  unfold spec_l6sHalf.f half
  rw [len_ofV, rd0, rd1, if_pos (by decide)]
  by_cases c : a.2 > 0
  · rw [if_pos c, if_pos c]
  · rw [if_neg c, if_neg c]
    by_cases d : a.2 = 0
    · rw [if_pos d, if_pos (by decide)]
      by_cases e : a.1 > 0
      · rw [if_pos e, if_pos ⟨d, e⟩]
      · rw [if_neg e, if_neg (fun h => e h.2)]
    · rw [if_neg d, if_neg (fun h => d h.1)]
theorem spec_before_eq {a b : V} (ha : b9 a) (hb : b9 b) : spec_l6sBefore.f (ofV a) (ofV b) = some (before a b) := by
  unfold spec_l6sBefore.f before
  rw [spec_half_eq, spec_half_eq, spec_cross_eq ha hb]
  simp only [Option.bind_some]
  by_cases c : half a = half b
  · rw [if_pos c, if_pos c]
  · rw [if_neg c, if_neg c]

theorem sorted_inner {q : List V} (hq : ∀ v ∈ q, b9 v) (hl : q.length ≤ 1048576) {i : Nat} (hi : i < q.length) (out : List V) (ho : ∀ v ∈ out, b9 v) (hol : out.length = i) (r : List (List Int))
    (hk : Ev (fun k => spec_l7Sorted.l0 k (L q) (L (ins q[i] out)) ((i + 1 : Nat) : Int)) r) :
    ∀ k : Nat, k ≤ out.length → pos q[i] out k = pos q[i] out out.length → Ev (fun n => spec_l7Sorted.l1 n (L q) (L out) (i : Int) (k : Int)) r := by
  have put : ∀ k : Nat, k ≤ out.length → k = pos q[i] out out.length → Ev (fun n => (if 0 < (([q[i].1, q[i].2] : List Int).length : Int) then (if 1 < (([q[i].1, q[i].2] : List Int).length : Int) then ((some ([] : List (List Int))).bind fun y => (if 0 ≤ (k : Int) then (if (k : Int) ≤ ((L out).length : Int) then ((some ((L out).take (k : Int).toNat)).bind fun y2 => (if y.length + y2.length < 5864062014805 then ((some (y ++ y2)).bind fun y3 => ((some [[rd [q[i].1, q[i].2] 0, rd [q[i].1, q[i].2] 1]]).bind fun y4 => (if y3.length + y4.length < 5864062014805 then ((some (y3 ++ y4)).bind fun y5 => ((some ((L out).drop (k : Int).toNat)).bind fun y6 => (if y5.length + y6.length < 5864062014805 then spec_l7Sorted.l0 n (L q) (y5 ++ y6) ((i + 1 : Nat) : Int) else none))) else none))) else none)) else none) else none)) else none) else none)) r := by
    intro k hk1 hkp
    have h2 : (([q[i].1, q[i].2] : List Int).length : Int) = 2 := rfl
    refine ev_pos (by rw [h2]; decide) (ev_pos (by rw [h2]; decide) ?_)
    simp only [Option.bind_some]
    refine ev_pos (by omega) (ev_pos (by rw [lenL]; omega) ?_)
    refine ev_pos (by simp [L]; omega) (ev_pos (by simp [L]; omega) (ev_pos (by simp [L]; omega) ?_))
    have e : ([] ++ (L out).take (k : Int).toNat ++ [[rd [q[i].1, q[i].2] 0, rd [q[i].1, q[i].2] 1]]) ++ (L out).drop (k : Int).toNat = L (ins q[i] out) := by
      rw [Int.toNat_natCast, List.nil_append, L_take, L_drop, hkp]
      unfold ins
      rw [← L_append, ← L_append]; rfl
    rw [e]
    exact hk
  intro k
  induction k with
  | zero =>
    intro _ hp
    refine ev_step ?_
    simp only [spec_l7Sorted.l1]
    refine ev_neg (by omega) (ev_pos (by omega) (ev_pos (by rw [lenL]; omega) ?_))
    rw [rdl_L hi, w64_succ (by omega)]
    exact put 0 (by omega) (by rw [← hp]; rfl)
  | succ k ih =>
    intro hkl hp
    refine ev_step ?_
    simp only [spec_l7Sorted.l1]
    have ek : wrap64 (((k + 1 : Nat) : Int) - 1) = (k : Int) := by rw [w64 (by omega)]; omega
    rw [ek]
    refine ev_pos (by omega) (ev_pos (by omega) (ev_pos (by rw [lenL]; omega) (ev_pos (by omega) (ev_pos (by rw [lenL]; omega) ?_))))
    rw [rdl_L hi, rdl_L (show k < out.length by omega), spec_before_eq (hq _ (List.getElem_mem _)) (ho _ (List.getElem_mem _))]
    simp only [Option.bind_some]
    have eg : out.getD k (0, 0) = out[k]'(by omega) := by simp [show k < out.length by omega]
    rw [pos_succ, eg] at hp
    by_cases c : before q[i] (out[k]'(by omega)) = true
    · rw [if_pos c] at hp
      exact ev_pos c (ih (by omega) hp)
    · rw [if_neg c] at hp
      refine ev_neg c ?_
      rw [w64_succ (by omega)]
      exact put (k + 1) hkl hp
theorem spec_sorted_ev {q : List V} (hq : ∀ v ∈ q, b9 v) (hl : q.length ≤ 1048576) : Ev (fun k => spec_l7Sorted.f k (L q)) (L (srt q)) := by
  unfold spec_l7Sorted.f
  have key := ev_count (fun k i => spec_l7Sorted.l0 k (L q) (L (srt (q.take i))) (i : Int)) (fun _ => L (srt q)) q.length ?_ ?_ 0 (by omega)
  · exact key
  · refine ev_step ?_
    simp only [spec_l7Sorted.l0]
    refine ev_neg (by rw [lenL]; omega) ?_
    rw [List.take_length]
    exact ev_some _
  · intro i hi ih
    refine ev_step ?_
    simp only [spec_l7Sorted.l0]
    refine ev_pos (by rw [lenL]; omega) ?_
    rw [lenL]
    rw [srt_take hi] at ih
    refine sorted_inner hq hl hi (srt (q.take i)) (fun v hv => hq v (List.mem_of_mem_take (srt_mem.1 hv))) (by rw [srt_length]; simp; omega) _ ih _ (Nat.le_refl _) rfl

theorem l92Path_end (b : List Int) (hb : b.length ≤ 2000) (hx : ∀ x ∈ b, 0 ≤ x ∧ x ≤ 255) (q : List V) (hq : ∀ v ∈ q, b9 v) (hl : 1 ≤ q.length ∧ q.length ≤ 20) (p : Int) (hp : 0 ≤ p ∧ p ≤ 1000) :
    ∃ (t : List V) (c : Int), Ev (fun k => spec_l92Path.j3 k (L q) b p) (L t, c) ∧ t.length ≤ q.length + 1 ∧ (∀ v ∈ t, b9 v) ∧ 0 ≤ c ∧ c ≤ p + 1 := by
  obtain ⟨r, hr, _⟩ := pick_ev b p 40 (by omega) hb hx (by omega)
  by_cases c0 : r = 0
  · refine ⟨q ++ [(1, 0)], p + 1, ev_step ?_, by simp, ?_, by omega, by omega⟩
    · simp only [spec_l92Path.j3]
      refine Ev.bind hr (ev_pos c0 (ev_pos (by rw [L_length]; omega) ?_))
      have : L q ++ [[1, 0]] = L (q ++ [(1, 0)]) := by rw [← L_append]; rfl
      rw [this]
      exact ev_some _
    · intro v hv
      rcases List.mem_append.1 hv with hv | hv
      · exact hq v hv
      · obtain rfl := List.mem_singleton.1 hv
        unfold b9; decide
  · by_cases c1 : r = 1
    · refine ⟨q.drop 1, p + 1, ev_step ?_, by simp; omega, fun v hv => hq v (List.mem_of_mem_drop hv), by omega, by omega⟩
      simp only [spec_l92Path.j3]
      refine Ev.bind hr (ev_neg c0 (ev_pos c1 (ev_pos (by rw [lenL]; omega) ?_)))
      have : (L q).drop (1 : Int).toNat = L (q.drop 1) := L_drop q 1
      rw [this]
      exact ev_some _
    · refine ⟨q, p + 1, ev_step ?_, by omega, hq, by omega, by omega⟩
      simp only [spec_l92Path.j3]
      exact Ev.bind hr (ev_neg c0 (ev_neg c1 (ev_some _)))
theorem l92Path_shut (b : List Int) (hb : b.length ≤ 2000) (hx : ∀ x ∈ b, 0 ≤ x ∧ x ≤ 255) (q : List V) (hq : ∀ v ∈ q, b9 v) (hl : q.length ≤ 15) (x y : Int) (hxy : (-9 ≤ x ∧ x ≤ 9) ∧ -9 ≤ y ∧ y ≤ 9) (p : Int) (hp : 0 ≤ p ∧ p ≤ 900) :
    ∃ (t : List V) (c : Int), Ev (fun k => spec_l92Path.j2 k (L q) x y b p) (L t, c) ∧ t.length ≤ q.length + 2 ∧ (∀ v ∈ t, b9 v) ∧ 0 ≤ c ∧ c ≤ p + 2 := by
  obtain ⟨r, hr, _⟩ := pick_ev b p 2 (by omega) hb hx (by omega)
  have hq2 : ∀ v ∈ q ++ [(-x, -y)], b9 v := by
    intro v hv
    rcases List.mem_append.1 hv with hv | hv
    · exact hq v hv
    · obtain rfl := List.mem_singleton.1 hv
      unfold b9; dsimp only; omega
  have e : L q ++ [[-x, -y]] = L (q ++ [(-x, -y)]) := by rw [← L_append]; rfl
  by_cases c0 : r = 0
  · obtain ⟨t, c, ht, h1, h2, h3, h4⟩ := l92Path_end b hb hx (srt (q ++ [(-x, -y)])) (fun v hv => hq2 v (srt_mem.1 hv)) (by rw [srt_length]; simp; omega) (p + 1) (by omega)
    rw [srt_length, List.length_append, List.length_singleton] at h1
    refine ⟨t, c, ev_step ?_, by omega, h2, h3, by omega⟩
    simp only [spec_l92Path.j2]
    rw [w64 (by omega), w64 (by omega), e]
    refine ev_pos (by rw [L_length]; omega) ?_
    simp only [Option.bind_some]
    exact Ev.bind hr (ev_pos c0 (Ev.bind (spec_sorted_ev hq2 (by simp; omega)) ht))
  · obtain ⟨t, c, ht, h1, h2, h3, h4⟩ := l92Path_end b hb hx (q ++ [(-x, -y)]) hq2 (by simp; omega) (p + 1) (by omega)
    rw [List.length_append, List.length_singleton] at h1
    refine ⟨t, c, ev_step ?_, by omega, h2, h3, by omega⟩
    simp only [spec_l92Path.j2]
    rw [w64 (by omega), w64 (by omega), e]
    refine ev_pos (by rw [L_length]; omega) ?_
    simp only [Option.bind_some]
    exact Ev.bind hr (ev_neg c0 ht)
theorem l92Path_choose (b : List Int) (hb : b.length ≤ 2000) (hx : ∀ x ∈ b, 0 ≤ x ∧ x ≤ 255) (q : List V) (hq : ∀ v ∈ q, b9 v) (hl : q.length ≤ 15) (x y : Int) (f : Bool) (hf : f = false → (-9 ≤ x ∧ x ≤ 9) ∧ -9 ≤ y ∧ y ≤ 9) (p : Int) (hp : 0 ≤ p ∧ p ≤ 900) :
    ∃ (t : List V) (c : Int), Ev (fun k => spec_l92Path.j1 k (L q) x y f b p) (L t, c) ∧ t.length ≤ max q.length 2 + 2 ∧ (∀ v ∈ t, b9 v) ∧ 0 ≤ c ∧ c ≤ p + 2 := by
  cases f with
  | true =>
    obtain ⟨t, c, ht, h1, h2⟩ := l92Path_shut b hb hx [(2, 1), (-1, 2)] (by intro v hv; rcases List.mem_cons.1 hv with rfl | hv; · unfold b9; decide
                                                                            · obtain rfl := List.mem_singleton.1 hv
                                                                              unfold b9; decide) (by decide) 1 3 (by omega) p hp
    refine ⟨t, c, ev_step ?_, by simp only [List.length_cons, List.length_nil] at h1; omega, h2⟩
    simp only [spec_l92Path.j1]
    exact ev_pos (by trivial) ht
  | false =>
    obtain ⟨t, c, ht, h1, h2⟩ := l92Path_shut b hb hx q hq hl x y (hf rfl) p hp
    refine ⟨t, c, ev_step ?_, by omega, h2⟩
    simp only [spec_l92Path.j1]
    exact ev_neg (by simp) ht
theorem l92Path_loop (b : List Int) (hb : b.length ≤ 2000) (hx : ∀ x ∈ b, 0 ≤ x ∧ x ≤ 255) (n : Nat) (hn : n ≤ 15) (d : Nat) : ∀ (i : Nat) (q : List V) (x y p : Int), i + d = n → q.length = i → (∀ v ∈ q, b9 v) → (-(3 * (i : Int)) ≤ x ∧ x ≤ 3 * i) → (-(3 * (i : Int)) ≤ y ∧ y ≤ 3 * i) → 0 ≤ p ∧ p ≤ 100 + 2 * i →
    ∃ (t : List V) (c : Int), Ev (fun k => spec_l92Path.l0 k (n : Int) (L q) x y (i : Int) b p) (L t, c) ∧ t.length ≤ max n 2 + 2 ∧ (∀ v ∈ t, b9 v) ∧ 0 ≤ c ∧ c ≤ 200 := by
  induction d with
  | zero =>
    intro i q x y p hi hl hq hxx hyy hp
    have ex : wrap64 (-x) = -x := w64 (by omega)
    have ey : wrap64 (-y) = -y := w64 (by omega)
    have run : ∀ f : Bool, (f = false → (-9 ≤ x ∧ x ≤ 9) ∧ -9 ≤ y ∧ y ≤ 9) → Ev (fun k => spec_l92Path.l0 (k + 1) (n : Int) (L q) x y (i : Int) b p) = Ev (fun k => spec_l92Path.j1 k (L q) x y f b p) →
        ∃ (t : List V) (c : Int), Ev (fun k => spec_l92Path.l0 k (n : Int) (L q) x y (i : Int) b p) (L t, c) ∧ t.length ≤ max n 2 + 2 ∧ (∀ v ∈ t, b9 v) ∧ 0 ≤ c ∧ c ≤ 200 := by
      intro f hf he
      obtain ⟨t, c, ht, h1, h2, h3, h4⟩ := l92Path_choose b hb hx q hq (by omega) x y f hf p (by omega)
      exact ⟨t, c, ev_step (by rw [he]; exact ht), by omega, h2, h3, by omega⟩
    by_cases c1 : mx x (-x) > 9
    · refine run true (by simp) ?_
      simp only [spec_l92Path.l0, ex, ey]
      simp only [if_neg (show ¬ ((i : Int) < (n : Int)) by omega), if_pos c1]
    · by_cases c2 : mx y (-y) > 9
      · refine run true (by simp) ?_
        simp only [spec_l92Path.l0, ex, ey]
        simp only [if_neg (show ¬ ((i : Int) < (n : Int)) by omega), if_neg c1, if_pos c2]
      · rw [mx_eq] at c1 c2
        by_cases c3 : x = 0
        · refine run (y == 0) (fun _ => by omega) ?_
          simp only [spec_l92Path.l0, ex, ey, mx_eq]
          simp only [if_neg (show ¬ ((i : Int) < (n : Int)) by omega), if_neg c1, if_neg c2, if_pos c3]
        · refine run false (fun _ => by omega) ?_
          simp only [spec_l92Path.l0, ex, ey, mx_eq]
          simp only [if_neg (show ¬ ((i : Int) < (n : Int)) by omega), if_neg c1, if_neg c2, if_neg c3]
  | succ d ih =>
    intro i q x y p hi hl hq hxx hyy hp
    obtain ⟨v, hv, v1, v2⟩ := l92Step_ev b hb hx p 3 (by omega) (by omega)
    obtain ⟨t, c, ht, h1⟩ := ih (i + 1) (q ++ [v]) (x + v.1) (y + v.2) (p + 1 + 1) (by omega) (by simp; omega) (by
      intro u hu
      rcases List.mem_append.1 hu with hu | hu
      · exact hq u hu
      · obtain rfl := List.mem_singleton.1 hu
        unfold b9; omega) (by omega) (by omega) (by omega)
    refine ⟨t, c, ev_step ?_, h1⟩
    simp only [spec_l92Path.l0]
    refine ev_pos (by omega) (Ev.bind hv (ev_pos (by rw [L_length]; omega) (ev_pos (by rw [len_ofV]; decide) (ev_pos (by rw [len_ofV]; decide) ?_))))
    have e : L q ++ [ofV v] = L (q ++ [v]) := by rw [← L_append]; rfl
    rw [rd0, rd1, w64 (by omega), w64 (by omega), w64_succ (by omega), e]
    exact ht
theorem l92Path_ev (b : List Int) (hb : b.length ≤ 2000) (hx : ∀ x ∈ b, 0 ≤ x ∧ x ≤ 255) (p m : Int) (hp : 0 ≤ p ∧ p ≤ 50) (hm : 3 ≤ m ∧ m ≤ 9) :
    ∃ (t : List V) (c : Int), Ev (fun k => spec_l92Path.f k b p m) (L t, c) ∧ (t.length : Int) ≤ m + 2 ∧ (∀ v ∈ t, b9 v) ∧ 0 ≤ c ∧ c ≤ 200 := by
  obtain ⟨r, hr, h0, h1, _⟩ := pick_ev b p (m - 2) (by omega) hb hx (by omega)
  have h1 := h1 (by omega)
  obtain ⟨n, hn⟩ := Int.eq_ofNat_of_zero_le (show 0 ≤ 2 + r by omega)
  obtain ⟨t, c, ht, h2, h3⟩ := l92Path_loop b hb hx n (by omega) n 0 [] 0 0 (p + 1) (by omega) rfl (fun v hv => by cases hv) (by omega) (by omega) (by omega)
  refine ⟨t, c, ?_, by omega, h3⟩
  unfold spec_l92Path.f
  rw [w64 (x := m - 2) (by omega)]
  refine Ev.bind hr ?_
  simp only []
  rw [w64 (by omega), hn]
  exact ht
theorem l92One_of (l : List Int) (h : ∀ x ∈ l, (Lit.int .u8 x).wf = true) : ∃ (b : List Int) (t : List V) (c : Int), spec_l6Open.f l = some (b, 0) ∧ Ev (fun k => spec_l92Path.f k b 0 7) (L t, c) ∧ t.length ≤ 9 ∧ (∀ v ∈ t, b9 v) := by
  obtain ⟨b, hb, hbl, hbm⟩ := open_eq l
  obtain ⟨t, c, ht, h1, h2, _⟩ := l92Path_ev b hbl (fun x hx => u8_range h x (hbm x hx)) 0 7 (by omega) (by omega)
  exact ⟨b, t, c, hb, ht, by omega, h2⟩

theorem latA_L {q : List V} (h : Path q) (h6 : q.length ≤ 6) : latA (L q) = ((latN q : Int), true) := by
  unfold latA
  rw [if_pos (show pathB (L q) = true ∧ (L q).length ≤ 6 from ⟨pathB_L h, by rw [L_length]; exact h6⟩), dp_L]
theorem latA_no {p : List (List Int)} (h : ¬ (pathB p = true ∧ p.length ≤ 6)) : latA p = (0, false) := by
  unfold latA
  rw [if_neg h]
theorem two_steps {q : List V} (h : Path q) : ∃ u ∈ q, ∃ v ∈ q, u ≠ v := by
  match q, h with
  | v :: t, h =>
    refine Decidable.byContradiction fun hc => ?_
    have hall : ∀ u ∈ t, u = v := fun u hu => Decidable.byContradiction fun e => hc ⟨u, List.mem_cons_of_mem _ hu, v, List.mem_cons_self, e⟩
    have hrep : t = List.replicate t.length v := List.eq_replicate_of_mem hall
    have hx := h.x0
    have hy := h.y0
    have hv := h.st v List.mem_cons_self
    have s1 : ∀ n, sx (List.replicate n v) = n * v.1 := by
      intro n
      induction n with
      | zero => simp [sx]
      | succ n ih => rw [List.replicate_succ, sx_cons, ih, Int.natCast_add, Int.add_mul]; simp; omega
    have s2 : ∀ n, sy (List.replicate n v) = n * v.2 := by
      intro n
      induction n with
      | zero => simp [sy]
      | succ n ih => rw [List.replicate_succ, sy_cons, ih, Int.natCast_add, Int.add_mul]; simp; omega
    rw [sx_cons, hrep, s1] at hx
    rw [sy_cons, hrep, s2] at hy
    unfold stepV at hv
    have hx' : ((t.length : Int) + 1) * v.1 = 0 := by rw [Int.add_mul]; omega
    have hy' : ((t.length : Int) + 1) * v.2 = 0 := by rw [Int.add_mul]; omega
    rcases Int.mul_eq_zero.1 hx' with c | c
    · omega
    · rcases Int.mul_eq_zero.1 hy' with d | d
      · omega
      · omega
theorem FnOrderLattice : laws_FnOrderLattice.Pure := by
  intro l _ _ hw
  refine Ev.rounds ?_
  unfold laws_FnOrderLattice.f
  by_cases h : (l.length : Int) > 1048576
  · exact ev_pos h (ev_some _)
  · refine ev_neg h ?_
    obtain ⟨b, hb, hbl, hbm⟩ := open_eq l
    have hx : ∀ x ∈ b, 0 ≤ x ∧ x ≤ 255 := fun x hx => u8_range hw x (hbm x hx)
    obtain ⟨r1, p1, r0, rlt, _⟩ := pick_ev b 0 12 (by omega) hbl hx (by omega)
    have rlt := rlt (by omega)
    have hd : 0 ≤ Int.tdiv r1 11 ∧ Int.tdiv r1 11 ≤ 1 := by rw [Int.tdiv_eq_ediv_of_nonneg r0]; omega
    have hm : wrap64 (5 + wrap64 (wrap64 (Int.tdiv r1 11) * 2)) = 5 + Int.tdiv r1 11 * 2 := by
      rw [w64 (x := Int.tdiv r1 11) (by omega), w64 (x := Int.tdiv r1 11 * 2) (by omega), w64 (by omega)]
    obtain ⟨t, c, ht, hl, _, _⟩ := l92Path_ev b hbl hx (0 + 1) (5 + Int.tdiv r1 11 * 2) (by omega) (by omega)
    refine Ev.bind (a := L t) (by unfold spec_DrawOrderLattice.f; exact Ev.bind (ev_of_eq hb) (Ev.bind p1 (by dsimp only; rw [hm]; exact Ev.bind ht (ev_some _)))) ?_
    have hL : (L t).length ≤ 1048576 := by rw [L_length]; omega
    refine Ev.bind (impl_OrderLattice_ev _ hL) (Ev.bind (spec_OrderLattice_ev _ hL) (ev_neg (by simp) (ev_pos rfl (ev_step ?_))))
    simp only [laws_FnOrderLattice.j0]
    by_cases c6 : pathB (L t) = true ∧ (L t).length ≤ 6
    · obtain ⟨q, hq, hP⟩ := path_of c6.1
      have h6 : q.length ≤ 6 := by have := c6.2; rw [hq, L_length] at this; exact this
      rw [hq, latA_L hP h6]
      have hB := path_back hP
      have hBl : (back q).length ≤ 6 := by unfold back; simp; exact h6
      have i2 := impl_OrderLattice_ev (L (back q)) (by rw [L_length]; omega)
      rw [latA_L hB hBl, latN_back] at i2
      obtain ⟨u, hu, v, hv, huv⟩ := two_steps hP
      have n2 := latN_two hu hv huv
      have n7 := latN_le h6
      refine ev_neg (by simp) (Ev.bind (impl_PathBack_ev hP) (Ev.bind i2 (ev_pos rfl (ev_pos rfl (ev_pos rfl (ev_pos (by dsimp only; omega) (ev_of_eq ?_)))))))
      exact congrArg some (decide_eq_true (by omega))
    · rw [latA_no c6]
      exact ev_pos (by trivial) (ev_pos (by trivial) (by simpa using ev_some _))

end Go.Proofs.Ytbcfgglcabeckaa.Pure
