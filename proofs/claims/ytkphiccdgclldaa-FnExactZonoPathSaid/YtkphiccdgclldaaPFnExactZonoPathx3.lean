-- Made by hprint.py (wip/) out of the translation; not trusted: Lean checks it.
import Derived.Test.YtkphiccdgclldaaPFnExactZonoPathx0
import Derived.Test.YtkphiccdgclldaaPFnExactZonoPathx2
namespace Go.Proofs.Ytkphiccdgclldaa.PFnExactZonoPath
open Go.RowKit Go.Proofs.YtkphiccdgclldaaW.PrintWords Go.Proofs.YtkphiccdgclldaaW.PrintLast Go.Proofs.YtkphiccdgclldaaW.PrintMore
attribute [local go_sem] max2_int min2_int max_two min_two max_three min_three max_four min_four   -- for this text's walks alone
set_option linter.unusedVariables false
set_option linter.unusedSimpArgs false

/-! ### impl_zonogon: function 49, by hand -/
def impl_zonogon.ren : Go.Shelf.Ren := ⟨fun | 41 => 79 | n => n, fun | 22 => 22 | 23 => 34 | 4 => 4 | n => n, fun n => n⟩
theorem impl_zonogon.lay : SlLaysE0.n41 Try.prog impl_zonogon.ren :=
  { mixed := rfl, f41 := ⟨Try.f79.name, by decide, Try.func79.trans (congrArg some rfl)⟩, t4 := Try.underlying4, a4 := Try.isAgg4, z4 := Try.sizeOf4, v4 := Try.zeroValue4, t22 := Try.underlying22, a22 := Try.isAgg22, z22 := Try.sizeOf22, v22 := Try.zeroValue22 }
def impl_zonogon.cmp (a b : List Int) : Int := (impl_compareSteps.f a b).getD 0
def impl_zonogon.dn (s : List Int) : List Int := [wrap64 (-(rd s 0)), wrap64 (-(rd s 1))]
def impl_zonogon.up (s : List Int) : List Int := if (impl_lower.f s).getD false = true then impl_zonogon.dn s else s
def impl_zonogon.so (y : List (List Int)) : List (List Int) := Go.Proofs.Ytkphiccdgclldaa.HSrt.isort (fun a b => decide (impl_zonogon.cmp a b < 0)) (y.map impl_zonogon.up)
def impl_zonogon.f (k : Nat) (l0 : List (List Int)) : Option (List (List Int)) := (impl_copySteps.f k l0).bind fun y => if (0 < y.length ∧ y.length < 20) ∧ (∀ s ∈ y, s.length = 2 ∧ (impl_lower.f s).isSome = true) ∧ (∀ a ∈ y.map impl_zonogon.up, ∀ b ∈ y.map impl_zonogon.up, (impl_compareSteps.f a b).isSome = true) then some (impl_zonogon.so y ++ (impl_zonogon.so y).map impl_zonogon.dn) else none
theorem impl_zonogon.mono : ∀ a0 k, LeO (impl_zonogon.f k a0) (impl_zonogon.f (k + 1) a0) := by
  intro a0 k
  unfold impl_zonogon.f
  exact LeO.bind (impl_copySteps.mono _ _) (fun y => LeO.refl _)
theorem impl_zonogon.two {s : List Int} (h : s.length = 2) : (impl_zonogon.up s).length = 2 := by
  unfold impl_zonogon.up
  split
  · rfl
  · exact h
def impl_zonogon.mid (y : List (List Int)) (i : Nat) : List (List Int) := (y.take i).map impl_zonogon.up ++ y.drop i
theorem impl_zonogon.mid_length (y : List (List Int)) {i : Nat} (h : i ≤ y.length) : (impl_zonogon.mid y i).length = y.length := by simp [impl_zonogon.mid]; omega
theorem impl_zonogon.mid_get (y : List (List Int)) {i : Nat} (h : i < y.length) : (impl_zonogon.mid y i)[i]'(by rw [impl_zonogon.mid_length y (by omega)]; exact h) = y[i] := by
  simp only [impl_zonogon.mid]
  rw [List.getElem_append_right (by simp; omega)]
  simp [show min i y.length = i from by omega]
theorem impl_zonogon.mid_set (y : List (List Int)) {i : Nat} (h : i < y.length) : (impl_zonogon.mid y i).set i (impl_zonogon.up y[i]) = impl_zonogon.mid y (i + 1) := by
  unfold impl_zonogon.mid
  have hl : ((y.take i).map impl_zonogon.up).length = i := by simp; omega
  rw [List.set_append_right _ _ (by omega), hl, Nat.sub_self, List.drop_eq_getElem_cons h, List.set_cons_zero, List.take_succ_eq_append_getElem h, List.map_append, List.append_assoc]
  rfl
def impl_zonogon.T13 : Bool × List (List Nat × List Nat) := (true, [([], []), ([], []), ([1], [1]), ([2], [2]), ([3], [3]), ([], []), ([5], [5]), ([6], [6]), ([7], [7]), ([4, 8], [4, 8]), ([9], [9]), ([0, 10], [0, 10]), ([11, 11, 0, 1, 2, 3, 4, 5, 6, 7, 8, 9, 10, 11], [0, 11])])
def impl_zonogon.B13 : List Nat := [0, 0, 2, 6, 14, 0, 32, 96, 224, 510, 1022, 2047, 4095]
theorem impl_zonogon.tab13 : rtab .any (opsOf Try.f49 13) = impl_zonogon.T13 := by kernel_rfl
theorem impl_zonogon.bits13 : waitsOk impl_zonogon.T13.2 impl_zonogon.B13 = true := by kernel_rfl
open Go.Proofs.Ytkphiccdgclldaa.HRaw Go.Proofs.Ytkphiccdgclldaa.HSrt in
set_option maxHeartbeats 8000000 in
set_option maxRecDepth 100000 in
theorem impl_zonogon.calls (k : Nat) (A0 : Option Addr) (c0 : Nat) (l0 : List (List Int)) (r : List (List Int)) (w : World) (hr0 : Kd.C (Kd.slice 3 (Kd.int .i64)) w A0 l0.length l0) (hc0 : l0.length ≤ c0) (h : impl_zonogon.f k l0 = some r) :
    Calls Try.prog 49 #[.slice A0 l0.length c0] w fun e w' => ∃ v0_ : Value, e = .returned (v0_) ∧ Kd.S (Kd.slice 3 (Kd.int .i64)) 34 w' w.heap.size (fun _ => True) v0_ r ∧ Below w.heap.size w w' := by
  unfold impl_zonogon.f at h
  obtain ⟨y, h2, h⟩ := Option.bind_eq_some_iff.mp h
  by_cases g0 : (0 < y.length ∧ y.length < 20) ∧ (∀ s ∈ y, s.length = 2 ∧ (impl_lower.f s).isSome = true) ∧ (∀ a ∈ y.map impl_zonogon.up, ∀ b ∈ y.map impl_zonogon.up, (impl_compareSteps.f a b).isSome = true)
  · rw [if_pos g0] at h
    obtain rfl := Option.some.inj h
    obtain ⟨⟨hn, h20⟩, htl, hcs⟩ := g0
    have c2 := impl_copySteps.calls k A0 c0 l0 y w hr0 hc0 h2
    clear h h2 hr0
    go_enter Try.func49, Try.ntmps49
    go_wp2_with (first | (go_at_call 63; refine c2.mono ?_; rintro e w1 ⟨v0, rfl, hS, hB⟩; clear c2; obtain ⟨g, cap, cur, hs, f, O⟩ := open_S hS hn; clear hS; have hv := O.val; subst hv; have OO := Aside0.mk O; have HB := Aside0.mk hB; clear O hB))
    go_loopg [13] y.length (fun kq v13 w' => ∃ i : Nat, v13 = .int .i64 i ∧ kq + i = y.length ∧ Aside0 (OpenS w' 3 34 w.heap.size (fun _ => True) (.slice (some ⟨g, 0, none⟩) y.length cap) (impl_zonogon.mid y i) g cap cur hs f) ∧ Aside0 (Below w.heap.size w w'))
    case atStart => exact ⟨0, rfl, rfl, OO, HB⟩
    case round =>
      clear OO HB
      obtain ⟨i, rfl, hki, OO, HB⟩ := hrel
      by_cases hlt : i < y.length
      · have hml : (impl_zonogon.mid y i).length = y.length := impl_zonogon.mid_length y (by omega)
        have hi1 : i < (impl_zonogon.mid y i).length := by omega
        have hi2 : i < hs.length := by have := OO.out.hlen; omega
        have hmg := impl_zonogon.mid_get y hlt
        obtain ⟨h2l, hlow⟩ := htl y[i] (List.getElem_mem _)
        obtain ⟨b, c, cu, e1, e2, e3, e4, e5, e6, e7, e8, e9, e10, e11⟩ := OO.out.row i hi1 hi2 (by rw [hmg]; exact h2l)
        obtain ⟨lo, hlo⟩ := Option.isSome_iff_exists.1 hlow
        have hx : wr.cell? ⟨g, i, none⟩ = some (.slice (some ⟨b, 0, none⟩) 2 c) := by
          have h1 := OO.out.hd i hi2
          rw [e1] at h1
          unfold World.cell?
          simp only [OO.out.blk]
          exact h1
        have hC : Kd.C (Kd.int .i64) wr (some ⟨b, 0, none⟩) y[i].length y[i] := by
          obtain ⟨_, _, h3⟩ := OO.out.reads (W := wr) (fun _ _ _ => rfl) i hi1 hi2
          rw [e1] at h3
          simp only [hmg] at h3
          exact h3
        have c78 := impl_lower.calls (some ⟨b, 0, none⟩) c y[i] lo wr hC (by omega) hlo
        rw [h2l] at c78
        have q1 : ((i : Int) < (y.length : Int)) = True := eq_true (by omega)
        have q2 : (i < y.length) = True := eq_true hlt
        clear hC
        go_wp2_with (first | (go_at_call 78; refine c78.mono ?_; rintro e w2 ⟨rfl, ⟨nd, rfl⟩⟩; clear c78))
        · generalize hW : wr.drewN nd = W
          have OW : OpenS W 3 34 w.heap.size (fun _ => True) (.slice (some ⟨g, 0, none⟩) y.length cap) (impl_zonogon.mid y i) g cap cur hs f := OO.out.move (fun k _ => by rw [← hW]; rfl)
          have HBW := Aside0.mk (show Below w.heap.size w W from by rw [← hW]; exact pw_below_drewN HB.out nd)
          have hWb : W.heap[b]? = some (.cells cu 3 (0, 0)) := by rw [← hW]; exact e8
          clear HB OO hW
          have OW := Aside0.mk OW
          have hl0 : W.cell? ⟨b, 0, none⟩ = some (.int .i64 (rd y[i] 0)) := by
            unfold World.cell?; simp only [hWb]; rw [← hmg]; exact e10
          have hl1 : W.cell? ⟨b, 1, none⟩ = some (.int .i64 (rd y[i] 1)) := by
            unfold World.cell?; simp only [hWb]; rw [← hmg]; exact e11
          have hf0 : W.frozen? ⟨b, 0, none⟩ = false := by unfold World.frozen?; rw [hWb]; simp
          have hf1 : W.frozen? ⟨b, 1, none⟩ = false := by unfold World.frozen?; rw [hWb]; simp
          replace hWb := Aside0.mk hWb
          have mixed : Try.prog.follows .mixedOrders = true := rfl
          go_region_o
          all_goals go_wp2
          have hlt2 : lo = true := by first | assumption | (cases lo <;> first | rfl | contradiction)
          have hup : impl_zonogon.up y[i] = impl_zonogon.dn y[i] := by unfold impl_zonogon.up; rw [hlo, hlt2]; rfl
          have OS := OW.out.set (W := ((W.setCell ⟨b, 0, none⟩ (.int .i64 (wrap64 (-rd y[i] 0)))).setCell ⟨b, 1, none⟩ (.int .i64 (wrap64 (-rd y[i] 1)))).drew) hi1 hi2 e1 e2 e3 e4 e5 e6 e7
            (fun k hk => by
              show ((W.setCell _ _).setCell _ _).heap[k]? = _
              rw [heap_setCell_other _ _ _ _ hk, heap_setCell_other _ _ _ _ hk])
            (heap_setCell_same _ _ _ _ _ _ (heap_setCell_same _ _ _ _ _ _ hWb.out)) (u0 := wrap64 (-rd y[i] 0)) (u1 := wrap64 (-rd y[i] 1)) (by simp [e9])
            (by rw [Array.getElem?_setIfInBounds_ne (by decide), Array.getElem?_setIfInBounds_self_of_lt (by omega)])
            (by rw [Array.getElem?_setIfInBounds_self_of_lt (by simp; omega)])
          rw [show ([wrap64 (-rd y[i] 0), wrap64 (-rd y[i] 1)] : List Int) = impl_zonogon.up y[i] from hup.symm, impl_zonogon.mid_set y hlt] at OS
          have HB2 := (((HBW.out).setCell (p := ⟨b, 0, none⟩) e4 (.int .i64 (wrap64 (-rd y[i] 0)))).setCell (p := ⟨b, 1, none⟩) e4 (.int .i64 (wrap64 (-rd y[i] 1)))).drew
          go_roundg (y.length - (i + 1))
          case measure => omega
          case rel => exact ⟨i + 1, by simp, by omega, ⟨OS⟩, ⟨HB2⟩⟩
        · have hlf : lo = false := by first | assumption | (cases lo <;> first | rfl | contradiction)
          have hup : impl_zonogon.up y[i] = y[i] := by unfold impl_zonogon.up; rw [hlo, hlf]; rfl
          have hm2 : impl_zonogon.mid y (i + 1) = impl_zonogon.mid y i := by
            rw [← impl_zonogon.mid_set y hlt, hup]
            conv => rhs; rw [← List.set_getElem_self hi1]
            rw [hmg]
          have OS : OpenS (wr.drewN nd) 3 34 w.heap.size (fun _ => True) (.slice (some ⟨g, 0, none⟩) y.length cap) (impl_zonogon.mid y (i + 1)) g cap cur hs f := by
            rw [hm2]; exact OO.out.move (fun k _ => rfl)
          have HB2 := pw_below_drewN HB.out nd
          go_roundg (y.length - (i + 1))
          case measure => omega
          case rel => exact ⟨i + 1, by simp, by omega, ⟨OS⟩, ⟨HB2⟩⟩
      · have hin : i = y.length := by omega
        subst hin
        have hmid : impl_zonogon.mid y y.length = y.map impl_zonogon.up := by unfold impl_zonogon.mid; rw [List.take_length, List.drop_length, List.append_nil]
        have OM : OpenS wr 3 34 w.heap.size (fun _ => True) (.slice (some ⟨g, 0, none⟩) y.length cap) (y.map impl_zonogon.up) g cap cur hs f := by rw [← hmid]; exact OO.out
        clear OO
        have hml : (y.map impl_zonogon.up).length = y.length := List.length_map ..
        have hcmp : ∀ (W : World) (i j : Nat) (hi : i < (y.map impl_zonogon.up).length) (hj : j < (y.map impl_zonogon.up).length), (∀ k, k ≠ g → k < wr.heap.size → W.heap[k]? = wr.heap[k]?) →
            Calls Try.prog 65 #[encH (hs[i]'(by rw [OM.hlen]; exact hi)), encH (hs[j]'(by rw [OM.hlen]; exact hj))] W fun e w' => e = .returned (.int .i64 (impl_zonogon.cmp (y.map impl_zonogon.up)[i] (y.map impl_zonogon.up)[j])) ∧ ∃ m, w' = W.drewN m := by
          intro W i j hi hj hW
          obtain ⟨e1, e2, hC1⟩ := OM.reads hW i hi (by rw [OM.hlen]; exact hi)
          obtain ⟨e3, e4, hC2⟩ := OM.reads hW j hj (by rw [OM.hlen]; exact hj)
          obtain ⟨r, hr⟩ := Option.isSome_iff_exists.1 (hcs (y.map impl_zonogon.up)[i] (List.getElem_mem _) (y.map impl_zonogon.up)[j] (List.getElem_mem _))
          have c := impl_compareSteps.calls _ _ (y.map impl_zonogon.up)[i] _ _ (y.map impl_zonogon.up)[j] r W hC1 e2 hC2 e4 hr
          rw [← e1, ← e3] at c
          refine Calls.mono (show Calls Try.prog 65 #[encH _, encH _] W _ from c) ?_
          rintro e w' ⟨rfl, hD⟩
          exact ⟨by unfold impl_zonogon.cmp; rw [hr]; rfl, hD.out⟩
        have c64 := slices_SortStableFunc_int_int.calls OM (by omega) (by omega) impl_zonogon.cmp 65 (enters_of Try.func65 (by kernel_rfl) rfl) hcmp
        have htl2 : ∀ s ∈ y, s.length = 2 := fun s hs => (htl s hs).1
        clear hcmp OM hcs htl
        have hsl : (impl_zonogon.so y).length = y.length := by unfold impl_zonogon.so; rw [(isort_perm _ _).length_eq]; exact hml
        go_wp2_with (first | (go_at_call 64; refine c64.mono ?_; rintro e w3 ⟨rfl, ⟨cur3, hs3, f3, O3⟩, hB3⟩; clear c64; have OO := Aside0.mk O3; have HB3 := Aside0.mk (Below.trans HB.out hB3); clear O3 hB3 HB))
        have hso : isort (fun a b => decide (impl_zonogon.cmp a b < 0)) (y.map impl_zonogon.up) = impl_zonogon.so y := rfl
        rw [hso] at OO
        have hl3 : hs3.length = y.length := by have := OO.out.hlen; omega
        have hinfo : (Try.prog.info? 34).map (fun i => (i.zero, i.size, i.bytes)) = some (some (.slice none 0 0), 1, 24) := by kernel_rfl
        obtain ⟨i0, hi0, hz⟩ := Option.map_eq_some_iff.1 hinfo
        have c79 : Calls Try.prog 79 #[.slice (some ⟨g, 0, none⟩) y.length cap] w3 fun e w' => ∃ v', e = .returned v' ∧ w'.ownsRow w3.heap.size 34 1 v' y.length (hs3.map encH) ∧ v' ≠ .slice none 0 0 ∧ Below w3.heap.size w3 w' :=
          AnyE.slices_Clone impl_zonogon.lay i0 (.slice none 0 0) 1 24 hi0 (by injection hz) (by injection hz with _ h; injection h) (by injection hz with _ h; injection h) rfl (by decide) Try.sizeOf34 g 0 y.length cap (hs3.map encH) w3 (by simp [hl3]) (by unfold maxLen; omega) (by omega)
            (fun j u hu => by
              rw [List.getElem?_map] at hu
              have hj : j < hs3.length := by
                rcases Nat.lt_or_ge j hs3.length with c | c
                · exact c
                · rw [List.getElem?_eq_none c] at hu; cases hu
              rw [List.getElem?_eq_getElem hj] at hu
              injection hu with hu
              subst hu
              rw [Nat.zero_add]
              unfold World.cell?
              simp only [OO.out.blk]
              exact OO.out.hd j hj)
            (fun u hu => by
              obtain ⟨h, _, rfl⟩ := List.mem_map.1 hu
              rfl)
        clear hinfo hi0 hz hso
        refine c79.mono ?_
        rintro e w4 ⟨v4, rfl, hown, hv4, hB4⟩
        clear c79
        have h34 : g < w3.heap.size := (Array.getElem?_eq_some_iff.1 OO.out.blk).1
        obtain ⟨g1, cap1, cur1, rfl, hg1, hh1, hcur1⟩ : ∃ g1 cap1 cur1, v4 = .slice (some ⟨g1, 0, none⟩) y.length cap1 ∧ w3.heap.size ≤ g1 ∧ w4.heap[g1]? = some (.cells cur1 34 (0, 0)) ∧ ∀ j (hj : j < hs3.length), cur1[j]? = some (encH hs3[j]) := by
          rcases hown.2 with ⟨e, _⟩ | ⟨g1, cap1, cur1, e, hb, hh, _, _, _, ht⟩
          · exact absurd e hv4
          · refine ⟨g1, cap1, cur1, e, hb, hh, fun j hj => ?_⟩
            have := congrArg (fun l => l[j]?) ht
            simp only [Nat.mul_one, List.getElem?_take, List.getElem?_map, List.getElem?_eq_getElem hj, Option.map_some] at this
            rw [if_pos (by omega)] at this
            simpa using this
        clear hown hv4
        have HO4 := Aside0.mk (OO.out.move (W := w4) (fun k hk => hB4.block k hk)).shut
        have HB4 := Aside0.mk (Below.trans HB3.out (hB4.mono HB3.out.size))
        have HB34 := Aside0.mk hB4
        clear HB3 hB4
        go_wp2
        go_loopg [6, 38] y.length (fun kq v6 v38 w' => ∃ m : Nat, v38 = .int .i64 m ∧ kq + m = y.length ∧ Aside0 (Kd.S (Kd.slice 3 (Kd.int .i64)) 34 w' w.heap.size (fun _ => True) v6 (impl_zonogon.so y ++ ((impl_zonogon.so y).take m).map impl_zonogon.dn)) ∧ Aside0 (∀ k, k < w4.heap.size → k ≠ g → w'.heap[k]? = w4.heap[k]?) ∧ Aside0 (w4.heap.size ≤ w'.heap.size) ∧ Aside0 (∀ k, v6.ownBlock = some k → k = g ∨ w4.heap.size ≤ k) ∧ Aside0 (Below w.heap.size w w'))
        case atStart => exact ⟨0, rfl, rfl, ⟨by rw [List.take_zero, List.map_nil, List.append_nil]; exact HO4.out⟩, ⟨fun k _ _ => rfl⟩, ⟨Nat.le_refl _⟩, ⟨fun k hk => by simp only [Value.ownBlock, Option.some.injEq] at hk; exact Or.inl hk.symm⟩, HB4⟩
        case round =>
          clear HO4 HB4
          obtain ⟨m, rfl, hkm, HO_6, HK, HSz, Hown, HB⟩ := hrel
          by_cases hlt : m < y.length
          · have hm1 : m < (impl_zonogon.so y).length := by omega
            have hm2 : m < hs3.length := by omega
            have h2l : (impl_zonogon.so y)[m].length = 2 := by
              have h1 : (impl_zonogon.so y)[m] ∈ y.map impl_zonogon.up := (isort_perm _ _).mem_iff.1 (List.getElem_mem hm1)
              obtain ⟨s, hs, h2⟩ := List.mem_map.1 h1
              rw [← h2]
              exact impl_zonogon.two (htl2 s hs)
            obtain ⟨b, c, cu, e1, e2, e3, e4, e5, e6, e7, e8, e9, e10, e11⟩ := OO.out.row m hm1 hm2 h2l
            have hb3 : b < w3.heap.size := (Array.getElem?_eq_some_iff.1 e8).1
            have hb4 : b < w4.heap.size := Nat.lt_of_lt_of_le hb3 HB34.out.size
            have hg4 : g1 < w4.heap.size := (Array.getElem?_eq_some_iff.1 hh1).1
            have e84 : w4.heap[b]? = some (.cells cu 3 (0, 0)) := (HB34.out.block b hb3).trans e8
            obtain ⟨a0, ha0⟩ : ∃ a0, a0 = rd (impl_zonogon.so y)[m] 0 := ⟨_, rfl⟩
            obtain ⟨a1, ha1⟩ : ∃ a1, a1 = rd (impl_zonogon.so y)[m] 1 := ⟨_, rfl⟩
            rw [← ha0] at e10
            rw [← ha1] at e11
            obtain ⟨ad138, had⟩ : ∃ ad : Addr, ad = ⟨b, 0, none⟩ := ⟨_, rfl⟩
            have hc0 : Aside0 (∀ W : World, (∀ k, k < w4.heap.size → k ≠ g → W.heap[k]? = w4.heap[k]?) → W.cell? ad138 = some (.int .i64 a0)) := ⟨fun W hW => by
              rw [had]; unfold World.cell?; simp only [hW b hb4 e5, e84]; exact e10⟩
            have hc1 : Aside0 (∀ W : World, (∀ k, k < w4.heap.size → k ≠ g → W.heap[k]? = w4.heap[k]?) → W.cell? ⟨ad138.block, ad138.off + 1, none⟩ = some (.int .i64 a1)) := ⟨fun W hW => by
              rw [had]; unfold World.cell?; simp only [hW b hb4 e5, e84]; exact e11⟩
            have hx : wr.cell? ⟨g1, m, none⟩ = some (.slice (some ad138) 2 c) := by
              rw [had]
              unfold World.cell?
              simp only [HK.out g1 hg4 (by omega), hh1]
              have := hcur1 m hm2
              rw [e1] at this
              exact this
            have q1 : ((m : Int) < (y.length : Int)) = True := eq_true (by omega)
            have q2 : (m < y.length) = True := eq_true hlt
            clear e1 e2 e3 e4 e6 e7 e8 e9 e10 e11 e84 had
            obtain ⟨x6_1, hx6⟩ : ∃ z, z = impl_zonogon.so y ++ ((impl_zonogon.so y).take m).map impl_zonogon.dn := ⟨_, rfl⟩
            rw [← hx6] at HO_6
            have LMc9 : x6_1.length < 5864062014805 := by rw [hx6]; simp; omega
            obtain ⟨y140, hy140⟩ : ∃ y_ : List Int, y_ = ([wrap64 (-a0), wrap64 (-a1)] : List Int) := ⟨_, rfl⟩
            have Ny140 := Aside0.mk hy140
            obtain ⟨y143, hy143⟩ : ∃ y_ : List (List Int), y_ = x6_1 ++ [y140] := ⟨_, rfl⟩
            have Ny143 := Aside0.mk hy143
            have hfin : Aside0 (y143 = impl_zonogon.so y ++ ((impl_zonogon.so y).take (m + 1)).map impl_zonogon.dn) := ⟨by
              rw [hy143, hx6, hy140, ha0, ha1, List.take_succ_eq_append_getElem hm1, List.map_append, ← List.append_assoc]; rfl⟩
            clear hy140 hy143 hx6 ha0 ha1
            go_wp2
            have n0_ := Aside0.mk (Kd.S_drew HO_6.out)
            have n1_ := Aside0.mk (below_drew1 HB.out)
            have n2_ : Aside0 (∀ k, k < w4.heap.size → k ≠ g → wr.drew.heap[k]? = w4.heap[k]?) := ⟨fun k h1 h2 => HK.out k h1 h2⟩
            have n3_ : Aside0 (w4.heap.size ≤ wr.drew.heap.size) := ⟨HSz.out⟩
            clear HO_6 HB HK HSz
            have HO_6 := n0_
            have HB := n1_
            have HK := n2_
            have HSz := n3_
            clear n0_ n1_ n2_ n3_
            have hk0 := hc0.out _ HK.out
            have hk1 := hc1.out _ HK.out
            clear hx
            refine start_ (n := 13) (S := fun w' => w'.cell? ad138 = some (.int .i64 a0) ∧ w'.cell? ⟨ad138.block, ad138.off + 1, none⟩ = some (.int .i64 a1)) (ds := []) #[false, false, false, false, false, false, false, false, false, false, false, false, false] (by kernel_rfl) rfl rfl ⟨hk0, hk1⟩ (fun hHeld => ?_); refine with_tabW impl_zonogon.tab13 impl_zonogon.bits13 (fun HT_ HW_ => ?_)
            generalize wr.drew = w10 at HO_6 HB HK HSz hk0 hk1 hHeld ⊢
            refine pure_ (i := 0) (N := some 42) (v := ?_) (a' := ?_) #[true, false, false, false, false, false, false, false, false, false, false, false, false] rfl rfl (any_of HT_.out (by kernel_rfl)) (fun _ _ _ h => h) (Or.inl ⟨by rfl, ?_⟩) ?_ ?_
            rotate_left
            · intro w'
              go_simp
              with_reducible rfl
            rotate_left
            · simp only [Act.put, List.setIfInBounds_toArray, List.set_cons_zero, List.set_cons_succ, i64_w, i32_w]
              rfl
            refine pure_ (i := 1) (N := some 43) (v := ?_) (a' := ?_) #[true, true, false, false, false, false, false, false, false, false, false, false, false] rfl rfl (any_of HT_.out (by kernel_rfl)) (fun _ _ _ h => h) (Or.inl ⟨by rfl, ?_⟩) ?_ ?_
            rotate_left
            · intro w'
              go_simp
              with_reducible rfl
            rotate_left
            · simp only [Act.put, List.setIfInBounds_toArray, List.set_cons_zero, List.set_cons_succ, i64_w, i32_w]
              rfl
            refine pure_ (i := 2) (N := some 44) (v := ?_) (a' := ?_) #[true, true, true, false, false, false, false, false, false, false, false, false, false] rfl rfl (any_of HT_.out (by kernel_rfl)) (fun _ _ _ h => h) (Or.inl ⟨by rfl, ?_⟩) ?_ ?_
            rotate_left
            · intro w'
              go_simp
              with_reducible rfl
            rotate_left
            · simp only [Act.put, List.setIfInBounds_toArray, List.set_cons_zero, List.set_cons_succ, i64_w, i32_w]
              rfl
            refine pure_ (i := 5) (N := some 47) (v := ?_) (a' := ?_) #[true, true, true, false, false, true, false, false, false, false, false, false, false] rfl rfl (any_of HT_.out (by kernel_rfl)) (fun _ _ _ h => h) (Or.inl ⟨by rfl, ?_⟩) ?_ ?_
            rotate_left
            · intro w'
              go_simp
              with_reducible rfl
            rotate_left
            · simp only [Act.put, List.setIfInBounds_toArray, List.set_cons_zero, List.set_cons_succ, i64_w, i32_w]
              rfl
            refine pure_ (i := 6) (N := some 48) (v := ?_) (a' := ?_) #[true, true, true, false, false, true, true, false, false, false, false, false, false] rfl rfl (any_of HT_.out (by kernel_rfl)) (fun _ _ _ h => h) (Or.inl ⟨by rfl, ?_⟩) ?_ ?_
            rotate_left
            · intro w'
              go_simp
              with_reducible rfl
            rotate_left
            · simp only [Act.put, List.setIfInBounds_toArray, List.set_cons_zero, List.set_cons_succ, i64_w, i32_w]
              rfl
            refine take_ (i := 3) (N := some 45) (v := ?_) (a' := ?_) #[true, true, true, true, false, true, true, false, false, false, false, false, false] rfl rfl (take_ofW HT_.out HW_.out (by kernel_rfl)) (fun _ _ _ h => h) (Or.inl ⟨by rfl, ?_⟩) hHeld ?_ ?_
            rotate_left
            · rintro w' ⟨s0, s1⟩
              go_simp
              with_reducible rfl
            rotate_left
            · simp only [Act.put, List.setIfInBounds_toArray, List.set_cons_zero, List.set_cons_succ, i64_w, i32_w]
              rfl
            refine pure_ (i := 4) (N := some 46) (v := ?_) (a' := ?_) #[true, true, true, true, true, true, true, false, false, false, false, false, false] rfl rfl (any_of HT_.out (by kernel_rfl)) (fun _ _ _ h => h) (Or.inl ⟨by rfl, ?_⟩) ?_ ?_
            rotate_left
            · intro w'
              go_simp
              with_reducible rfl
            rotate_left
            · simp only [Act.put, List.setIfInBounds_toArray, List.set_cons_zero, List.set_cons_succ, i64_w, i32_w]
              rfl
            refine take_ (i := 7) (N := some 49) (v := ?_) (a' := ?_) #[true, true, true, true, true, true, true, true, false, false, false, false, false] rfl rfl (take_ofW HT_.out HW_.out (by kernel_rfl)) (fun _ _ _ h => h) (Or.inl ⟨by rfl, ?_⟩) hHeld ?_ ?_
            rotate_left
            · rintro w' ⟨s0, s1⟩
              go_simp
              with_reducible rfl
            rotate_left
            · simp only [Act.put, List.setIfInBounds_toArray, List.set_cons_zero, List.set_cons_succ, i64_w, i32_w]
              rfl
            refine pure_ (i := 8) (N := some 50) (v := ?_) (a' := ?_) #[true, true, true, true, true, true, true, true, true, false, false, false, false] rfl rfl (any_of HT_.out (by kernel_rfl)) (fun _ _ _ h => h) (Or.inl ⟨by rfl, ?_⟩) ?_ ?_
            rotate_left
            · intro w'
              go_simp
              with_reducible rfl
            rotate_left
            · simp only [Act.put, List.setIfInBounds_toArray, List.set_cons_zero, List.set_cons_succ, i64_w, i32_w]
              rfl
            refine one_ (i := 9) (N := some 51) #[true, true, true, true, true, true, true, true, true, true, false, false, false] rfl rfl (one_of HT_.out (by kernel_rfl)) (by decide) (fun K hK => ?_)
            refine Kd.R_lit_step (Kd.int .i64) _ 3 ?hg (N := 51) ?hd (xs := ([wrap64 (-a0), wrap64 (-a1)] : List Int)) (inner := [.int .i64 (wrap64 (-a0)), .int .i64 (wrap64 (-a1))]) (ok := fun _ => True) (okp := fun _ => True) ?hr ?hp (fun _ hk => hk) trivial (Below.refl _ _) (Nat.le_refl _) (by simp) ?_; (case hd => rfl); (case hg => rfl); (case hr => first | (go_simp; done) | (go_simp; rfl)); (case hp => exact (Reps.one (show Kd.M (Kd.int .i64) _ _ _ (wrap64 (-a0)) [.int .i64 (wrap64 (-a0))] from rfl) (Reps.one (show Kd.M (Kd.int .i64) _ _ _ (wrap64 (-a1)) [.int .i64 (wrap64 (-a1))] from rfl) (Reps.none _ _))))
            intro v141 w11 ho12 hb hg_ hnew_
            clear hg_ hnew_
            have HK2 : ∀ k, k < w4.heap.size → k ≠ g → w11.heap[k]? = w4.heap[k]? := fun k h1 h2 => (hb.block k (Nat.lt_of_lt_of_le h1 HSz.out)).trans (HK.out k h1 h2)
            have HSz2 : w4.heap.size ≤ w11.heap.size := Nat.le_trans HSz.out hb.size
            clear HK HSz hk0 hk1
            have HK := Aside0.mk HK2
            have HSz := Aside0.mk HSz2
            clear HK2 HSz2
            have hk0 := hc0.out _ HK.out
            have hk1 := hc1.out _ HK.out
            (first | rw [← Ny140.out] at ho12 | (simp only [Int.reduceToNat] at ho12; rw [← Ny140.out] at ho12))
            have n0_ := Aside0.mk (Kd.S_elder' (by (with_reducible repeat (first | apply Kd.S_alloc | apply Kd.S_drewN | apply Kd.S_drew)); exact HO_6.out) (Kd.R_base ho12) hb)
            have n1_ := Aside0.mk (Kd.R_lower ho12 (below_size (by repeat (first | (with_reducible first | exact HB.out | apply below_alloc | apply pw_below_drewN | apply below_drew1) | exact HB.out))))
            have n2_ := Aside0.mk (below_step (by repeat (first | (with_reducible first | exact HB.out | apply below_alloc | apply pw_below_drewN | apply below_drew1) | exact HB.out)) hb)
            clear HO_6
            clear HB
            have HO_6 := n0_
            have HO142 := n1_
            have HB := n2_
            clear n0_ n1_ n2_
            clear hb ho12
            obtain ⟨Ao14, co14, eo14⟩ := Kd.R_slice HO142.out
            (first | subst eo14 | (injection eo14 with f1_ f2_ f3_; have f4_ := f1_.symm; have f5_ := f3_.symm; clear f1_ f2_ f3_; subst f4_; subst f5_))
            refine hK.out _ _ ⟨hk0, hk1⟩ (fun hHeld => ?_)
            clear hK K
            refine norm_ (a' := ?_) ?_ ?_
            rotate_left
            · show Act.put _ (some 51) _ = _
              simp only [Act.put, List.setIfInBounds_toArray, List.set_cons_zero, List.set_cons_succ, i64_w, i32_w]
              rfl
            refine one_ (i := 10) (N := some 52) #[true, true, true, true, true, true, true, true, true, true, true, false, false] rfl rfl (one_of HT_.out (by kernel_rfl)) (by decide) (fun K hK => ?_)
            refine value_ (w1 := ?_) (v := ?_) (by rfl) rfl ?_ ?_
            rotate_left 2
            · go_simp
              constructor
              · rfl
              · rfl
            refine hK.out _ _ ⟨(World.cell?_alloc_lt _ _ _ (World.block_lt_of_cell? _ _ (hk0))).trans (hk0), (World.cell?_alloc_lt _ _ _ (World.block_lt_of_cell? _ _ (hk1))).trans (hk1)⟩ (fun hHeld => ?_)
            clear hK K
            refine norm_ (a' := ?_) ?_ ?_
            rotate_left
            · show Act.put _ (some 52) _ = _
              simp only [Act.put, List.setIfInBounds_toArray, List.set_cons_zero, List.set_cons_succ, i64_w, i32_w]
              rfl
            refine one_ (i := 11) (N := some 53) #[true, true, true, true, true, true, true, true, true, true, true, true, false] rfl rfl (one_of HT_.out (by kernel_rfl)) (by decide) (fun K hK => ?_)
            refine Kd.S_append_step (Kd.slice 3 (Kd.int .i64)) (w0 := w) w.heap.size (by rfl) (.tmp 42) (.tmp 52) 22 34 (.slice none 0 0) 24 rfl Try.underlying22 info34 rfl (by decide) (by omega) u6 x6_1 y140 [.slice Ao14 y140.length co14] (fun _ => True) (fun k_ => some k_ = (.slice Ao14 y140.length co14 : Value).ownBlock) rfl rfl ?aP (fun k_ hk_ => ((Kd.R_mono (ok' := fun k_ => ((fun _ => True)) k_ ∧ some k_ ≠ (u6 : Value).ownBlock) (Kd.R_apart' (HO142.out) (Kd.S_typed HO_6.out) (by decide)) (fun k_ hk => ⟨trivial, hk.2⟩))).1 k_ hk_.symm) ?aF ?aO ?aB ?aS ?aL ?_
            (case aP => exact Kd.M_row (Kd.R_mono (Kd.R_tight rfl (Kd.R_mono (ok' := fun k_ => ((fun _ => True)) k_ ∧ some k_ ≠ (u6 : Value).ownBlock) (Kd.R_apart' (HO142.out) (Kd.S_typed HO_6.out) (by decide)) (fun k_ hk => ⟨trivial, hk.2⟩))) (fun _ h_ => h_)))
            (case aB => exact (by repeat (first | (with_reducible first | exact HB.out | apply below_alloc | apply pw_below_drewN | apply below_drew1) | exact HB.out)))
            (case aF => exact (fun _ _ => trivial))
            (case aO => exact (by (with_reducible repeat (first | apply Kd.S_alloc | apply Kd.S_drewN | apply Kd.S_drew)); exact Kd.S_mono HO_6.out (fun k_ hk => ⟨trivial, fun e_ => hk.2 e_⟩)))
            (case aS => exact (below_size (by repeat (first | (with_reducible first | exact HB.out | apply below_alloc | apply pw_below_drewN | apply below_drew1) | exact HB.out))))
            (case aL => have := LMc9; omega)
            intro v144 w13 ho hb hg hat
            rw [← Ny143.out] at ho
            have n0_ := Aside0.mk (hb)
            have n1_ := Aside0.mk (ho)
            clear HB
            clear HO_6
            clear HO142
            have HB := n0_
            have HO145 := n1_
            clear n0_ n1_
            have HK2 : ∀ k, k < w4.heap.size → k ≠ g → w13.heap[k]? = w4.heap[k]? := fun k h1 h2 => (hg.block k (Nat.lt_of_lt_of_le h1 HSz.out) (fun e => by rcases Hown.out k e.symm with e1 | e1 <;> omega)).trans (HK.out k h1 h2)
            have Hown2 : ∀ k, v144.ownBlock = some k → k = g ∨ w4.heap.size ≤ k := by
              intro k hk
              rcases hat with e | ⟨b1, e, hb1⟩
              · exact Hown.out k (e.symm.trans hk)
              · rw [e] at hk; injection hk with hk; subst hk; exact Or.inr (Nat.le_trans HSz.out hb1)
            have HSz2 : w4.heap.size ≤ w13.heap.size := Nat.le_trans HSz.out hg.size
            clear HK Hown HSz hk0 hk1
            have HK := Aside0.mk HK2
            have Hown := Aside0.mk Hown2
            have HSz := Aside0.mk HSz2
            clear HK2 Hown2 HSz2
            have hk0 := hc0.out _ HK.out
            have hk1 := hc1.out _ HK.out
            clear ho hb hg hat
            refine hK.out _ _ ⟨hk0, hk1⟩ (fun hHeld => ?_)
            clear hK K
            refine norm_ (a' := ?_) ?_ ?_
            rotate_left
            · show Act.put _ (some 53) _ = _
              simp only [Act.put, List.setIfInBounds_toArray, List.set_cons_zero, List.set_cons_succ, i64_w, i32_w]
              rfl
            refine pure_ (i := 12) (N := some 6) (v := ?_) (a' := ?_) #[true, true, true, true, true, true, true, true, true, true, true, true, true] rfl rfl (any_of HT_.out (by kernel_rfl)) (fun _ _ _ h => h) (Or.inl ⟨by rfl, ?_⟩) ?_ ?_
            rotate_left
            · intro w'
              go_simp
              with_reducible rfl
            rotate_left
            · simp only [Act.put, List.setIfInBounds_toArray, List.set_cons_zero, List.set_cons_succ, i64_w, i32_w]
              rfl
            refine done_ (done_of HT_.out (by kernel_rfl)) ?_
            try go_wp2
            go_roundg (y.length - (m + 1))
            case measure => omega
            case rel => exact ⟨m + 1, by simp, by omega, ⟨by rw [← hfin.out]; exact HO145.out⟩, HK, HSz, Hown, HB⟩
          · have hmn : m = y.length := by omega
            subst hmn
            have hS := HO_6.out
            rw [List.take_of_length_le (by omega)] at hS
            go_wp2
            go_ret
            exact ⟨_, rfl, hS, HB.out⟩
  · rw [if_neg g0] at h; cases h

/-! ### impl_isStep: function 83 -/
def impl_isStep.f (l0 : List Int) : Option (Bool) := if (l0.length : Int) = 2 then (if 0 < (l0.length : Int) then (if (rd l0 0) ≥ (-9) then (if (rd l0 0) ≤ 9 then (if 1 < (l0.length : Int) then (if (rd l0 1) ≥ (-9) then (if (rd l0 1) ≤ 9 then (if (rd l0 0) = 0 then (some ((rd l0 1) != 0)) else (some true)) else (some false)) else (some false)) else (none)) else (some false)) else (some false)) else (none)) else (some false)
set_option maxHeartbeats 8000000 in
set_option maxRecDepth 100000 in
theorem impl_isStep.calls (A0 : Option Addr) (c0 : Nat) (l0 : List Int) (r : Bool) (w : World) (hr0 : Kd.C (Kd.int .i64) w A0 l0.length l0) (hc0 : l0.length ≤ c0) (h : impl_isStep.f l0 = some r) :
    Calls Try.prog 83 #[.slice A0 l0.length c0] w fun e w' => e = .returned (.bool r) ∧ Drawn0 w w' := by
  have HR0 := Aside0.mk hr0
  have HC0 := Aside0.mk hc0
  clear hr0 hc0
  have H : (if (l0.length : Int) = 2 then (if 0 < (l0.length : Int) then (if (rd l0 0) ≥ (-9) then (if (rd l0 0) ≤ 9 then (if 1 < (l0.length : Int) then (if (rd l0 1) ≥ (-9) then (if (rd l0 1) ≤ 9 then (if (rd l0 0) = 0 then (some ((rd l0 1) != 0)) else (some true)) else (some false)) else (some false)) else (none)) else (some false)) else (some false)) else (none)) else (some false)) = some r := h
  clear h
  by_cases c2 : (l0.length : Int) = 2
  · rw [if_pos c2] at H
    have c2b0 : ((l0.length : Int) == 2) = true := beq_iff_eq.mpr c2
    have c2b1 : ((l0.length : Int) != 2) = false := bne_eq_false_iff_eq.mpr c2
    clear c2
    by_cases c3 : 0 < (l0.length : Int)
    · rw [if_pos c3] at H
      have c3b0 : decide (0 < (l0.length : Int)) = true := decide_eq_true c3
      have c3b1 : decide (0 < l0.length) = true := decide_eq_true (by omega)
      clear c3
      by_cases c4 : (rd l0 0) ≥ (-9)
      · rw [if_pos c4] at H
        have c4b0 : decide ((-9) ≤ (rd l0 0)) = true := decide_eq_true c4
        clear c4
        by_cases c5 : (rd l0 0) ≤ 9
        · rw [if_pos c5] at H
          have c5b0 : decide ((rd l0 0) ≤ 9) = true := decide_eq_true c5
          clear c5
          by_cases c6 : 1 < (l0.length : Int)
          · rw [if_pos c6] at H
            have c6b0 : decide (1 < (l0.length : Int)) = true := decide_eq_true c6
            have c6b1 : decide (1 < l0.length) = true := decide_eq_true (by omega)
            clear c6
            by_cases c7 : (rd l0 1) ≥ (-9)
            · rw [if_pos c7] at H
              have c7b0 : decide ((-9) ≤ (rd l0 1)) = true := decide_eq_true c7
              clear c7
              by_cases c8 : (rd l0 1) ≤ 9
              · rw [if_pos c8] at H
                have c8b0 : decide ((rd l0 1) ≤ 9) = true := decide_eq_true c8
                clear c8
                by_cases c9 : (rd l0 0) = 0
                · rw [if_pos c9] at H
                  have c9b0 : ((rd l0 0) == 0) = true := beq_iff_eq.mpr c9
                  have c9b1 : ((rd l0 0) != 0) = false := bne_eq_false_iff_eq.mpr c9
                  clear c9
                  obtain rfl := Option.some.inj H
                  have p154 : 0 ≤ (0 : Int) := (by omega)
                  have q154 : 0 < (l0.length : Int) := of_decide_eq_true (by first | (with_reducible assumption) | assumption)
                  obtain ⟨ad154, e154, hx154_0⟩ := Kd.at_int HR0.out 0 p154 q154
                  cases e154
                  have qi154 : (0 < l0.length) = True := eq_true (by omega)
                  (try rw [show ((0 : Int)).toNat = 0 from rfl] at hx154_0)
                  (try rw [Addr.add_zero'] at hx154_0)
                  replace p154 := eq_true p154
                  replace q154 := eq_true q154
                  have p155 : 0 ≤ (0 : Int) := (by omega)
                  have q155 : 0 < (l0.length : Int) := of_decide_eq_true (by first | (with_reducible assumption) | assumption)
                  obtain ⟨ad155, e155, hx155_0⟩ := Kd.at_int HR0.out 0 p155 q155
                  obtain rfl : ad154 = ad155 := (by injection e155)
                  have qi155 : (0 < l0.length) = True := eq_true (by omega)
                  (try rw [show ((0 : Int)).toNat = 0 from rfl] at hx155_0)
                  (try rw [Addr.add_zero'] at hx155_0)
                  replace p155 := eq_true p155
                  replace q155 := eq_true q155
                  have p156 : 0 ≤ (1 : Int) := (by omega)
                  have q156 : 1 < (l0.length : Int) := of_decide_eq_true (by first | (with_reducible assumption) | assumption)
                  obtain ⟨ad156, e156, hx156_0⟩ := Kd.at_int HR0.out 1 p156 q156
                  obtain rfl : ad154 = ad156 := (by injection e156)
                  (try simp only [show (1 : Int).toNat = 1 from rfl, Nat.reduceMul, Nat.reduceEqDiff, Go.Addr.add, ↓reduceIte] at hx156_0)
                  have qi156 : (1 < l0.length) = True := eq_true (by omega)
                  (try rw [show ((1 : Int)).toNat = 1 from rfl] at hx156_0)
                  replace p156 := eq_true p156
                  replace q156 := eq_true q156
                  have p157 : 0 ≤ (1 : Int) := (by omega)
                  have q157 : 1 < (l0.length : Int) := of_decide_eq_true (by first | (with_reducible assumption) | assumption)
                  obtain ⟨ad157, e157, hx157_0⟩ := Kd.at_int HR0.out 1 p157 q157
                  obtain rfl : ad154 = ad157 := (by injection e157)
                  (try simp only [show (1 : Int).toNat = 1 from rfl, Nat.reduceMul, Nat.reduceEqDiff, Go.Addr.add, ↓reduceIte] at hx157_0)
                  have qi157 : (1 < l0.length) = True := eq_true (by omega)
                  (try rw [show ((1 : Int)).toNat = 1 from rfl] at hx157_0)
                  replace p157 := eq_true p157
                  replace q157 := eq_true q157
                  have p158 : 0 ≤ (0 : Int) := (by omega)
                  have q158 : 0 < (l0.length : Int) := of_decide_eq_true (by first | (with_reducible assumption) | assumption)
                  obtain ⟨ad158, e158, hx158_0⟩ := Kd.at_int HR0.out 0 p158 q158
                  obtain rfl : ad154 = ad158 := (by injection e158)
                  have qi158 : (0 < l0.length) = True := eq_true (by omega)
                  (try rw [show ((0 : Int)).toNat = 0 from rfl] at hx158_0)
                  (try rw [Addr.add_zero'] at hx158_0)
                  replace p158 := eq_true p158
                  replace q158 := eq_true q158
                  have p159 : 0 ≤ (1 : Int) := (by omega)
                  have q159 : 1 < (l0.length : Int) := of_decide_eq_true (by first | (with_reducible assumption) | assumption)
                  obtain ⟨ad159, e159, hx159_0⟩ := Kd.at_int HR0.out 1 p159 q159
                  obtain rfl : ad154 = ad159 := (by injection e159)
                  (try simp only [show (1 : Int).toNat = 1 from rfl, Nat.reduceMul, Nat.reduceEqDiff, Go.Addr.add, ↓reduceIte] at hx159_0)
                  have qi159 : (1 < l0.length) = True := eq_true (by omega)
                  (try rw [show ((1 : Int)).toNat = 1 from rfl] at hx159_0)
                  replace p159 := eq_true p159
                  replace q159 := eq_true q159
                  go_enter Try.func83, Try.ntmps83
                  go_wp2
                  go_ret
                  exact ⟨by first | rfl | (simp; done) | (simp [*]; done), by repeat (first | exact Drawn0.refl _ | apply Drawn0.step)⟩
                · rw [if_neg c9] at H
                  have c9b0 : ((rd l0 0) == 0) = false := beq_eq_false_iff_ne.mpr c9
                  have c9b1 : ((rd l0 0) != 0) = true := bne_iff_ne.mpr c9
                  obtain rfl := Option.some.inj H
                  have p154 : 0 ≤ (0 : Int) := (by omega)
                  have q154 : 0 < (l0.length : Int) := of_decide_eq_true (by first | (with_reducible assumption) | assumption)
                  obtain ⟨ad154, e154, hx154_0⟩ := Kd.at_int HR0.out 0 p154 q154
                  cases e154
                  have qi154 : (0 < l0.length) = True := eq_true (by omega)
                  (try rw [show ((0 : Int)).toNat = 0 from rfl] at hx154_0)
                  (try rw [Addr.add_zero'] at hx154_0)
                  replace p154 := eq_true p154
                  replace q154 := eq_true q154
                  have p155 : 0 ≤ (0 : Int) := (by omega)
                  have q155 : 0 < (l0.length : Int) := of_decide_eq_true (by first | (with_reducible assumption) | assumption)
                  obtain ⟨ad155, e155, hx155_0⟩ := Kd.at_int HR0.out 0 p155 q155
                  obtain rfl : ad154 = ad155 := (by injection e155)
                  have qi155 : (0 < l0.length) = True := eq_true (by omega)
                  (try rw [show ((0 : Int)).toNat = 0 from rfl] at hx155_0)
                  (try rw [Addr.add_zero'] at hx155_0)
                  replace p155 := eq_true p155
                  replace q155 := eq_true q155
                  have p156 : 0 ≤ (1 : Int) := (by omega)
                  have q156 : 1 < (l0.length : Int) := of_decide_eq_true (by first | (with_reducible assumption) | assumption)
                  obtain ⟨ad156, e156, hx156_0⟩ := Kd.at_int HR0.out 1 p156 q156
                  obtain rfl : ad154 = ad156 := (by injection e156)
                  (try simp only [show (1 : Int).toNat = 1 from rfl, Nat.reduceMul, Nat.reduceEqDiff, Go.Addr.add, ↓reduceIte] at hx156_0)
                  have qi156 : (1 < l0.length) = True := eq_true (by omega)
                  (try rw [show ((1 : Int)).toNat = 1 from rfl] at hx156_0)
                  replace p156 := eq_true p156
                  replace q156 := eq_true q156
                  have p157 : 0 ≤ (1 : Int) := (by omega)
                  have q157 : 1 < (l0.length : Int) := of_decide_eq_true (by first | (with_reducible assumption) | assumption)
                  obtain ⟨ad157, e157, hx157_0⟩ := Kd.at_int HR0.out 1 p157 q157
                  obtain rfl : ad154 = ad157 := (by injection e157)
                  (try simp only [show (1 : Int).toNat = 1 from rfl, Nat.reduceMul, Nat.reduceEqDiff, Go.Addr.add, ↓reduceIte] at hx157_0)
                  have qi157 : (1 < l0.length) = True := eq_true (by omega)
                  (try rw [show ((1 : Int)).toNat = 1 from rfl] at hx157_0)
                  replace p157 := eq_true p157
                  replace q157 := eq_true q157
                  have p158 : 0 ≤ (0 : Int) := (by omega)
                  have q158 : 0 < (l0.length : Int) := of_decide_eq_true (by first | (with_reducible assumption) | assumption)
                  obtain ⟨ad158, e158, hx158_0⟩ := Kd.at_int HR0.out 0 p158 q158
                  obtain rfl : ad154 = ad158 := (by injection e158)
                  have qi158 : (0 < l0.length) = True := eq_true (by omega)
                  (try rw [show ((0 : Int)).toNat = 0 from rfl] at hx158_0)
                  (try rw [Addr.add_zero'] at hx158_0)
                  replace p158 := eq_true p158
                  replace q158 := eq_true q158
                  go_enter Try.func83, Try.ntmps83
                  go_wp2
                  go_ret
                  exact ⟨by first | rfl | (simp; done) | (simp [*]; done), by repeat (first | exact Drawn0.refl _ | apply Drawn0.step)⟩
              · rw [if_neg c8] at H
                have c8b0 : decide ((rd l0 1) ≤ 9) = false := decide_eq_false c8
                clear c8
                obtain rfl := Option.some.inj H
                have p154 : 0 ≤ (0 : Int) := (by omega)
                have q154 : 0 < (l0.length : Int) := of_decide_eq_true (by first | (with_reducible assumption) | assumption)
                obtain ⟨ad154, e154, hx154_0⟩ := Kd.at_int HR0.out 0 p154 q154
                cases e154
                have qi154 : (0 < l0.length) = True := eq_true (by omega)
                (try rw [show ((0 : Int)).toNat = 0 from rfl] at hx154_0)
                (try rw [Addr.add_zero'] at hx154_0)
                replace p154 := eq_true p154
                replace q154 := eq_true q154
                have p155 : 0 ≤ (0 : Int) := (by omega)
                have q155 : 0 < (l0.length : Int) := of_decide_eq_true (by first | (with_reducible assumption) | assumption)
                obtain ⟨ad155, e155, hx155_0⟩ := Kd.at_int HR0.out 0 p155 q155
                obtain rfl : ad154 = ad155 := (by injection e155)
                have qi155 : (0 < l0.length) = True := eq_true (by omega)
                (try rw [show ((0 : Int)).toNat = 0 from rfl] at hx155_0)
                (try rw [Addr.add_zero'] at hx155_0)
                replace p155 := eq_true p155
                replace q155 := eq_true q155
                have p156 : 0 ≤ (1 : Int) := (by omega)
                have q156 : 1 < (l0.length : Int) := of_decide_eq_true (by first | (with_reducible assumption) | assumption)
                obtain ⟨ad156, e156, hx156_0⟩ := Kd.at_int HR0.out 1 p156 q156
                obtain rfl : ad154 = ad156 := (by injection e156)
                (try simp only [show (1 : Int).toNat = 1 from rfl, Nat.reduceMul, Nat.reduceEqDiff, Go.Addr.add, ↓reduceIte] at hx156_0)
                have qi156 : (1 < l0.length) = True := eq_true (by omega)
                (try rw [show ((1 : Int)).toNat = 1 from rfl] at hx156_0)
                replace p156 := eq_true p156
                replace q156 := eq_true q156
                have p157 : 0 ≤ (1 : Int) := (by omega)
                have q157 : 1 < (l0.length : Int) := of_decide_eq_true (by first | (with_reducible assumption) | assumption)
                obtain ⟨ad157, e157, hx157_0⟩ := Kd.at_int HR0.out 1 p157 q157
                obtain rfl : ad154 = ad157 := (by injection e157)
                (try simp only [show (1 : Int).toNat = 1 from rfl, Nat.reduceMul, Nat.reduceEqDiff, Go.Addr.add, ↓reduceIte] at hx157_0)
                have qi157 : (1 < l0.length) = True := eq_true (by omega)
                (try rw [show ((1 : Int)).toNat = 1 from rfl] at hx157_0)
                replace p157 := eq_true p157
                replace q157 := eq_true q157
                go_enter Try.func83, Try.ntmps83
                go_wp2
                go_ret
                exact ⟨by first | rfl | (simp; done) | (simp [*]; done), by repeat (first | exact Drawn0.refl _ | apply Drawn0.step)⟩
            · rw [if_neg c7] at H
              have c7b0 : decide ((-9) ≤ (rd l0 1)) = false := decide_eq_false c7
              clear c7
              obtain rfl := Option.some.inj H
              have p154 : 0 ≤ (0 : Int) := (by omega)
              have q154 : 0 < (l0.length : Int) := of_decide_eq_true (by first | (with_reducible assumption) | assumption)
              obtain ⟨ad154, e154, hx154_0⟩ := Kd.at_int HR0.out 0 p154 q154
              cases e154
              have qi154 : (0 < l0.length) = True := eq_true (by omega)
              (try rw [show ((0 : Int)).toNat = 0 from rfl] at hx154_0)
              (try rw [Addr.add_zero'] at hx154_0)
              replace p154 := eq_true p154
              replace q154 := eq_true q154
              have p155 : 0 ≤ (0 : Int) := (by omega)
              have q155 : 0 < (l0.length : Int) := of_decide_eq_true (by first | (with_reducible assumption) | assumption)
              obtain ⟨ad155, e155, hx155_0⟩ := Kd.at_int HR0.out 0 p155 q155
              obtain rfl : ad154 = ad155 := (by injection e155)
              have qi155 : (0 < l0.length) = True := eq_true (by omega)
              (try rw [show ((0 : Int)).toNat = 0 from rfl] at hx155_0)
              (try rw [Addr.add_zero'] at hx155_0)
              replace p155 := eq_true p155
              replace q155 := eq_true q155
              have p156 : 0 ≤ (1 : Int) := (by omega)
              have q156 : 1 < (l0.length : Int) := of_decide_eq_true (by first | (with_reducible assumption) | assumption)
              obtain ⟨ad156, e156, hx156_0⟩ := Kd.at_int HR0.out 1 p156 q156
              obtain rfl : ad154 = ad156 := (by injection e156)
              (try simp only [show (1 : Int).toNat = 1 from rfl, Nat.reduceMul, Nat.reduceEqDiff, Go.Addr.add, ↓reduceIte] at hx156_0)
              have qi156 : (1 < l0.length) = True := eq_true (by omega)
              (try rw [show ((1 : Int)).toNat = 1 from rfl] at hx156_0)
              replace p156 := eq_true p156
              replace q156 := eq_true q156
              go_enter Try.func83, Try.ntmps83
              go_wp2
              go_ret
              exact ⟨by first | rfl | (simp; done) | (simp [*]; done), by repeat (first | exact Drawn0.refl _ | apply Drawn0.step)⟩
          · rw [if_neg c6] at H
            exact absurd H (by simp)
        · rw [if_neg c5] at H
          have c5b0 : decide ((rd l0 0) ≤ 9) = false := decide_eq_false c5
          clear c5
          obtain rfl := Option.some.inj H
          have p154 : 0 ≤ (0 : Int) := (by omega)
          have q154 : 0 < (l0.length : Int) := of_decide_eq_true (by first | (with_reducible assumption) | assumption)
          obtain ⟨ad154, e154, hx154_0⟩ := Kd.at_int HR0.out 0 p154 q154
          cases e154
          have qi154 : (0 < l0.length) = True := eq_true (by omega)
          (try rw [show ((0 : Int)).toNat = 0 from rfl] at hx154_0)
          (try rw [Addr.add_zero'] at hx154_0)
          replace p154 := eq_true p154
          replace q154 := eq_true q154
          have p155 : 0 ≤ (0 : Int) := (by omega)
          have q155 : 0 < (l0.length : Int) := of_decide_eq_true (by first | (with_reducible assumption) | assumption)
          obtain ⟨ad155, e155, hx155_0⟩ := Kd.at_int HR0.out 0 p155 q155
          obtain rfl : ad154 = ad155 := (by injection e155)
          have qi155 : (0 < l0.length) = True := eq_true (by omega)
          (try rw [show ((0 : Int)).toNat = 0 from rfl] at hx155_0)
          (try rw [Addr.add_zero'] at hx155_0)
          replace p155 := eq_true p155
          replace q155 := eq_true q155
          go_enter Try.func83, Try.ntmps83
          go_wp2
          go_ret
          exact ⟨by first | rfl | (simp; done) | (simp [*]; done), by repeat (first | exact Drawn0.refl _ | apply Drawn0.step)⟩
      · rw [if_neg c4] at H
        have c4b0 : decide ((-9) ≤ (rd l0 0)) = false := decide_eq_false c4
        clear c4
        obtain rfl := Option.some.inj H
        have p154 : 0 ≤ (0 : Int) := (by omega)
        have q154 : 0 < (l0.length : Int) := of_decide_eq_true (by first | (with_reducible assumption) | assumption)
        obtain ⟨ad154, e154, hx154_0⟩ := Kd.at_int HR0.out 0 p154 q154
        cases e154
        have qi154 : (0 < l0.length) = True := eq_true (by omega)
        (try rw [show ((0 : Int)).toNat = 0 from rfl] at hx154_0)
        (try rw [Addr.add_zero'] at hx154_0)
        replace p154 := eq_true p154
        replace q154 := eq_true q154
        go_enter Try.func83, Try.ntmps83
        go_wp2
        go_ret
        exact ⟨by first | rfl | (simp; done) | (simp [*]; done), by repeat (first | exact Drawn0.refl _ | apply Drawn0.step)⟩
    · rw [if_neg c3] at H
      exact absurd H (by simp)
  · rw [if_neg c2] at H
    have c2b0 : ((l0.length : Int) == 2) = false := beq_eq_false_iff_ne.mpr c2
    have c2b1 : ((l0.length : Int) != 2) = true := bne_iff_ne.mpr c2
    obtain rfl := Option.some.inj H
    go_enter Try.func83, Try.ntmps83
    go_wp2
    go_ret
    exact ⟨by first | rfl | (simp; done) | (simp [*]; done), by repeat (first | exact Drawn0.refl _ | apply Drawn0.step)⟩

/-! ### impl_isStar: function 52 -/
def impl_isStar.l0 : Nat → List (List Int) → List (List Int) → Int → Int → Option (Bool)
  | 0, _, _, _, _ => none
  | k + 1, x0, x5, x6, x7 => if x7 < x6 then (if 0 ≤ x7 then (if x7 < (x5.length : Int) then ((impl_isStep.f (rd_L1 x5 x7)).bind fun t161 => (if t161 = true then (impl_isStar.l0 k x0 x5 x6 (wrap64 (x7 + 1))) else (some false))) else (none)) else (none)) else (if (x0.length : Int) ≥ 2 then (some (decide ((x0.length : Int) ≤ 4))) else (some false))
def impl_isStar.f (k : Nat) (l0 : List (List Int)) : Option (Bool) := impl_isStar.l0 k l0 l0 (l0.length : Int) 0
theorem impl_isStar.mono_l : ∀ k, (∀ y0 y1 y2 y3, LeO (impl_isStar.l0 k y0 y1 y2 y3) (impl_isStar.l0 (k + 1) y0 y1 y2 y3))
  | 0 => fun _ _ _ _ r h => by simp [impl_isStar.l0] at h
  | k + 1 => by
    have ih0 := impl_isStar.mono_l k
    · intro y0 y1 y2 y3
      unfold impl_isStar.l0
      repeat' first
      | (with_reducible exact ih0 _ _ _ _)
      | (with_reducible exact LeO.refl _)
      | (with_reducible exact LeO.none _)
      | (with_reducible refine LeO.ite ?_ ?_)
      | (with_reducible refine LeO.bind ?_ (fun _ => ?_))
      | exact ih0 _ _ _ _
      | exact LeO.none _
      | refine LeO.ite ?_ ?_
      | refine LeO.bind ?_ (fun _ => ?_)
theorem impl_isStar.mono : ∀ a0 k, LeO (impl_isStar.f k a0) (impl_isStar.f (k + 1) a0) := by
  intro a0 k
  have ih0 := impl_isStar.mono_l k
  unfold impl_isStar.f
  repeat' first
      | (with_reducible exact ih0 _ _ _ _)
      | (with_reducible exact LeO.refl _)
      | (with_reducible exact LeO.none _)
      | (with_reducible refine LeO.ite ?_ ?_)
      | (with_reducible refine LeO.bind ?_ (fun _ => ?_))
      | exact ih0 _ _ _ _
      | exact LeO.none _
      | refine LeO.ite ?_ ?_
      | refine LeO.bind ?_ (fun _ => ?_)
set_option maxHeartbeats 8000000 in
set_option maxRecDepth 100000 in
theorem impl_isStar.calls (k : Nat) (A0 : Option Addr) (c0 : Nat) (l0 : List (List Int)) (r : Bool) (w : World) (hr0 : Kd.C (Kd.slice 3 (Kd.int .i64)) w A0 l0.length l0) (hc0 : l0.length ≤ c0) (h : impl_isStar.f k l0 = some r) :
    Calls Try.prog 52 #[.slice A0 l0.length c0] w fun e w' => e = .returned (.bool r) ∧ Drawn0 w w' := by
  have HR0 := Aside0.mk hr0
  have HC0 := Aside0.mk hc0
  clear hr0 hc0
  have H : (impl_isStar.l0 k l0 l0 (l0.length : Int) 0) = some r := h
  clear h
  have H' := Aside0.mk H
  clear H
  go_enter Try.func52, Try.ntmps52
  go_wp2
  go_loopg [7] k (fun kq v7 w' => ∃ (x7_1 : Int), v7 = .int .i64 x7_1 ∧ Aside0 (impl_isStar.l0 kq l0 l0 (l0.length : Int) x7_1 = some r) ∧ Aside0 (kq ≤ k) ∧ Drawn0 w w')
  case atStart => exact ⟨(0), (by first | rfl | (simp; done) | (simp [*]; done)), H', ⟨Nat.le_refl _⟩, by repeat (first | exact Drawn0.refl _ | apply Drawn0.step)⟩
  case round =>
    clear H'
    obtain ⟨x7_1, rfl, HA, HK1, ⟨m1, rfl⟩⟩ := hrel
    cases gk with
    | zero => exact absurd HA.out (by simp [impl_isStar.l0])
    | succ k1 =>
      have H := HA.out
      clear HA
      simp only [impl_isStar.l0] at H
      by_cases c2 : x7_1 < (l0.length : Int)
      · rw [if_pos c2] at H
        have c2b0 : decide (x7_1 < (l0.length : Int)) = true := decide_eq_true c2
        clear c2
        by_cases c3 : 0 ≤ x7_1
        · rw [if_pos c3] at H
          have c3b0 : decide (0 ≤ x7_1) = true := decide_eq_true c3
          clear c3
          by_cases c4 : x7_1 < (l0.length : Int)
          · rw [if_pos c4] at H
            have c4b0 : decide (x7_1 < (l0.length : Int)) = true := decide_eq_true c4
            clear c4
            replace H := Option.bind_eq_some_iff.mp H
            obtain ⟨t161, A50, H⟩ := H
            replace H : (if t161 = true then (impl_isStar.l0 k1 l0 l0 (l0.length : Int) (wrap64 (x7_1 + 1))) else (some false)) = some r := H
            have A5 := Aside0.mk A50
            clear A50
            by_cases c6 : t161 = true
            · subst c6
              have H1 : (impl_isStar.l0 k1 l0 l0 (l0.length : Int) (wrap64 (x7_1 + 1))) = some r := by rw [if_pos rfl] at H; exact H
              clear H
              have H := H1
              clear H1
              have H' := Aside0.mk H
              clear H
              have p160 : 0 ≤ (x7_1 : Int) := of_decide_eq_true (by first | (with_reducible assumption) | assumption)
              have q160 : x7_1 < (l0.length : Int) := of_decide_eq_true (by first | (with_reducible assumption) | assumption)
              obtain ⟨ad160, A160_0, c160_0, e160, hx160_0, hl160_0, hi160_0⟩ := at_L1 HR0.out x7_1 p160 q160
              cases e160
              have HR160_0 := Aside0.mk hi160_0
              have HC160_0 := Aside0.mk hl160_0
              clear hi160_0 hl160_0
              replace p160 := eq_true p160
              replace q160 := eq_true q160
              go_wp2_with (first | ((with_reducible refine gate_callee (f := 83) rfl ?_); refine goesL_ (some 12) rfl rfl Try.func83 (by kernel_rfl) rfl #[.slice A160_0 (rd_L1 l0 x7_1).length c160_0] rfl (by (try simp only [List.map_toArray, List.map_cons, List.map_nil]); first | done | rfl | (simp only [List.length_drop, List.length_take]; rfl)) ?_; (with_reducible refine (impl_isStep.calls _ _ (rd_L1 l0 x7_1) true _ ?side1 ?side2 A5.out).mono ?_); (case side1 => repeat (first | exact HR160_0.out | (with_reducible refine Kd.C_alloc ?_ _) | (with_reducible refine Kd.C_drewN ?_ _) | (with_reducible refine Kd.C_drew ?_))); (case side2 => exact HC160_0.out); rintro e w' ⟨rfl, ⟨nd, rfl⟩⟩; refine ⟨_, rfl, ?_⟩))
              go_roundg k1
              case measure => have := HK1.out; omega
              case rel => exact ⟨(wrap64 (x7_1 + 1)), (by first | rfl | (simp; done) | (simp [*]; done)), H', ⟨by have := HK1.out; omega⟩, by repeat (first | exact Drawn0.refl _ | apply Drawn0.step)⟩
            · replace c6 := Bool.eq_false_iff.mpr c6
              subst c6
              have H1 : (some false) = some r := by rw [if_neg (show ¬ (false = true) by decide)] at H; exact H
              clear H
              have H := H1
              clear H1
              obtain rfl := Option.some.inj H
              have p160 : 0 ≤ (x7_1 : Int) := of_decide_eq_true (by first | (with_reducible assumption) | assumption)
              have q160 : x7_1 < (l0.length : Int) := of_decide_eq_true (by first | (with_reducible assumption) | assumption)
              obtain ⟨ad160, A160_0, c160_0, e160, hx160_0, hl160_0, hi160_0⟩ := at_L1 HR0.out x7_1 p160 q160
              cases e160
              have HR160_0 := Aside0.mk hi160_0
              have HC160_0 := Aside0.mk hl160_0
              clear hi160_0 hl160_0
              replace p160 := eq_true p160
              replace q160 := eq_true q160
              go_wp2_with (first | ((with_reducible refine gate_callee (f := 83) rfl ?_); refine goesL_ (some 12) rfl rfl Try.func83 (by kernel_rfl) rfl #[.slice A160_0 (rd_L1 l0 x7_1).length c160_0] rfl (by (try simp only [List.map_toArray, List.map_cons, List.map_nil]); first | done | rfl | (simp only [List.length_drop, List.length_take]; rfl)) ?_; (with_reducible refine (impl_isStep.calls _ _ (rd_L1 l0 x7_1) false _ ?side1 ?side2 A5.out).mono ?_); (case side1 => repeat (first | exact HR160_0.out | (with_reducible refine Kd.C_alloc ?_ _) | (with_reducible refine Kd.C_drewN ?_ _) | (with_reducible refine Kd.C_drew ?_))); (case side2 => exact HC160_0.out); rintro e w' ⟨rfl, ⟨nd, rfl⟩⟩; refine ⟨_, rfl, ?_⟩))
              go_ret
              exact ⟨by first | rfl | (simp; done) | (simp [*]; done), by repeat (first | exact Drawn0.refl _ | apply Drawn0.step)⟩
          · rw [if_neg c4] at H
            exact absurd H (by simp)
        · rw [if_neg c3] at H
          exact absurd H (by simp)
      · rw [if_neg c2] at H
        have c2b0 : decide (x7_1 < (l0.length : Int)) = false := decide_eq_false c2
        clear c2
        by_cases c7 : (l0.length : Int) ≥ 2
        · rw [if_pos c7] at H
          have c7b0 : decide (2 ≤ (l0.length : Int)) = true := decide_eq_true c7
          have c7b1 : decide (2 ≤ l0.length) = true := decide_eq_true (by omega)
          clear c7
          obtain rfl := Option.some.inj H
          go_wp2
          go_ret
          exact ⟨by first | rfl | (simp; done) | (simp [*]; done), by repeat (first | exact Drawn0.refl _ | apply Drawn0.step)⟩
        · rw [if_neg c7] at H
          have c7b0 : decide (2 ≤ (l0.length : Int)) = false := decide_eq_false c7
          have c7b1 : decide (2 ≤ l0.length) = false := decide_eq_false (by omega)
          clear c7
          obtain rfl := Option.some.inj H
          go_wp2
          go_ret
          exact ⟨by first | rfl | (simp; done) | (simp [*]; done), by repeat (first | exact Drawn0.refl _ | apply Drawn0.step)⟩

end Go.Proofs.Ytkphiccdgclldaa.PFnExactZonoPath
