-- Made by hprint.py (wip/) out of the translation; not trusted: Lean checks it.
import Derived.Test.YtbcfgglcabeckaaPFnMostx0
import Derived.Test.YtbcfgglcabeckaaPFnMostx1
namespace Go.Proofs.Ytbcfgglcabeckaa.PFnMost
open Go.RowKit Go.Proofs.YtbcfgglcabeckaaW.PrintWords Go.Proofs.YtbcfgglcabeckaaW.PrintLast Go.Proofs.YtbcfgglcabeckaaW.PrintMore
attribute [local go_sem] max2_int min2_int max_two min_two max_three min_three max_four min_four   -- for this text's walks alone
set_option linter.unusedVariables false
set_option linter.unusedSimpArgs false

/-! ### spec_l7Most: function 21, by hand -/
def spec_l7Most.row (F : Nat → Option Int) : Nat → Nat → Int → Option Int
  | 0, _, b => some b
  | r + 1, i, b => (F i).bind fun a => spec_l7Most.row F r (i + 1) (mx b a)
def spec_l7Most.l (k : Nat) : Nat → List (List Int) → List (List Int) → Option Int
  | 0, ahead, _ => spec_l6sArea.f k ahead
  | d + 1, ahead, rest => spec_l7Most.row (fun i => spec_l7Most.l k d (ahead ++ [rest.getD i []]) (rest.take i ++ rest.drop (i + 1))) (d + 1) 0 (-1000000)
def spec_l7Most.f (k : Nat) (ahead rest : List (List Int)) : Option Int := if ahead.length + rest.length < 1000 then spec_l7Most.l k rest.length ahead rest else none
theorem spec_l7Most.mono_row {F G : Nat → Option Int} (h : ∀ i, LeO (F i) (G i)) : ∀ r i b, LeO (spec_l7Most.row F r i b) (spec_l7Most.row G r i b)
  | 0, _, _ => LeO.refl _
  | r + 1, i, b => LeO.bind (h i) (fun _ => spec_l7Most.mono_row h r (i + 1) _)
theorem spec_l7Most.mono_l (k : Nat) : ∀ d a b, LeO (spec_l7Most.l k d a b) (spec_l7Most.l (k + 1) d a b)
  | 0, a, b => spec_l6sArea.mono _ _
  | d + 1, a, b => spec_l7Most.mono_row (fun i => spec_l7Most.mono_l k d _ _) _ _ _
theorem spec_l7Most.mono : ∀ a0 a1 k, LeO (spec_l7Most.f k a0 a1) (spec_l7Most.f (k + 1) a0 a1) := fun _ _ _ => LeO.ite (spec_l7Most.mono_l _ _ _ _) (LeO.refl _)
open Go.Proofs.Ytbcfgglcabeckaa.HMst in
set_option maxHeartbeats 8000000 in
set_option maxRecDepth 100000 in
theorem spec_l7Most.l_calls (k : Nat) : ∀ (d : Nat) (ahead rest : List (List Int)) (r : Int) (w : World) (A0 A1 : Option Addr) (c0 c1 : Nat) (P0_ P1_ : Nat → Prop), rest.length = d → ahead.length + rest.length < 1000 →
    Kd.V (Kd.slice 3 (Kd.int .i64)) 35 w w.heap.size P0_ (.slice A0 ahead.length c0) ahead → Kd.V (Kd.slice 3 (Kd.int .i64)) 35 w w.heap.size P1_ (.slice A1 rest.length c1) rest → spec_l7Most.l k d ahead rest = some r →
    Calls Try.prog 21 #[.slice A0 ahead.length c0, .slice A1 rest.length c1] w fun e w' => e = .returned (.int .i64 r) ∧ Below w.heap.size w w' := by
  intro d
  induction d with
  | zero =>
    intro ahead rest r w A0 A1 c0 c1 P0_ P1_ hd hb hA hR h
    have k1 := spec_l6sArea.calls k A0 c0 ahead r w (Kd.V_reads' hA).2.2 (Kd.V_reads' hA).2.1 h
    have q1 : ((rest.length : Int) == 0) = true := by rw [hd]; rfl
    clear hA hR h
    go_enter Try.func21, Try.ntmps21
    go_wp2_with (go_at_call 38; refine k1.mono ?_; rintro e w1 ⟨rfl, hb⟩; have HB := Aside0.mk hb; clear hb k1)
    go_ret
    exact ⟨rfl, HB.out⟩
  | succ d ih =>
    intro ahead rest r w A0 A1 c0 c1 P0_ P1_ hd hb hA hR h
    have hR2 := (Kd.V_reads' hR).2.1
    obtain ⟨i0, hi0, _, hsz0, _⟩ := info_parts info35
    have q1 : ((rest.length : Int) == 0) = false := beq_eq_false_iff_ne.mpr (by omega)
    have H : spec_l7Most.row (fun i => spec_l7Most.l k d (ahead ++ [rest.getD i []]) (rest.take i ++ rest.drop (i + 1))) (d + 1) 0 (-1000000) = some r := h
    have H' := Aside0.mk H
    have HA := Aside0.mk hA
    have HR := Aside0.mk hR
    have IH := Aside0.mk ih
    have HD := Aside0.mk hd
    have HLB := Aside0.mk hb
    clear h H hA hR ih hd hb
    go_enter Try.func21, Try.ntmps21
    go_wp2
    go_loopg [5, 6, 7] (d + 1) (fun kq v5 v6 v7 w' => ∃ (i : Nat) (b : Int), v5 = .int .i64 b ∧ v6 = .int .i64 (i : Int) ∧ Aside0 (kq + i = d + 1) ∧ Aside0 (spec_l7Most.row (fun i => spec_l7Most.l k d (ahead ++ [rest.getD i []]) (rest.take i ++ rest.drop (i + 1))) kq i b = some r) ∧ Aside0 (Below w.heap.size w w'))
    case atStart => exact ⟨0, -1000000, rfl, rfl, ⟨rfl⟩, H', ⟨Below.refl _ _⟩⟩
    case round =>
      clear H'
      obtain ⟨i, b, rfl, rfl, HN, HH, HB⟩ := hrel
      have hn := HN.out
      have hd := HD.out
      cases gk with
      | zero =>
        have hH := Option.some.inj HH.out
        subst hH
        clear HH
        have q2 : ((i : Int) < (rest.length : Int)) = False := eq_false (by omega)
        have q3 : (i < rest.length) = False := eq_false (by omega)
        clear hd hn
        go_wp2
        go_ret
        exact ⟨rfl, HB.out⟩
      | succ g1 =>
        obtain ⟨a, B1, B2⟩ := Option.bind_eq_some_iff.mp HH.out
        have hin : i < rest.length := by omega
        have q2 : ((i : Int) < (rest.length : Int)) = True := eq_true (by omega)
        have q3 : (i < rest.length) = True := eq_true hin
        have HBL := Aside0.mk B1
        have HBR := Aside0.mk B2
        clear B1 B2 HH
        have hct := cut_to (P := Try.prog) 22 35 .i64 Try.underlying22 hi0 A1 rest.length c1 (i : Int) (by omega) (by omega) hR2
        have hcf := cut_from (P := Try.prog) 22 35 .i64 Try.underlying22 hi0 1 hsz0 A1 rest.length c1 ((i : Int) + 1) (by omega) (by omega)
        rw [Int.toNat_natCast] at hct
        rw [show ((i : Int) + 1).toNat = i + 1 by omega] at hcf
        clear hd hn
        go_wp2
        have hRw : Kd.V (Kd.slice 3 (Kd.int .i64)) 35 wr w.heap.size (fun k => P1_ k ∧ k < w.heap.size) (.slice A1 rest.length c1) rest := Kd.V_below (Kd.V_bound HR.out) HB.out
        have hAw : Kd.V (Kd.slice 3 (Kd.int .i64)) 35 wr w.heap.size (fun k => P0_ k ∧ k < w.heap.size) (.slice A0 ahead.length c0) ahead := Kd.V_below (Kd.V_bound HA.out) HB.out
        have hF1 := Kd.F_take (m := i) (Kd.V_at hRw).2.2 (by omega)
        have hF2 := Kd.F_cut (m := i + 1) (c := c1) (Kd.V_at hRw).2.2 (by omega) hR2
        have hl1 : (rest.take i).length = i := by rw [List.length_take]; omega
        have hl2 : (rest.drop (i + 1)).length = rest.length - (i + 1) := by rw [List.length_drop]
        have hsz1 : (Kd.slice 3 (Kd.int .i64)).sz = 1 := rfl
        rw [hl1] at hF1
        rw [hl2, hsz1] at hF2
        obtain ⟨A3, hA3⟩ : ∃ A3, A3 = (if c1 = i + 1 then A1 else A1.map (·.add ((i + 1) * 1))) := ⟨_, rfl⟩
        rw [← hA3] at hF2 hcf
        have HF1 := Aside0.mk hF1
        have HF2 := Aside0.mk hF2
        have HAW := Aside0.mk hAw
        have HRW := Aside0.mk hRw
        have hlb := HLB.out
        have hsz := HB.out.size
        have hw1 : IntKind.i64.wrap ((i : Int) + 1) = (i : Int) + 1 := (i64_w _).trans (by unfold wrap64; omega)
        clear hF1 hF2 hAw hRw hl1 hl2 hsz1 hA3
        go_region_law (first
          | (refine Kd.N_append_rows_step (Kd.slice 3 (Kd.int .i64)) (w0 := wr) (W := (wr.alloc (.cells #[] 35)).drew) wr.heap.size (by rfl) (.tmp 19) (.tmp 22) 22 35 (.slice none 0 0) 24 rfl Try.underlying22 info35 rfl (by decide) (by omega) (.slice (some ⟨wr.heap.size, 0, none⟩) 0 0) [] (rest.take i) A1 i c1 (fun k => (P1_ k ∧ k < w.heap.size) ∨ wr.heap.size ≤ k) (fun k => P1_ k ∧ k < w.heap.size) rfl rfl (N_empty (b := wr.heap.size) (Go.Proofs.Ytbcfgglcabeckaa.HClo.alloc_new wr _ _ rfl) (Nat.le_refl _) (.inr (Nat.le_refl _))) (Kd.F_below HF1.out ((below_alloc (Below.refl _ _) _).drew)) (fun k hk => ⟨.inl hk, fun e => by have := hk.2; simp [Value.ownBlock] at e; omega⟩) (fun k hk => .inr (Nat.le_trans (by simp) hk)) ((below_alloc (Below.refl _ _) _).drew) (by simp) (by simp; omega) ?_; intro v1 w1 hN hB hg hat; have HN1 := Aside0.mk hN; have HB1 := Aside0.mk hB; clear hN hB hg hat)
          | (refine Kd.N_append_rows_step (Kd.slice 3 (Kd.int .i64)) (w0 := wr) (W := w1) wr.heap.size (by rfl) (.tmp 23) (.tmp 27) 22 35 (.slice none 0 0) 24 rfl Try.underlying22 info35 rfl (by decide) (by omega) v1 ([] ++ rest.take i) (rest.drop (i + 1)) A3 (rest.length - (i + 1)) (c1 - (i + 1)) (fun k => (P1_ k ∧ k < w.heap.size) ∨ wr.heap.size ≤ k) (fun k => P1_ k ∧ k < w.heap.size) rfl rfl HN1.out (Kd.F_below HF2.out HB1.out) (fun k hk => ⟨.inl hk, fun e => by have := hk.2; have := Kd.N_base HN1.out k e.symm; omega⟩) (fun k hk => .inr (Nat.le_trans HB1.out.size hk)) HB1.out HB1.out.size (by simp; omega) ?_; intro v2 w2 hN hB hg hat; have HN2 := Aside0.mk hN; have HB2 := Aside0.mk hB; clear hN hB hg hat))
        clear hct hcf hw1 HF1 HF2 HN1 hsz
        obtain ⟨ls, els⟩ : ∃ l : List (List Int), l = rest.take i ++ rest.drop (i + 1) := ⟨_, rfl⟩
        obtain ⟨ah, eah⟩ : ∃ l : List (List Int), l = ahead ++ [rest.getD i []] := ⟨_, rfl⟩
        have hN2 : Kd.N (Kd.slice 3 (Kd.int .i64)) 35 w2 wr.heap.size (fun k => (P1_ k ∧ k < w.heap.size) ∨ wr.heap.size ≤ k) v2 ls := by rw [els]; simpa using HN2.out
        have HLD : Aside0 (ls.length = d) := ⟨by have := HD.out; rw [els]; simp; omega⟩
        have HLB2 : Aside0 (ah.length + ls.length < 1000) := ⟨by have := HD.out; have := HLD.out; rw [eah]; simp; omega⟩
        have HB1' : Aside0 (spec_l7Most.l k d ah ls = some a) := ⟨by rw [eah, els]; exact HBL.out⟩
        have EAH := Aside0.mk eah
        clear els eah HN2
        obtain ⟨AL, cL, eL⟩ := Kd.N_slice hN2
        subst eL
        have HN2' := Aside0.mk hN2
        clear hN2
        have hRw := Kd.V_below HRW.out HB2.out
        have hAw := Kd.V_below HAW.out HB2.out
        obtain ⟨ad, cs, rfl, hcl, hFK, hcell, _⟩ := Kd.F_get (Kd.V_F hRw) ([] : List Int) (i : Int) (by omega) (by omega)
        rw [Int.toNat_natCast] at hFK hcell
        obtain ⟨AE, cE, rfl, hEl, _⟩ := Kd.FK_slice_open hFK
        obtain ⟨LE, eLE⟩ : ∃ LE, (rest.getD i []).length = LE := ⟨_, rfl⟩
        have hsz1 : (Kd.slice 3 (Kd.int .i64)).sz = 1 := rfl
        have hx : w2.cell? (ad.add i) = some (.slice AE (rest.getD i []).length cE) := by
          have := hcell 0 _ rfl
          rwa [hsz1, Nat.mul_one, Nat.add_zero] at this
        rw [eLE] at hx hFK
        have hxa : (w2.alloc (.cells #[] 35)).cell? (ad.add i) = some (.slice AE LE cE) := ((below_alloc (Below.refl w2.heap.size w2) (.cells #[] 35)).cell (World.block_lt_of_cell? w2 _ hx)).trans hx
        have HFK := Aside0.mk hFK
        have HAW2 := Aside0.mk hAw
        have hsz2 : w.heap.size ≤ w2.heap.size := by have := HB.out.size; have := HB2.out.size; omega
        have q5 : (0 : Int) ≤ (i : Int) := by omega
        clear hFK hAw hcell hcl hEl hRw eLE HRW HAW
        go_wp2
        go_region_law (first
          | (refine Kd.N_append_rows_step (Kd.slice 3 (Kd.int .i64)) (w0 := w2) (W := (w2.alloc (.cells #[] 35)).drew) w2.heap.size (by rfl) (.tmp 30) (.tmp 31) 22 35 (.slice none 0 0) 24 rfl Try.underlying22 info35 rfl (by decide) (by omega) (.slice (some ⟨w2.heap.size, 0, none⟩) 0 0) [] ahead A0 ahead.length c0 (fun k => (P0_ k ∧ k < w.heap.size) ∨ (P1_ k ∧ k < w.heap.size) ∨ w2.heap.size ≤ k) (fun k => P0_ k ∧ k < w.heap.size) rfl rfl (N_empty (b := w2.heap.size) (Go.Proofs.Ytbcfgglcabeckaa.HClo.alloc_new w2 _ _ rfl) (by omega) (.inr (.inr (by omega)))) (Kd.F_below (Kd.V_F HAW2.out) ((below_alloc (Below.refl _ _) _).drew)) (fun k hk => ⟨.inl hk, fun e => by have := hk.2; simp [Value.ownBlock] at e; omega⟩) (fun k hk => .inr (.inr (Nat.le_trans (by simp <;> omega) hk))) ((below_alloc (Below.refl _ _) _).drew) (by simp <;> omega) (by simp; omega) ?_; intro v3 w3 hN hB hg hat; have HN3 := Aside0.mk hN; have HB3 := Aside0.mk hB; have hx3 : w3.cell? (ad.add i) = some (.slice AE LE cE) := (hB.cell (World.block_lt_of_cell? w2 _ hx)).trans hx; clear hN hB hg hat)
          | (refine Kd.N_append_rows_step (Kd.slice 3 (Kd.int .i64)) (w0 := w2) (W := ((w2.alloc (.cells #[] 35)).alloc (.cells #[(.slice AE LE cE)] 35)).drew) w2.heap.size (by rfl) (.tmp 30) (.tmp 31) 22 35 (.slice none 0 0) 24 rfl Try.underlying22 info35 rfl (by decide) (by omega) (.slice (some ⟨w2.heap.size, 0, none⟩) 0 0) [] ahead A0 ahead.length c0 (fun k => (P0_ k ∧ k < w.heap.size) ∨ (P1_ k ∧ k < w.heap.size) ∨ w2.heap.size ≤ k) (fun k => P0_ k ∧ k < w.heap.size) rfl rfl (N_empty (b := w2.heap.size) (Go.Proofs.Ytbcfgglcabeckaa.HClo.alloc_old (by simp) (Go.Proofs.Ytbcfgglcabeckaa.HClo.alloc_new w2 _ _ rfl)) (by omega) (.inr (.inr (by omega)))) (Kd.F_below (Kd.V_F HAW2.out) ((below_alloc (below_alloc (Below.refl _ _) _) _).drew)) (fun k hk => ⟨.inl hk, fun e => by have := hk.2; simp [Value.ownBlock] at e; omega⟩) (fun k hk => .inr (.inr (Nat.le_trans (by simp <;> omega) hk))) ((below_alloc (below_alloc (Below.refl _ _) _) _).drew) (by simp <;> omega) (by simp; omega) ?_; intro v3 w3 hN hB hg hat; have HN3 := Aside0.mk hN; have HB3 := Aside0.mk hB; have hx3 : w3.cell? (ad.add i) = some (.slice AE LE cE) := (hB.cell (World.block_lt_of_cell? w2 _ hx)).trans hx; have H37 : w3.heap[w2.heap.size + 1]? = some (.cells #[(.slice AE LE cE)] 35 (0, 0)) := (hg.block _ (by simp) (by simp [Value.ownBlock])).trans (Go.Proofs.Ytbcfgglcabeckaa.HClo.alloc_new (w2.alloc (.cells #[] 35)) _ _ (by simp)); have HNE : ∀ k, v3.ownBlock = some k → k ≠ w2.heap.size + 1 := ne_of_hat hat (by omega) (by simp <;> omega); have HX37 := Aside0.mk H37; have HNE37 := Aside0.mk HNE; clear H37 HNE; clear hN hB hg hat)
          | (refine Kd.N_append_rows_step (Kd.slice 3 (Kd.int .i64)) (w0 := w2) (W := ((w2.alloc (.cells #[(.slice AE LE cE)] 35)).alloc (.cells #[] 35)).drew) w2.heap.size (by rfl) (.tmp 30) (.tmp 31) 22 35 (.slice none 0 0) 24 rfl Try.underlying22 info35 rfl (by decide) (by omega) (.slice (some ⟨w2.heap.size + 1, 0, none⟩) 0 0) [] ahead A0 ahead.length c0 (fun k => (P0_ k ∧ k < w.heap.size) ∨ (P1_ k ∧ k < w.heap.size) ∨ w2.heap.size ≤ k) (fun k => P0_ k ∧ k < w.heap.size) rfl rfl (N_empty (b := w2.heap.size + 1) (Go.Proofs.Ytbcfgglcabeckaa.HClo.alloc_new (w2.alloc (.cells #[(.slice AE LE cE)] 35)) _ _ (by simp)) (by omega) (.inr (.inr (by omega)))) (Kd.F_below (Kd.V_F HAW2.out) ((below_alloc (below_alloc (Below.refl _ _) _) _).drew)) (fun k hk => ⟨.inl hk, fun e => by have := hk.2; simp [Value.ownBlock] at e; omega⟩) (fun k hk => .inr (.inr (Nat.le_trans (by simp <;> omega) hk))) ((below_alloc (below_alloc (Below.refl _ _) _) _).drew) (by simp <;> omega) (by simp; omega) ?_; intro v3 w3 hN hB hg hat; have HN3 := Aside0.mk hN; have HB3 := Aside0.mk hB; have hx3 : w3.cell? (ad.add i) = some (.slice AE LE cE) := (hB.cell (World.block_lt_of_cell? w2 _ hx)).trans hx; have H37 : w3.heap[w2.heap.size]? = some (.cells #[(.slice AE LE cE)] 35 (0, 0)) := (hg.block _ (by simp <;> omega) (by simp [Value.ownBlock])).trans (Go.Proofs.Ytbcfgglcabeckaa.HClo.alloc_old (by simp) (Go.Proofs.Ytbcfgglcabeckaa.HClo.alloc_new w2 _ _ rfl)); have HNE : ∀ k, v3.ownBlock = some k → k ≠ w2.heap.size := ne_of_hat hat (by omega) (by simp <;> omega); have HX37 := Aside0.mk H37; have HNE37 := Aside0.mk HNE; clear H37 HNE; clear hN hB hg hat)
          | (refine Kd.N_append_rows_step (Kd.slice 3 (Kd.int .i64)) (w0 := w2) (W := w3.alloc (.cells #[(.slice AE LE cE)] 35)) w2.heap.size (by rfl) (.tmp 32) (.tmp 37) 22 35 (.slice none 0 0) 24 rfl Try.underlying22 info35 rfl (by decide) (by omega) v3 ([] ++ ahead) [rest.getD i []] (some ⟨w3.heap.size, 0, none⟩) 1 1 (fun k => (P0_ k ∧ k < w.heap.size) ∨ (P1_ k ∧ k < w.heap.size) ∨ w2.heap.size ≤ k) (fun k => k = w3.heap.size ∨ (P1_ k ∧ k < w.heap.size)) rfl rfl (Kd.N_alloc HN3.out _) (F_one rfl (Go.Proofs.Ytbcfgglcabeckaa.HClo.alloc_new w3 _ _ rfl) (Kd.FK_below HFK.out (HB3.out.alloc HB3.out.size _))) (fun k hk => ⟨hk.elim (fun e => .inr (.inr (by have := HB3.out.size; omega))) (fun h => .inr (.inl h)), fun e => hk.elim (fun e2 => by have := Kd.N_lt HN3.out k e.symm; omega) (fun h => by have := h.2; have := Kd.N_base HN3.out k e.symm; omega)⟩) (fun k hk => .inr (.inr (Nat.le_trans (HB3.out.alloc HB3.out.size _).size hk))) (HB3.out.alloc HB3.out.size _) (HB3.out.alloc HB3.out.size _).size (by simp; omega) ?_; intro v4 w4 hN hB hg hat; have hN' : Kd.N (Kd.slice 3 (Kd.int .i64)) 35 w4 w2.heap.size (fun k => (P0_ k ∧ k < w.heap.size) ∨ (P1_ k ∧ k < w.heap.size) ∨ w2.heap.size ≤ k) v4 ah := (by rw [EAH.out]; simpa using hN); obtain ⟨AN, cN, eN⟩ := Kd.N_slice hN'; subst eN; have HN4 := Aside0.mk hN'; have HB4 := Aside0.mk hB; clear hN hN' hB hg hat)
          | (refine Kd.N_append_rows_step (Kd.slice 3 (Kd.int .i64)) (w0 := w2) (W := w3) w2.heap.size (by rfl) (.tmp 32) (.tmp 37) 22 35 (.slice none 0 0) 24 rfl Try.underlying22 info35 rfl (by decide) (by omega) v3 ([] ++ ahead) [rest.getD i []] (some ⟨w2.heap.size + 1, 0, none⟩) 1 1 (fun k => (P0_ k ∧ k < w.heap.size) ∨ (P1_ k ∧ k < w.heap.size) ∨ w2.heap.size ≤ k) (fun k => k = w2.heap.size + 1 ∨ (P1_ k ∧ k < w.heap.size)) rfl rfl HN3.out (F_one rfl HX37.out (Kd.FK_below HFK.out HB3.out)) (fun k hk => ⟨hk.elim (fun e => .inr (.inr (by have := HB3.out.size; omega))) (fun h => .inr (.inl h)), fun e => hk.elim (fun e2 => absurd e2 (HNE37.out k e.symm)) (fun h => by have := h.2; have := Kd.N_base HN3.out k e.symm; omega)⟩) (fun k hk => .inr (.inr (Nat.le_trans HB3.out.size hk))) HB3.out HB3.out.size (by simp; omega) ?_; intro v4 w4 hN hB hg hat; have hN' : Kd.N (Kd.slice 3 (Kd.int .i64)) 35 w4 w2.heap.size (fun k => (P0_ k ∧ k < w.heap.size) ∨ (P1_ k ∧ k < w.heap.size) ∨ w2.heap.size ≤ k) v4 ah := (by rw [EAH.out]; simpa using hN); obtain ⟨AN, cN, eN⟩ := Kd.N_slice hN'; subst eN; have HN4 := Aside0.mk hN'; have HB4 := Aside0.mk hB; clear hN hN' hB hg hat)
          | (refine Kd.N_append_rows_step (Kd.slice 3 (Kd.int .i64)) (w0 := w2) (W := w3) w2.heap.size (by rfl) (.tmp 32) (.tmp 37) 22 35 (.slice none 0 0) 24 rfl Try.underlying22 info35 rfl (by decide) (by omega) v3 ([] ++ ahead) [rest.getD i []] (some ⟨w2.heap.size, 0, none⟩) 1 1 (fun k => (P0_ k ∧ k < w.heap.size) ∨ (P1_ k ∧ k < w.heap.size) ∨ w2.heap.size ≤ k) (fun k => k = w2.heap.size ∨ (P1_ k ∧ k < w.heap.size)) rfl rfl HN3.out (F_one rfl HX37.out (Kd.FK_below HFK.out HB3.out)) (fun k hk => ⟨hk.elim (fun e => .inr (.inr (by have := HB3.out.size; omega))) (fun h => .inr (.inl h)), fun e => hk.elim (fun e2 => absurd e2 (HNE37.out k e.symm)) (fun h => by have := h.2; have := Kd.N_base HN3.out k e.symm; omega)⟩) (fun k hk => .inr (.inr (Nat.le_trans HB3.out.size hk))) HB3.out HB3.out.size (by simp; omega) ?_; intro v4 w4 hN hB hg hat; have hN' : Kd.N (Kd.slice 3 (Kd.int .i64)) 35 w4 w2.heap.size (fun k => (P0_ k ∧ k < w.heap.size) ∨ (P1_ k ∧ k < w.heap.size) ∨ w2.heap.size ≤ k) v4 ah := (by rw [EAH.out]; simpa using hN); obtain ⟨AN, cN, eN⟩ := Kd.N_slice hN'; subst eN; have HN4 := Aside0.mk hN'; have HB4 := Aside0.mk hB; clear hN hN' hB hg hat)
          | (go_simp; go_at_call 21; refine (IH.out ah ls a w4 AN AL cN cL _ _ HLD.out HLB2.out (Kd.N_V HN4.out) (Kd.N_V (Kd.N_below HN2'.out (HB4.out.mono (Nat.le_refl _)))) HB1'.out).mono ?_; rintro e w5 ⟨rfl, hb⟩; have HB5 := Aside0.mk (HB4.out.trans (hb.mono HB4.out.size)); clear hb))
        all_goals go_wp2
        all_goals (go_roundg g1; (case measure => omega); (case rel => exact ⟨i + 1, mx b a, (by unfold mx; congr 1; omega), by go_num, ⟨by have := HN.out; omega⟩, HBR, ⟨below_step HB.out (HB2.out.trans (HB5.out.mono HB2.out.size))⟩⟩))
theorem spec_l7Most.calls (k : Nat) (P0_ P1_ : Nat → Prop) (A0 : Option Addr) (c0 : Nat) (l0 : List (List Int)) (A1 : Option Addr) (c1 : Nat) (l1 : List (List Int)) (r : Int) (w : World) (hs0 : Kd.V (Kd.slice 3 (Kd.int .i64)) 35 w w.heap.size P0_ (.slice A0 l0.length c0) l0) (hs1 : Kd.V (Kd.slice 3 (Kd.int .i64)) 35 w w.heap.size P1_ (.slice A1 l1.length c1) l1) (h : spec_l7Most.f k l0 l1 = some r) :
    Calls Try.prog 21 #[.slice A0 l0.length c0, .slice A1 l1.length c1] w fun e w' => e = .returned (.int .i64 r) ∧ Below w.heap.size w w' := by
  unfold spec_l7Most.f at h
  by_cases g : l0.length + l1.length < 1000
  · rw [if_pos g] at h
    exact spec_l7Most.l_calls k _ l0 l1 r w A0 A1 c0 c1 P0_ P1_ rfl g hs0 hs1 h
  · rw [if_neg g] at h; cases h

/-! ### spec_OrderMost: function 8, by hand -/
def spec_OrderMost.f (k : Nat) (l0 : List (List Int)) : Option (Int × Bool) := (spec_PathIn.f k l0).bind fun t => if t = true then (if (l0.length : Int) > 6 then some (0, false) else (spec_l7Most.f k [] l0).bind fun r => some (r, true)) else some (0, false)
theorem spec_OrderMost.mono : ∀ a0 k, LeO (spec_OrderMost.f k a0) (spec_OrderMost.f (k + 1) a0) := by
  intro a0 k
  unfold spec_OrderMost.f
  exact LeO.bind (spec_PathIn.mono _ _) (fun t => LeO.ite (LeO.ite (LeO.refl _) (LeO.bind (spec_l7Most.mono _ _ _) (fun _ => LeO.refl _))) (LeO.refl _))
set_option maxHeartbeats 8000000 in
set_option maxRecDepth 100000 in
theorem spec_OrderMost.calls (k : Nat) (A0 : Option Addr) (c0 : Nat) (l0 : List (List Int)) (r1 : Int) (r2 : Bool) (w : World) (hr0 : Kd.C (Kd.slice 3 (Kd.int .i64)) w A0 l0.length l0) (hc0 : l0.length ≤ c0) (h : spec_OrderMost.f k l0 = some (r1, r2)) :
    Calls Try.prog 8 #[.slice A0 l0.length c0] w fun e w' => e = .returned (.tuple #[.int .i64 r1, .bool r2]) ∧ Below w.heap.size w w' := by
  unfold spec_OrderMost.f at h
  obtain ⟨t, h1, h⟩ := Option.bind_eq_some_iff.mp h
  have k1 := spec_PathIn.calls k A0 c0 l0 t w hr0 hc0 h1
  clear h1
  cases t with
  | false =>
    rw [if_neg (by decide)] at h
    injection h with h
    injection h with h2 h3
    subst h2 h3
    go_enter Try.func8, Try.ntmps8
    go_wp2_with (go_at_call 20; refine k1.mono ?_; rintro e w1 ⟨rfl, ⟨nd, rfl⟩⟩; clear k1)
    go_ret2
    exact ⟨rfl, pw_below_drewN (Below.refl _ _) _⟩
  | true =>
    rw [if_pos rfl] at h
    by_cases c6 : (l0.length : Int) > 6
    · rw [if_pos c6] at h
      injection h with h
      injection h with h2 h3
      subst h2 h3
      have q6 : decide ((6 : Int) < (l0.length : Int)) = true := decide_eq_true c6
      have q7 : decide (6 < l0.length) = true := decide_eq_true (by omega)
      go_enter Try.func8, Try.ntmps8
      go_wp2_with (go_at_call 20; refine k1.mono ?_; rintro e w1 ⟨rfl, ⟨nd, rfl⟩⟩; clear k1)
      go_ret2
      exact ⟨rfl, pw_below_drewN (Below.refl _ _) _⟩
    · rw [if_neg c6] at h
      obtain ⟨r, h3, h⟩ := Option.bind_eq_some_iff.mp h
      injection h with h
      injection h with h4 h5
      subst h4 h5
      have q6 : decide ((6 : Int) < (l0.length : Int)) = false := decide_eq_false c6
      have q7 : decide (6 < l0.length) = false := decide_eq_false (by omega)
      have k2 : ∀ W : World, Below w.heap.size w W → W.heap[w.heap.size]? = some (.cells #[] 35 (0, 0)) → Calls Try.prog 21 #[.slice (some ⟨w.heap.size, 0, none⟩) 0 0, .slice A0 l0.length c0] W fun e w' => e = .returned (.int .i64 r) ∧ Below W.heap.size W w' := fun W hb he =>
        spec_l7Most.calls k (fun k => k = w.heap.size) _ (some ⟨w.heap.size, 0, none⟩) 0 [] A0 c0 l0 r W (Kd.N_V (Go.Proofs.Ytbcfgglcabeckaa.HMst.N_empty (base := 0) he (Nat.zero_le _) rfl)) (Go.Proofs.Ytbcfgglcabeckaa.HOrd.came_V (Kd.heap_slice 3 (Kd.heap_int .i64)) hr0 hb hc0) h3
      clear h3 hr0
      go_enter Try.func8, Try.ntmps8
      go_wp2_with (first | (go_at_call 20; refine k1.mono ?_; rintro e w1 ⟨rfl, ⟨nd, rfl⟩⟩; clear k1) | (go_at_call 21; refine (k2 _ ((pw_below_drewN (Below.refl _ w) _).alloc (Nat.le_refl _) _) (Go.Proofs.Ytbcfgglcabeckaa.HClo.alloc_new _ _ _ rfl)).mono ?_; rintro e w1 ⟨rfl, hb⟩; have HB := Aside0.mk hb; clear k2 hb))
      go_ret2
      exact ⟨rfl, ((pw_below_drewN (Below.refl _ w) _).alloc (Nat.le_refl _) _).trans (HB.out.mono (by simp))⟩

/-! ### impl_isStep: function 39 -/
def impl_isStep.f (l0 : List Int) : Option (Bool) := if (l0.length : Int) = 2 then (if 0 < (l0.length : Int) then (if (rd l0 0) ≥ (-9) then (if (rd l0 0) ≤ 9 then (if 1 < (l0.length : Int) then (if (rd l0 1) ≥ (-9) then (if (rd l0 1) ≤ 9 then (if (rd l0 0) = 0 then (some ((rd l0 1) != 0)) else (some true)) else (some false)) else (some false)) else (none)) else (some false)) else (some false)) else (none)) else (some false)
set_option maxHeartbeats 8000000 in
set_option maxRecDepth 100000 in
theorem impl_isStep.calls (A0 : Option Addr) (c0 : Nat) (l0 : List Int) (r : Bool) (w : World) (hr0 : Kd.C (Kd.int .i64) w A0 l0.length l0) (hc0 : l0.length ≤ c0) (h : impl_isStep.f l0 = some r) :
    Calls Try.prog 39 #[.slice A0 l0.length c0] w fun e w' => e = .returned (.bool r) ∧ Drawn0 w w' := by
  have HR0 := Aside0.mk hr0
  have HC0 := Aside0.mk hc0
  clear hr0 hc0
  have H : (if (l0.length : Int) = 2 then (if 0 < (l0.length : Int) then (if (rd l0 0) ≥ (-9) then (if (rd l0 0) ≤ 9 then (if 1 < (l0.length : Int) then (if (rd l0 1) ≥ (-9) then (if (rd l0 1) ≤ 9 then (if (rd l0 0) = 0 then (some ((rd l0 1) != 0)) else (some true)) else (some false)) else (some false)) else (none)) else (some false)) else (some false)) else (none)) else (some false)) = some r := h
  clear h
  by_cases c2 : (l0.length : Int) = 2
  · rw [if_pos c2] at H
    have c2b0 : ((l0.length : Int) == 2) = true := beq_iff_eq.mpr c2
    have c2b1 : ((l0.length : Int) != 2) = false := bne_eq_false_iff_eq.mpr c2
    clear c2
    by_cases c3 : 0 < (l0.length : Int)
    · rw [if_pos c3] at H
      have c3b0 : decide (0 < (l0.length : Int)) = true := decide_eq_true c3
      have c3b1 : decide (0 < l0.length) = true := decide_eq_true (by omega)
      clear c3
      by_cases c4 : (rd l0 0) ≥ (-9)
      · rw [if_pos c4] at H
        have c4b0 : decide ((-9) ≤ (rd l0 0)) = true := decide_eq_true c4
        clear c4
        by_cases c5 : (rd l0 0) ≤ 9
        · rw [if_pos c5] at H
          have c5b0 : decide ((rd l0 0) ≤ 9) = true := decide_eq_true c5
          clear c5
          by_cases c6 : 1 < (l0.length : Int)
          · rw [if_pos c6] at H
            have c6b0 : decide (1 < (l0.length : Int)) = true := decide_eq_true c6
            have c6b1 : decide (1 < l0.length) = true := decide_eq_true (by omega)
            clear c6
            by_cases c7 : (rd l0 1) ≥ (-9)
            · rw [if_pos c7] at H
              have c7b0 : decide ((-9) ≤ (rd l0 1)) = true := decide_eq_true c7
              clear c7
              by_cases c8 : (rd l0 1) ≤ 9
              · rw [if_pos c8] at H
                have c8b0 : decide ((rd l0 1) ≤ 9) = true := decide_eq_true c8
                clear c8
                by_cases c9 : (rd l0 0) = 0
                · rw [if_pos c9] at H
                  have c9b0 : ((rd l0 0) == 0) = true := beq_iff_eq.mpr c9
                  have c9b1 : ((rd l0 0) != 0) = false := bne_eq_false_iff_eq.mpr c9
                  clear c9
                  obtain rfl := Option.some.inj H
                  have p139 : 0 ≤ (0 : Int) := (by omega)
                  have q139 : 0 < (l0.length : Int) := of_decide_eq_true (by first | (with_reducible assumption) | assumption)
                  obtain ⟨ad139, e139, hx139_0⟩ := Kd.at_int HR0.out 0 p139 q139
                  cases e139
                  have qi139 : (0 < l0.length) = True := eq_true (by omega)
                  (try rw [show ((0 : Int)).toNat = 0 from rfl] at hx139_0)
                  (try rw [Addr.add_zero'] at hx139_0)
                  replace p139 := eq_true p139
                  replace q139 := eq_true q139
                  have p140 : 0 ≤ (0 : Int) := (by omega)
                  have q140 : 0 < (l0.length : Int) := of_decide_eq_true (by first | (with_reducible assumption) | assumption)
                  obtain ⟨ad140, e140, hx140_0⟩ := Kd.at_int HR0.out 0 p140 q140
                  obtain rfl : ad139 = ad140 := (by injection e140)
                  have qi140 : (0 < l0.length) = True := eq_true (by omega)
                  (try rw [show ((0 : Int)).toNat = 0 from rfl] at hx140_0)
                  (try rw [Addr.add_zero'] at hx140_0)
                  replace p140 := eq_true p140
                  replace q140 := eq_true q140
                  have p141 : 0 ≤ (1 : Int) := (by omega)
                  have q141 : 1 < (l0.length : Int) := of_decide_eq_true (by first | (with_reducible assumption) | assumption)
                  obtain ⟨ad141, e141, hx141_0⟩ := Kd.at_int HR0.out 1 p141 q141
                  obtain rfl : ad139 = ad141 := (by injection e141)
                  (try simp only [show (1 : Int).toNat = 1 from rfl, Nat.reduceMul, Nat.reduceEqDiff, Go.Addr.add, ↓reduceIte] at hx141_0)
                  have qi141 : (1 < l0.length) = True := eq_true (by omega)
                  (try rw [show ((1 : Int)).toNat = 1 from rfl] at hx141_0)
                  replace p141 := eq_true p141
                  replace q141 := eq_true q141
                  have p142 : 0 ≤ (1 : Int) := (by omega)
                  have q142 : 1 < (l0.length : Int) := of_decide_eq_true (by first | (with_reducible assumption) | assumption)
                  obtain ⟨ad142, e142, hx142_0⟩ := Kd.at_int HR0.out 1 p142 q142
                  obtain rfl : ad139 = ad142 := (by injection e142)
                  (try simp only [show (1 : Int).toNat = 1 from rfl, Nat.reduceMul, Nat.reduceEqDiff, Go.Addr.add, ↓reduceIte] at hx142_0)
                  have qi142 : (1 < l0.length) = True := eq_true (by omega)
                  (try rw [show ((1 : Int)).toNat = 1 from rfl] at hx142_0)
                  replace p142 := eq_true p142
                  replace q142 := eq_true q142
                  have p143 : 0 ≤ (0 : Int) := (by omega)
                  have q143 : 0 < (l0.length : Int) := of_decide_eq_true (by first | (with_reducible assumption) | assumption)
                  obtain ⟨ad143, e143, hx143_0⟩ := Kd.at_int HR0.out 0 p143 q143
                  obtain rfl : ad139 = ad143 := (by injection e143)
                  have qi143 : (0 < l0.length) = True := eq_true (by omega)
                  (try rw [show ((0 : Int)).toNat = 0 from rfl] at hx143_0)
                  (try rw [Addr.add_zero'] at hx143_0)
                  replace p143 := eq_true p143
                  replace q143 := eq_true q143
                  have p144 : 0 ≤ (1 : Int) := (by omega)
                  have q144 : 1 < (l0.length : Int) := of_decide_eq_true (by first | (with_reducible assumption) | assumption)
                  obtain ⟨ad144, e144, hx144_0⟩ := Kd.at_int HR0.out 1 p144 q144
                  obtain rfl : ad139 = ad144 := (by injection e144)
                  (try simp only [show (1 : Int).toNat = 1 from rfl, Nat.reduceMul, Nat.reduceEqDiff, Go.Addr.add, ↓reduceIte] at hx144_0)
                  have qi144 : (1 < l0.length) = True := eq_true (by omega)
                  (try rw [show ((1 : Int)).toNat = 1 from rfl] at hx144_0)
                  replace p144 := eq_true p144
                  replace q144 := eq_true q144
                  go_enter Try.func39, Try.ntmps39
                  go_wp2
                  go_ret
                  exact ⟨by first | rfl | (simp; done) | (simp [*]; done), by repeat (first | exact Drawn0.refl _ | apply Drawn0.step)⟩
                · rw [if_neg c9] at H
                  have c9b0 : ((rd l0 0) == 0) = false := beq_eq_false_iff_ne.mpr c9
                  have c9b1 : ((rd l0 0) != 0) = true := bne_iff_ne.mpr c9
                  obtain rfl := Option.some.inj H
                  have p139 : 0 ≤ (0 : Int) := (by omega)
                  have q139 : 0 < (l0.length : Int) := of_decide_eq_true (by first | (with_reducible assumption) | assumption)
                  obtain ⟨ad139, e139, hx139_0⟩ := Kd.at_int HR0.out 0 p139 q139
                  cases e139
                  have qi139 : (0 < l0.length) = True := eq_true (by omega)
                  (try rw [show ((0 : Int)).toNat = 0 from rfl] at hx139_0)
                  (try rw [Addr.add_zero'] at hx139_0)
                  replace p139 := eq_true p139
                  replace q139 := eq_true q139
                  have p140 : 0 ≤ (0 : Int) := (by omega)
                  have q140 : 0 < (l0.length : Int) := of_decide_eq_true (by first | (with_reducible assumption) | assumption)
                  obtain ⟨ad140, e140, hx140_0⟩ := Kd.at_int HR0.out 0 p140 q140
                  obtain rfl : ad139 = ad140 := (by injection e140)
                  have qi140 : (0 < l0.length) = True := eq_true (by omega)
                  (try rw [show ((0 : Int)).toNat = 0 from rfl] at hx140_0)
                  (try rw [Addr.add_zero'] at hx140_0)
                  replace p140 := eq_true p140
                  replace q140 := eq_true q140
                  have p141 : 0 ≤ (1 : Int) := (by omega)
                  have q141 : 1 < (l0.length : Int) := of_decide_eq_true (by first | (with_reducible assumption) | assumption)
                  obtain ⟨ad141, e141, hx141_0⟩ := Kd.at_int HR0.out 1 p141 q141
                  obtain rfl : ad139 = ad141 := (by injection e141)
                  (try simp only [show (1 : Int).toNat = 1 from rfl, Nat.reduceMul, Nat.reduceEqDiff, Go.Addr.add, ↓reduceIte] at hx141_0)
                  have qi141 : (1 < l0.length) = True := eq_true (by omega)
                  (try rw [show ((1 : Int)).toNat = 1 from rfl] at hx141_0)
                  replace p141 := eq_true p141
                  replace q141 := eq_true q141
                  have p142 : 0 ≤ (1 : Int) := (by omega)
                  have q142 : 1 < (l0.length : Int) := of_decide_eq_true (by first | (with_reducible assumption) | assumption)
                  obtain ⟨ad142, e142, hx142_0⟩ := Kd.at_int HR0.out 1 p142 q142
                  obtain rfl : ad139 = ad142 := (by injection e142)
                  (try simp only [show (1 : Int).toNat = 1 from rfl, Nat.reduceMul, Nat.reduceEqDiff, Go.Addr.add, ↓reduceIte] at hx142_0)
                  have qi142 : (1 < l0.length) = True := eq_true (by omega)
                  (try rw [show ((1 : Int)).toNat = 1 from rfl] at hx142_0)
                  replace p142 := eq_true p142
                  replace q142 := eq_true q142
                  have p143 : 0 ≤ (0 : Int) := (by omega)
                  have q143 : 0 < (l0.length : Int) := of_decide_eq_true (by first | (with_reducible assumption) | assumption)
                  obtain ⟨ad143, e143, hx143_0⟩ := Kd.at_int HR0.out 0 p143 q143
                  obtain rfl : ad139 = ad143 := (by injection e143)
                  have qi143 : (0 < l0.length) = True := eq_true (by omega)
                  (try rw [show ((0 : Int)).toNat = 0 from rfl] at hx143_0)
                  (try rw [Addr.add_zero'] at hx143_0)
                  replace p143 := eq_true p143
                  replace q143 := eq_true q143
                  go_enter Try.func39, Try.ntmps39
                  go_wp2
                  go_ret
                  exact ⟨by first | rfl | (simp; done) | (simp [*]; done), by repeat (first | exact Drawn0.refl _ | apply Drawn0.step)⟩
              · rw [if_neg c8] at H
                have c8b0 : decide ((rd l0 1) ≤ 9) = false := decide_eq_false c8
                clear c8
                obtain rfl := Option.some.inj H
                have p139 : 0 ≤ (0 : Int) := (by omega)
                have q139 : 0 < (l0.length : Int) := of_decide_eq_true (by first | (with_reducible assumption) | assumption)
                obtain ⟨ad139, e139, hx139_0⟩ := Kd.at_int HR0.out 0 p139 q139
                cases e139
                have qi139 : (0 < l0.length) = True := eq_true (by omega)
                (try rw [show ((0 : Int)).toNat = 0 from rfl] at hx139_0)
                (try rw [Addr.add_zero'] at hx139_0)
                replace p139 := eq_true p139
                replace q139 := eq_true q139
                have p140 : 0 ≤ (0 : Int) := (by omega)
                have q140 : 0 < (l0.length : Int) := of_decide_eq_true (by first | (with_reducible assumption) | assumption)
                obtain ⟨ad140, e140, hx140_0⟩ := Kd.at_int HR0.out 0 p140 q140
                obtain rfl : ad139 = ad140 := (by injection e140)
                have qi140 : (0 < l0.length) = True := eq_true (by omega)
                (try rw [show ((0 : Int)).toNat = 0 from rfl] at hx140_0)
                (try rw [Addr.add_zero'] at hx140_0)
                replace p140 := eq_true p140
                replace q140 := eq_true q140
                have p141 : 0 ≤ (1 : Int) := (by omega)
                have q141 : 1 < (l0.length : Int) := of_decide_eq_true (by first | (with_reducible assumption) | assumption)
                obtain ⟨ad141, e141, hx141_0⟩ := Kd.at_int HR0.out 1 p141 q141
                obtain rfl : ad139 = ad141 := (by injection e141)
                (try simp only [show (1 : Int).toNat = 1 from rfl, Nat.reduceMul, Nat.reduceEqDiff, Go.Addr.add, ↓reduceIte] at hx141_0)
                have qi141 : (1 < l0.length) = True := eq_true (by omega)
                (try rw [show ((1 : Int)).toNat = 1 from rfl] at hx141_0)
                replace p141 := eq_true p141
                replace q141 := eq_true q141
                have p142 : 0 ≤ (1 : Int) := (by omega)
                have q142 : 1 < (l0.length : Int) := of_decide_eq_true (by first | (with_reducible assumption) | assumption)
                obtain ⟨ad142, e142, hx142_0⟩ := Kd.at_int HR0.out 1 p142 q142
                obtain rfl : ad139 = ad142 := (by injection e142)
                (try simp only [show (1 : Int).toNat = 1 from rfl, Nat.reduceMul, Nat.reduceEqDiff, Go.Addr.add, ↓reduceIte] at hx142_0)
                have qi142 : (1 < l0.length) = True := eq_true (by omega)
                (try rw [show ((1 : Int)).toNat = 1 from rfl] at hx142_0)
                replace p142 := eq_true p142
                replace q142 := eq_true q142
                go_enter Try.func39, Try.ntmps39
                go_wp2
                go_ret
                exact ⟨by first | rfl | (simp; done) | (simp [*]; done), by repeat (first | exact Drawn0.refl _ | apply Drawn0.step)⟩
            · rw [if_neg c7] at H
              have c7b0 : decide ((-9) ≤ (rd l0 1)) = false := decide_eq_false c7
              clear c7
              obtain rfl := Option.some.inj H
              have p139 : 0 ≤ (0 : Int) := (by omega)
              have q139 : 0 < (l0.length : Int) := of_decide_eq_true (by first | (with_reducible assumption) | assumption)
              obtain ⟨ad139, e139, hx139_0⟩ := Kd.at_int HR0.out 0 p139 q139
              cases e139
              have qi139 : (0 < l0.length) = True := eq_true (by omega)
              (try rw [show ((0 : Int)).toNat = 0 from rfl] at hx139_0)
              (try rw [Addr.add_zero'] at hx139_0)
              replace p139 := eq_true p139
              replace q139 := eq_true q139
              have p140 : 0 ≤ (0 : Int) := (by omega)
              have q140 : 0 < (l0.length : Int) := of_decide_eq_true (by first | (with_reducible assumption) | assumption)
              obtain ⟨ad140, e140, hx140_0⟩ := Kd.at_int HR0.out 0 p140 q140
              obtain rfl : ad139 = ad140 := (by injection e140)
              have qi140 : (0 < l0.length) = True := eq_true (by omega)
              (try rw [show ((0 : Int)).toNat = 0 from rfl] at hx140_0)
              (try rw [Addr.add_zero'] at hx140_0)
              replace p140 := eq_true p140
              replace q140 := eq_true q140
              have p141 : 0 ≤ (1 : Int) := (by omega)
              have q141 : 1 < (l0.length : Int) := of_decide_eq_true (by first | (with_reducible assumption) | assumption)
              obtain ⟨ad141, e141, hx141_0⟩ := Kd.at_int HR0.out 1 p141 q141
              obtain rfl : ad139 = ad141 := (by injection e141)
              (try simp only [show (1 : Int).toNat = 1 from rfl, Nat.reduceMul, Nat.reduceEqDiff, Go.Addr.add, ↓reduceIte] at hx141_0)
              have qi141 : (1 < l0.length) = True := eq_true (by omega)
              (try rw [show ((1 : Int)).toNat = 1 from rfl] at hx141_0)
              replace p141 := eq_true p141
              replace q141 := eq_true q141
              go_enter Try.func39, Try.ntmps39
              go_wp2
              go_ret
              exact ⟨by first | rfl | (simp; done) | (simp [*]; done), by repeat (first | exact Drawn0.refl _ | apply Drawn0.step)⟩
          · rw [if_neg c6] at H
            exact absurd H (by simp)
        · rw [if_neg c5] at H
          have c5b0 : decide ((rd l0 0) ≤ 9) = false := decide_eq_false c5
          clear c5
          obtain rfl := Option.some.inj H
          have p139 : 0 ≤ (0 : Int) := (by omega)
          have q139 : 0 < (l0.length : Int) := of_decide_eq_true (by first | (with_reducible assumption) | assumption)
          obtain ⟨ad139, e139, hx139_0⟩ := Kd.at_int HR0.out 0 p139 q139
          cases e139
          have qi139 : (0 < l0.length) = True := eq_true (by omega)
          (try rw [show ((0 : Int)).toNat = 0 from rfl] at hx139_0)
          (try rw [Addr.add_zero'] at hx139_0)
          replace p139 := eq_true p139
          replace q139 := eq_true q139
          have p140 : 0 ≤ (0 : Int) := (by omega)
          have q140 : 0 < (l0.length : Int) := of_decide_eq_true (by first | (with_reducible assumption) | assumption)
          obtain ⟨ad140, e140, hx140_0⟩ := Kd.at_int HR0.out 0 p140 q140
          obtain rfl : ad139 = ad140 := (by injection e140)
          have qi140 : (0 < l0.length) = True := eq_true (by omega)
          (try rw [show ((0 : Int)).toNat = 0 from rfl] at hx140_0)
          (try rw [Addr.add_zero'] at hx140_0)
          replace p140 := eq_true p140
          replace q140 := eq_true q140
          go_enter Try.func39, Try.ntmps39
          go_wp2
          go_ret
          exact ⟨by first | rfl | (simp; done) | (simp [*]; done), by repeat (first | exact Drawn0.refl _ | apply Drawn0.step)⟩
      · rw [if_neg c4] at H
        have c4b0 : decide ((-9) ≤ (rd l0 0)) = false := decide_eq_false c4
        clear c4
        obtain rfl := Option.some.inj H
        have p139 : 0 ≤ (0 : Int) := (by omega)
        have q139 : 0 < (l0.length : Int) := of_decide_eq_true (by first | (with_reducible assumption) | assumption)
        obtain ⟨ad139, e139, hx139_0⟩ := Kd.at_int HR0.out 0 p139 q139
        cases e139
        have qi139 : (0 < l0.length) = True := eq_true (by omega)
        (try rw [show ((0 : Int)).toNat = 0 from rfl] at hx139_0)
        (try rw [Addr.add_zero'] at hx139_0)
        replace p139 := eq_true p139
        replace q139 := eq_true q139
        go_enter Try.func39, Try.ntmps39
        go_wp2
        go_ret
        exact ⟨by first | rfl | (simp; done) | (simp [*]; done), by repeat (first | exact Drawn0.refl _ | apply Drawn0.step)⟩
    · rw [if_neg c3] at H
      exact absurd H (by simp)
  · rw [if_neg c2] at H
    have c2b0 : ((l0.length : Int) == 2) = false := beq_eq_false_iff_ne.mpr c2
    have c2b1 : ((l0.length : Int) != 2) = true := bne_iff_ne.mpr c2
    obtain rfl := Option.some.inj H
    go_enter Try.func39, Try.ntmps39
    go_wp2
    go_ret
    exact ⟨by first | rfl | (simp; done) | (simp [*]; done), by repeat (first | exact Drawn0.refl _ | apply Drawn0.step)⟩

/-! ### impl_PathIn: function 23 -/
mutual
def impl_PathIn.j0 : Nat → List (List Int) → Bool → Option (Bool)
  | 0, _, _ => none
  | k + 1, x0, x14 => if x14 = true then (some false) else (impl_PathIn.l0 k 0 0 x0 (x0.length : Int) 0)
def impl_PathIn.l0 : Nat → Int → Int → List (List Int) → Int → Int → Option (Bool)
  | 0, _, _, _, _, _ => none
  | k + 1, x3, x4, x15, x16, x17 => if x17 < x16 then (if 0 ≤ x17 then (if x17 < (x15.length : Int) then ((impl_isStep.f (rd_L1 x15 x17)).bind fun t146 => (if t146 = true then (if 0 < ((rd_L1 x15 x17).length : Int) then (if 1 < ((rd_L1 x15 x17).length : Int) then (impl_PathIn.l0 k (wrap64 (x3 + (rd (rd_L1 x15 x17) 0))) (wrap64 (x4 + (rd (rd_L1 x15 x17) 1))) x15 x16 (wrap64 (x17 + 1))) else (none)) else (none)) else (some false))) else (none)) else (none)) else (if x3 = 0 then (some (x4 == 0)) else (some false))
end
def impl_PathIn.f (k : Nat) (l0 : List (List Int)) : Option (Bool) := if (l0.length : Int) < 3 then (impl_PathIn.j0 k l0 true) else (impl_PathIn.j0 k l0 (decide ((l0.length : Int) > 8)))
theorem impl_PathIn.mono_l : ∀ k, (∀ y0 y1, LeO (impl_PathIn.j0 k y0 y1) (impl_PathIn.j0 (k + 1) y0 y1)) ∧ (∀ y0 y1 y2 y3 y4, LeO (impl_PathIn.l0 k y0 y1 y2 y3 y4) (impl_PathIn.l0 (k + 1) y0 y1 y2 y3 y4))
  | 0 => ⟨fun _ _ r h => by simp [impl_PathIn.j0] at h, fun _ _ _ _ _ r h => by simp [impl_PathIn.l0] at h⟩
  | k + 1 => by
    obtain ⟨ih0, ih1⟩ := impl_PathIn.mono_l k
    refine ⟨?_, ?_⟩
    · intro y0 y1
      unfold impl_PathIn.j0
      repeat' first
      | (with_reducible exact ih0 _ _)
      | (with_reducible exact ih1 _ _ _ _ _)
      | (with_reducible exact LeO.refl _)
      | (with_reducible exact LeO.none _)
      | (with_reducible refine LeO.ite ?_ ?_)
      | (with_reducible refine LeO.bind ?_ (fun _ => ?_))
      | exact ih0 _ _
      | exact ih1 _ _ _ _ _
      | exact LeO.none _
      | refine LeO.ite ?_ ?_
      | refine LeO.bind ?_ (fun _ => ?_)
    · intro y0 y1 y2 y3 y4
      unfold impl_PathIn.l0
      repeat' first
      | (with_reducible exact ih0 _ _)
      | (with_reducible exact ih1 _ _ _ _ _)
      | (with_reducible exact LeO.refl _)
      | (with_reducible exact LeO.none _)
      | (with_reducible refine LeO.ite ?_ ?_)
      | (with_reducible refine LeO.bind ?_ (fun _ => ?_))
      | exact ih0 _ _
      | exact ih1 _ _ _ _ _
      | exact LeO.none _
      | refine LeO.ite ?_ ?_
      | refine LeO.bind ?_ (fun _ => ?_)
theorem impl_PathIn.mono : ∀ a0 k, LeO (impl_PathIn.f k a0) (impl_PathIn.f (k + 1) a0) := by
  intro a0 k
  obtain ⟨ih0, ih1⟩ := impl_PathIn.mono_l k
  unfold impl_PathIn.f
  repeat' first
      | (with_reducible exact ih0 _ _)
      | (with_reducible exact ih1 _ _ _ _ _)
      | (with_reducible exact LeO.refl _)
      | (with_reducible exact LeO.none _)
      | (with_reducible refine LeO.ite ?_ ?_)
      | (with_reducible refine LeO.bind ?_ (fun _ => ?_))
      | exact ih0 _ _
      | exact ih1 _ _ _ _ _
      | exact LeO.none _
      | refine LeO.ite ?_ ?_
      | refine LeO.bind ?_ (fun _ => ?_)
set_option maxHeartbeats 8000000 in
set_option maxRecDepth 100000 in
theorem impl_PathIn.calls (k : Nat) (A0 : Option Addr) (c0 : Nat) (l0 : List (List Int)) (r : Bool) (w : World) (hr0 : Kd.C (Kd.slice 3 (Kd.int .i64)) w A0 l0.length l0) (hc0 : l0.length ≤ c0) (h : impl_PathIn.f k l0 = some r) :
    Calls Try.prog 23 #[.slice A0 l0.length c0] w fun e w' => e = .returned (.bool r) ∧ Drawn0 w w' := by
  have HR0 := Aside0.mk hr0
  have HC0 := Aside0.mk hc0
  clear hr0 hc0
  have H : (if (l0.length : Int) < 3 then (impl_PathIn.j0 k l0 true) else (impl_PathIn.j0 k l0 (decide ((l0.length : Int) > 8)))) = some r := h
  clear h
  have HC2 := Aside0.mk H
  clear H
  go_enter Try.func23, Try.ntmps23
  go_upto_region 1 with (fail)
  go_cut [14] (fun v14 wc => ∃ (kq : Nat) (x14_1 : Bool), v14 = .bool x14_1 ∧ Aside0 (impl_PathIn.j0 kq l0 x14_1 = some r) ∧ Aside0 (kq ≤ k) ∧ Drawn0 w wc)
  case first =>
    have H := HC2.out
    clear HC2
    by_cases c3 : (l0.length : Int) < 3
    · rw [if_pos c3] at H
      have c3b0 : decide ((l0.length : Int) < 3) = true := decide_eq_true c3
      have c3b1 : decide (l0.length < 3) = true := decide_eq_true (by omega)
      clear c3
      (first | rw [c3b0] | (simp only [i64_w, i32_w]; rw [c3b0]) | skip)
      have H' := Aside0.mk H
      clear H
      go_wp2
      go_meet
      case rel => exact ⟨_, (true), (by first | rfl | (simp; done) | (simp [*]; done)), H', ⟨by first | omega | exact Nat.le_refl _⟩, by repeat (first | exact Drawn0.refl _ | apply Drawn0.step)⟩
    · rw [if_neg c3] at H
      have c3b0 : decide ((l0.length : Int) < 3) = false := decide_eq_false c3
      have c3b1 : decide (l0.length < 3) = false := decide_eq_false (by omega)
      clear c3
      (first | rw [c3b0] | (simp only [i64_w, i32_w]; rw [c3b0]) | skip)
      have H' := Aside0.mk H
      clear H
      go_wp2
      go_meet
      case rel => exact ⟨_, (decide ((l0.length : Int) > 8)), (by first | rfl | (simp; done) | (simp [*]; done)), H', ⟨by first | omega | exact Nat.le_refl _⟩, by repeat (first | exact Drawn0.refl _ | apply Drawn0.step)⟩
  case rest =>
    clear HC2
    try clear c2
    try clear p2
    try clear c3
    try clear c3b0
    try clear c3b1
    obtain ⟨kq, x14_1, rfl, HA, HJ1, ⟨mc1, rfl⟩⟩ := hcut
    cases kq with
    | zero => exact absurd HA.out (by simp [impl_PathIn.j0])
    | succ kj1 =>
      have H := HA.out
      clear HA
      simp only [impl_PathIn.j0] at H
      by_cases c4 : x14_1 = true
      · subst c4
        have H1 : (some false) = some r := by rw [if_pos rfl] at H; exact H
        clear H
        have H := H1
        clear H1
        obtain rfl := Option.some.inj H
        go_wp2
        go_ret
        exact ⟨by first | rfl | (simp; done) | (simp [*]; done), by repeat (first | exact Drawn0.refl _ | apply Drawn0.step)⟩
      · replace c4 := Bool.eq_false_iff.mpr c4
        subst c4
        have H1 : (impl_PathIn.l0 kj1 0 0 l0 (l0.length : Int) 0) = some r := by rw [if_neg (show ¬ (false = true) by decide)] at H; exact H
        clear H
        have H := H1
        clear H1
        have H' := Aside0.mk H
        clear H
        go_wp2
        go_loopg [3, 4, 17] kj1 (fun kq v3 v4 v17 w' => ∃ (x3_2 : Int) (x4_2 : Int) (x17_2 : Int), v3 = .int .i64 x3_2 ∧ v4 = .int .i64 x4_2 ∧ v17 = .int .i64 x17_2 ∧ Aside0 (impl_PathIn.l0 kq x3_2 x4_2 l0 (l0.length : Int) x17_2 = some r) ∧ Aside0 (kq ≤ kj1) ∧ Drawn0 w w')
        case atStart => exact ⟨(0), (0), (0), (by first | rfl | (simp; done) | (simp [*]; done)), (by first | rfl | (simp; done) | (simp [*]; done)), (by first | rfl | (simp; done) | (simp [*]; done)), H', ⟨Nat.le_refl _⟩, by repeat (first | exact Drawn0.refl _ | apply Drawn0.step)⟩
        case round =>
          clear H'
          try clear c1
          try clear c2
          try clear p2
          try clear c3
          try clear c3b0
          try clear c3b1
          try clear c4
          try clear p2
          obtain ⟨x3_2, x4_2, x17_2, rfl, rfl, rfl, HA, HK2, ⟨m2, rfl⟩⟩ := hrel
          cases gk with
          | zero => exact absurd HA.out (by simp [impl_PathIn.l0])
          | succ k2 =>
            have H := HA.out
            clear HA
            simp only [impl_PathIn.l0] at H
            by_cases c5 : x17_2 < (l0.length : Int)
            · rw [if_pos c5] at H
              have c5b0 : decide (x17_2 < (l0.length : Int)) = true := decide_eq_true c5
              clear c5
              by_cases c6 : 0 ≤ x17_2
              · rw [if_pos c6] at H
                have c6b0 : decide (0 ≤ x17_2) = true := decide_eq_true c6
                clear c6
                by_cases c7 : x17_2 < (l0.length : Int)
                · rw [if_pos c7] at H
                  have c7b0 : decide (x17_2 < (l0.length : Int)) = true := decide_eq_true c7
                  clear c7
                  replace H := Option.bind_eq_some_iff.mp H
                  obtain ⟨t146, A80, H⟩ := H
                  replace H : (if t146 = true then (if 0 < ((rd_L1 l0 x17_2).length : Int) then (if 1 < ((rd_L1 l0 x17_2).length : Int) then (impl_PathIn.l0 k2 (wrap64 (x3_2 + (rd (rd_L1 l0 x17_2) 0))) (wrap64 (x4_2 + (rd (rd_L1 l0 x17_2) 1))) l0 (l0.length : Int) (wrap64 (x17_2 + 1))) else (none)) else (none)) else (some false)) = some r := H
                  have A8 := Aside0.mk A80
                  clear A80
                  by_cases c9 : t146 = true
                  · subst c9
                    have H1 : (if 0 < ((rd_L1 l0 x17_2).length : Int) then (if 1 < ((rd_L1 l0 x17_2).length : Int) then (impl_PathIn.l0 k2 (wrap64 (x3_2 + (rd (rd_L1 l0 x17_2) 0))) (wrap64 (x4_2 + (rd (rd_L1 l0 x17_2) 1))) l0 (l0.length : Int) (wrap64 (x17_2 + 1))) else (none)) else (none)) = some r := by rw [if_pos rfl] at H; exact H
                    clear H
                    have H := H1
                    clear H1
                    by_cases c10 : 0 < ((rd_L1 l0 x17_2).length : Int)
                    · rw [if_pos c10] at H
                      have c10b0 : decide (0 < ((rd_L1 l0 x17_2).length : Int)) = true := decide_eq_true c10
                      have c10b1 : decide (0 < (rd_L1 l0 x17_2).length) = true := decide_eq_true (by omega)
                      clear c10
                      by_cases c11 : 1 < ((rd_L1 l0 x17_2).length : Int)
                      · rw [if_pos c11] at H
                        have c11b0 : decide (1 < ((rd_L1 l0 x17_2).length : Int)) = true := decide_eq_true c11
                        have c11b1 : decide (1 < (rd_L1 l0 x17_2).length) = true := decide_eq_true (by omega)
                        clear c11
                        have H' := Aside0.mk H
                        clear H
                        have p145 : 0 ≤ (x17_2 : Int) := of_decide_eq_true (by first | (with_reducible assumption) | assumption)
                        have q145 : x17_2 < (l0.length : Int) := of_decide_eq_true (by first | (with_reducible assumption) | assumption)
                        obtain ⟨ad145, A145_0, c145_0, e145, hx145_0, hl145_0, hi145_0⟩ := at_L1 HR0.out x17_2 p145 q145
                        cases e145
                        have HR145_0 := Aside0.mk hi145_0
                        have HC145_0 := Aside0.mk hl145_0
                        clear hi145_0 hl145_0
                        replace p145 := eq_true p145
                        replace q145 := eq_true q145
                        go_wp2_with (first | ((with_reducible refine gate_callee (f := 39) rfl ?_); refine goesL_ (some 22) rfl rfl Try.func39 (by kernel_rfl) rfl #[.slice A145_0 (rd_L1 l0 x17_2).length c145_0] rfl (by (try simp only [List.map_toArray, List.map_cons, List.map_nil]); first | done | rfl | (simp only [List.length_drop, List.length_take]; rfl)) ?_; (with_reducible refine (impl_isStep.calls _ _ (rd_L1 l0 x17_2) true _ ?side1 ?side2 A8.out).mono ?_); (case side1 => repeat (first | exact HR145_0.out | (with_reducible refine Kd.C_alloc ?_ _) | (with_reducible refine Kd.C_drewN ?_ _) | (with_reducible refine Kd.C_drew ?_))); (case side2 => exact HC145_0.out); rintro e w' ⟨rfl, ⟨nd, rfl⟩⟩; refine ⟨_, rfl, ?_⟩; have p147 : 0 ≤ (0 : Int) := (by omega); have q147 : 0 < ((rd_L1 l0 x17_2).length : Int) := of_decide_eq_true (by first | (with_reducible assumption) | assumption); obtain ⟨ad147, e147, hx147_0⟩ := Kd.at_int HR145_0.out 0 p147 q147; cases e147; have qi147 : (0 < (rd_L1 l0 x17_2).length) = True := eq_true (by omega); (try rw [show ((0 : Int)).toNat = 0 from rfl] at hx147_0); (try rw [Addr.add_zero'] at hx147_0); replace p147 := eq_true p147; replace q147 := eq_true q147; have p148 : 0 ≤ (1 : Int) := (by omega); have q148 : 1 < ((rd_L1 l0 x17_2).length : Int) := of_decide_eq_true (by first | (with_reducible assumption) | assumption); obtain ⟨ad148, e148, hx148_0⟩ := Kd.at_int HR145_0.out 1 p148 q148; obtain rfl : ad147 = ad148 := (by injection e148); (try simp only [show (1 : Int).toNat = 1 from rfl, Nat.reduceMul, Nat.reduceEqDiff, Go.Addr.add, ↓reduceIte] at hx148_0); have qi148 : (1 < (rd_L1 l0 x17_2).length) = True := eq_true (by omega); (try rw [show ((1 : Int)).toNat = 1 from rfl] at hx148_0); replace p148 := eq_true p148; replace q148 := eq_true q148))
                        go_roundg k2
                        case measure => have := HJ1.out; have := HK2.out; omega
                        case rel => exact ⟨(wrap64 (x3_2 + (rd (rd_L1 l0 x17_2) 0))), (wrap64 (x4_2 + (rd (rd_L1 l0 x17_2) 1))), (wrap64 (x17_2 + 1)), (by first | rfl | (simp; done) | (simp [*]; done)), (by first | rfl | (simp; done) | (simp [*]; done)), (by first | rfl | (simp; done) | (simp [*]; done)), H', ⟨by have := HJ1.out; have := HK2.out; omega⟩, by repeat (first | exact Drawn0.refl _ | apply Drawn0.step)⟩
                      · rw [if_neg c11] at H
                        exact absurd H (by simp)
                    · rw [if_neg c10] at H
                      exact absurd H (by simp)
                  · replace c9 := Bool.eq_false_iff.mpr c9
                    subst c9
                    have H1 : (some false) = some r := by rw [if_neg (show ¬ (false = true) by decide)] at H; exact H
                    clear H
                    have H := H1
                    clear H1
                    obtain rfl := Option.some.inj H
                    have p145 : 0 ≤ (x17_2 : Int) := of_decide_eq_true (by first | (with_reducible assumption) | assumption)
                    have q145 : x17_2 < (l0.length : Int) := of_decide_eq_true (by first | (with_reducible assumption) | assumption)
                    obtain ⟨ad145, A145_0, c145_0, e145, hx145_0, hl145_0, hi145_0⟩ := at_L1 HR0.out x17_2 p145 q145
                    cases e145
                    have HR145_0 := Aside0.mk hi145_0
                    have HC145_0 := Aside0.mk hl145_0
                    clear hi145_0 hl145_0
                    replace p145 := eq_true p145
                    replace q145 := eq_true q145
                    go_wp2_with (first | ((with_reducible refine gate_callee (f := 39) rfl ?_); refine goesL_ (some 22) rfl rfl Try.func39 (by kernel_rfl) rfl #[.slice A145_0 (rd_L1 l0 x17_2).length c145_0] rfl (by (try simp only [List.map_toArray, List.map_cons, List.map_nil]); first | done | rfl | (simp only [List.length_drop, List.length_take]; rfl)) ?_; (with_reducible refine (impl_isStep.calls _ _ (rd_L1 l0 x17_2) false _ ?side1 ?side2 A8.out).mono ?_); (case side1 => repeat (first | exact HR145_0.out | (with_reducible refine Kd.C_alloc ?_ _) | (with_reducible refine Kd.C_drewN ?_ _) | (with_reducible refine Kd.C_drew ?_))); (case side2 => exact HC145_0.out); rintro e w' ⟨rfl, ⟨nd, rfl⟩⟩; refine ⟨_, rfl, ?_⟩))
                    go_ret
                    exact ⟨by first | rfl | (simp; done) | (simp [*]; done), by repeat (first | exact Drawn0.refl _ | apply Drawn0.step)⟩
                · rw [if_neg c7] at H
                  exact absurd H (by simp)
              · rw [if_neg c6] at H
                exact absurd H (by simp)
            · rw [if_neg c5] at H
              have c5b0 : decide (x17_2 < (l0.length : Int)) = false := decide_eq_false c5
              clear c5
              by_cases c12 : x3_2 = 0
              · rw [if_pos c12] at H
                have c12b0 : (x3_2 == 0) = true := beq_iff_eq.mpr c12
                have c12b1 : (x3_2 != 0) = false := bne_eq_false_iff_eq.mpr c12
                clear c12
                obtain rfl := Option.some.inj H
                go_wp2
                go_ret
                exact ⟨by first | rfl | (simp; done) | (simp [*]; done), by repeat (first | exact Drawn0.refl _ | apply Drawn0.step)⟩
              · rw [if_neg c12] at H
                have c12b0 : (x3_2 == 0) = false := beq_eq_false_iff_ne.mpr c12
                have c12b1 : (x3_2 != 0) = true := bne_iff_ne.mpr c12
                obtain rfl := Option.some.inj H
                go_wp2
                go_ret
                exact ⟨by first | rfl | (simp; done) | (simp [*]; done), by repeat (first | exact Drawn0.refl _ | apply Drawn0.step)⟩

/-! ### impl_areaOf: function 24 -/
def impl_areaOf.l0 : Nat → Int → Int → Int → List (List Int) → Int → Int → Option (Int)
  | 0, _, _, _, _, _, _ => none
  | k + 1, x3, x4, x5, x8, x9, x10 => if x10 < x9 then (if 0 ≤ x10 then (if x10 < (x8.length : Int) then (if 1 < ((rd_L1 x8 x10).length : Int) then (if 0 < ((rd_L1 x8 x10).length : Int) then (impl_areaOf.l0 k (wrap64 (x3 + (wrap64 ((wrap64 (x4 * (wrap64 (x5 + (rd (rd_L1 x8 x10) 1))))) - (wrap64 (x5 * (wrap64 (x4 + (rd (rd_L1 x8 x10) 0))))))))) (wrap64 (x4 + (rd (rd_L1 x8 x10) 0))) (wrap64 (x5 + (rd (rd_L1 x8 x10) 1))) x8 x9 (wrap64 (x10 + 1))) else (none)) else (none)) else (none)) else (none)) else (some x3)
def impl_areaOf.f (k : Nat) (l0 : List (List Int)) : Option (Int) := impl_areaOf.l0 k 0 0 0 l0 (l0.length : Int) 0
theorem impl_areaOf.mono_l : ∀ k, (∀ y0 y1 y2 y3 y4 y5, LeO (impl_areaOf.l0 k y0 y1 y2 y3 y4 y5) (impl_areaOf.l0 (k + 1) y0 y1 y2 y3 y4 y5))
  | 0 => fun _ _ _ _ _ _ r h => by simp [impl_areaOf.l0] at h
  | k + 1 => by
    have ih0 := impl_areaOf.mono_l k
    · intro y0 y1 y2 y3 y4 y5
      unfold impl_areaOf.l0
      repeat' first
      | (with_reducible exact ih0 _ _ _ _ _ _)
      | (with_reducible exact LeO.refl _)
      | (with_reducible exact LeO.none _)
      | (with_reducible refine LeO.ite ?_ ?_)
      | (with_reducible refine LeO.bind ?_ (fun _ => ?_))
      | exact ih0 _ _ _ _ _ _
      | exact LeO.none _
      | refine LeO.ite ?_ ?_
      | refine LeO.bind ?_ (fun _ => ?_)
theorem impl_areaOf.mono : ∀ a0 k, LeO (impl_areaOf.f k a0) (impl_areaOf.f (k + 1) a0) := by
  intro a0 k
  have ih0 := impl_areaOf.mono_l k
  unfold impl_areaOf.f
  repeat' first
      | (with_reducible exact ih0 _ _ _ _ _ _)
      | (with_reducible exact LeO.refl _)
      | (with_reducible exact LeO.none _)
      | (with_reducible refine LeO.ite ?_ ?_)
      | (with_reducible refine LeO.bind ?_ (fun _ => ?_))
      | exact ih0 _ _ _ _ _ _
      | exact LeO.none _
      | refine LeO.ite ?_ ?_
      | refine LeO.bind ?_ (fun _ => ?_)
set_option maxHeartbeats 8000000 in
set_option maxRecDepth 100000 in
theorem impl_areaOf.calls (k : Nat) (A0 : Option Addr) (c0 : Nat) (l0 : List (List Int)) (r : Int) (w : World) (hr0 : Kd.C (Kd.slice 3 (Kd.int .i64)) w A0 l0.length l0) (hc0 : l0.length ≤ c0) (h : impl_areaOf.f k l0 = some r) :
    Calls Try.prog 24 #[.slice A0 l0.length c0] w fun e w' => e = .returned (.int .i64 r) ∧ Drawn0 w w' := by
  have HR0 := Aside0.mk hr0
  have HC0 := Aside0.mk hc0
  clear hr0 hc0
  have H : (impl_areaOf.l0 k 0 0 0 l0 (l0.length : Int) 0) = some r := h
  clear h
  have H' := Aside0.mk H
  clear H
  go_enter Try.func24, Try.ntmps24
  go_wp2
  repeat (go_quiet (fail); try go_wp2)
  go_loopg [3, 4, 5, 10] k (fun kq v3 v4 v5 v10 w' => ∃ (x3_1 : Int) (x4_1 : Int) (x5_1 : Int) (x10_1 : Int), v3 = .int .i64 x3_1 ∧ v4 = .int .i64 x4_1 ∧ v5 = .int .i64 x5_1 ∧ v10 = .int .i64 x10_1 ∧ Aside0 (impl_areaOf.l0 kq x3_1 x4_1 x5_1 l0 (l0.length : Int) x10_1 = some r) ∧ Aside0 (kq ≤ k) ∧ Drawn0 w w')
  case atStart => exact ⟨(0), (0), (0), (0), (by first | rfl | (simp; done) | (simp [*]; done)), (by first | rfl | (simp; done) | (simp [*]; done)), (by first | rfl | (simp; done) | (simp [*]; done)), (by first | rfl | (simp; done) | (simp [*]; done)), H', ⟨Nat.le_refl _⟩, by repeat (first | exact Drawn0.refl _ | apply Drawn0.step)⟩
  case round =>
    clear H'
    obtain ⟨x3_1, x4_1, x5_1, x10_1, rfl, rfl, rfl, rfl, HA, HK1, ⟨m1, rfl⟩⟩ := hrel
    cases gk with
    | zero => exact absurd HA.out (by simp [impl_areaOf.l0])
    | succ k1 =>
      have H := HA.out
      clear HA
      simp only [impl_areaOf.l0] at H
      by_cases c2 : x10_1 < (l0.length : Int)
      · rw [if_pos c2] at H
        have c2b0 : decide (x10_1 < (l0.length : Int)) = true := decide_eq_true c2
        clear c2
        by_cases c3 : 0 ≤ x10_1
        · rw [if_pos c3] at H
          have c3b0 : decide (0 ≤ x10_1) = true := decide_eq_true c3
          clear c3
          by_cases c4 : x10_1 < (l0.length : Int)
          · rw [if_pos c4] at H
            have c4b0 : decide (x10_1 < (l0.length : Int)) = true := decide_eq_true c4
            clear c4
            by_cases c5 : 1 < ((rd_L1 l0 x10_1).length : Int)
            · rw [if_pos c5] at H
              have c5b0 : decide (1 < ((rd_L1 l0 x10_1).length : Int)) = true := decide_eq_true c5
              have c5b1 : decide (1 < (rd_L1 l0 x10_1).length) = true := decide_eq_true (by omega)
              clear c5
              by_cases c6 : 0 < ((rd_L1 l0 x10_1).length : Int)
              · rw [if_pos c6] at H
                have c6b0 : decide (0 < ((rd_L1 l0 x10_1).length : Int)) = true := decide_eq_true c6
                have c6b1 : decide (0 < (rd_L1 l0 x10_1).length) = true := decide_eq_true (by omega)
                clear c6
                have H' := Aside0.mk H
                clear H
                have p149 : 0 ≤ (x10_1 : Int) := of_decide_eq_true (by first | (with_reducible assumption) | assumption)
                have q149 : x10_1 < (l0.length : Int) := of_decide_eq_true (by first | (with_reducible assumption) | assumption)
                obtain ⟨ad149, A149_0, c149_0, e149, hx149_0, hl149_0, hi149_0⟩ := at_L1 HR0.out x10_1 p149 q149
                cases e149
                have HR149_0 := Aside0.mk hi149_0
                have HC149_0 := Aside0.mk hl149_0
                clear hi149_0 hl149_0
                replace p149 := eq_true p149
                replace q149 := eq_true q149
                have p150 : 0 ≤ (1 : Int) := (by omega)
                have q150 : 1 < ((rd_L1 l0 x10_1).length : Int) := of_decide_eq_true (by first | (with_reducible assumption) | assumption)
                obtain ⟨ad150, e150, hx150_0⟩ := Kd.at_int HR149_0.out 1 p150 q150
                cases e150
                (try simp only [show (1 : Int).toNat = 1 from rfl, Nat.reduceMul, Nat.reduceEqDiff, Go.Addr.add, ↓reduceIte] at hx150_0)
                have qi150 : (1 < (rd_L1 l0 x10_1).length) = True := eq_true (by omega)
                (try rw [show ((1 : Int)).toNat = 1 from rfl] at hx150_0)
                replace p150 := eq_true p150
                replace q150 := eq_true q150
                have p151 : 0 ≤ (0 : Int) := (by omega)
                have q151 : 0 < ((rd_L1 l0 x10_1).length : Int) := of_decide_eq_true (by first | (with_reducible assumption) | assumption)
                obtain ⟨ad151, e151, hx151_0⟩ := Kd.at_int HR149_0.out 0 p151 q151
                obtain rfl : ad150 = ad151 := (by injection e151)
                have qi151 : (0 < (rd_L1 l0 x10_1).length) = True := eq_true (by omega)
                (try rw [show ((0 : Int)).toNat = 0 from rfl] at hx151_0)
                (try rw [Addr.add_zero'] at hx151_0)
                replace p151 := eq_true p151
                replace q151 := eq_true q151
                have p152 : 0 ≤ (0 : Int) := (by omega)
                have q152 : 0 < ((rd_L1 l0 x10_1).length : Int) := of_decide_eq_true (by first | (with_reducible assumption) | assumption)
                obtain ⟨ad152, e152, hx152_0⟩ := Kd.at_int HR149_0.out 0 p152 q152
                obtain rfl : ad150 = ad152 := (by injection e152)
                have qi152 : (0 < (rd_L1 l0 x10_1).length) = True := eq_true (by omega)
                (try rw [show ((0 : Int)).toNat = 0 from rfl] at hx152_0)
                (try rw [Addr.add_zero'] at hx152_0)
                replace p152 := eq_true p152
                replace q152 := eq_true q152
                have p153 : 0 ≤ (1 : Int) := (by omega)
                have q153 : 1 < ((rd_L1 l0 x10_1).length : Int) := of_decide_eq_true (by first | (with_reducible assumption) | assumption)
                obtain ⟨ad153, e153, hx153_0⟩ := Kd.at_int HR149_0.out 1 p153 q153
                obtain rfl : ad150 = ad153 := (by injection e153)
                (try simp only [show (1 : Int).toNat = 1 from rfl, Nat.reduceMul, Nat.reduceEqDiff, Go.Addr.add, ↓reduceIte] at hx153_0)
                have qi153 : (1 < (rd_L1 l0 x10_1).length) = True := eq_true (by omega)
                (try rw [show ((1 : Int)).toNat = 1 from rfl] at hx153_0)
                replace p153 := eq_true p153
                replace q153 := eq_true q153
                go_wp2
                repeat (go_quiet (fail); try go_wp2)
                go_roundg k1
                case measure => have := HK1.out; omega
                case rel => exact ⟨(wrap64 (x3_1 + (wrap64 ((wrap64 (x4_1 * (wrap64 (x5_1 + (rd (rd_L1 l0 x10_1) 1))))) - (wrap64 (x5_1 * (wrap64 (x4_1 + (rd (rd_L1 l0 x10_1) 0))))))))), (wrap64 (x4_1 + (rd (rd_L1 l0 x10_1) 0))), (wrap64 (x5_1 + (rd (rd_L1 l0 x10_1) 1))), (wrap64 (x10_1 + 1)), (by first | rfl | (simp; done) | (simp [*]; done)), (by first | rfl | (simp; done) | (simp [*]; done)), (by first | rfl | (simp; done) | (simp [*]; done)), (by first | rfl | (simp; done) | (simp [*]; done)), H', ⟨by have := HK1.out; omega⟩, by repeat (first | exact Drawn0.refl _ | apply Drawn0.step)⟩
              · rw [if_neg c6] at H
                exact absurd H (by simp)
            · rw [if_neg c5] at H
              exact absurd H (by simp)
          · rw [if_neg c4] at H
            exact absurd H (by simp)
        · rw [if_neg c3] at H
          exact absurd H (by simp)
      · rw [if_neg c2] at H
        have c2b0 : decide (x10_1 < (l0.length : Int)) = false := decide_eq_false c2
        clear c2
        obtain rfl := Option.some.inj H
        go_wp2
        repeat (go_quiet (fail); try go_wp2)
        go_ret
        exact ⟨by first | rfl | (simp; done) | (simp [*]; done), by repeat (first | exact Drawn0.refl _ | apply Drawn0.step)⟩

end Go.Proofs.Ytbcfgglcabeckaa.PFnMost
